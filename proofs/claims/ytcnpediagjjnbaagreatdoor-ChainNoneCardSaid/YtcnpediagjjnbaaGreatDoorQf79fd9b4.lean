/-
  What is proved: for all arguments the law ChainNone returns true, and its arguments read as they did. Conditions: none.
-/
import Derived.Test.YtcnpediagjjnbaaGreatDoorRows
import Derived.WalkKit
import Derived.ProofKit
import Derived.OpenShut
import Derived.ChangeOld
import Derived.Below
import Derived.Carry
import Derived.Test.YtcnpediagjjnbaaGreatDoorCards
import Derived.Test.YtcnpediagjjnbaaGreatDoorTie
import Derived.LaidMore
import Derived.Stop.Joined
import Derived.Test.YtcnpediagjjnbaaGreatDoorQ0ecb6479
import Derived.Test.YtcnpediagjjnbaaGreatDoorQ520f201a
import Derived.Test.YtcnpediagjjnbaaGreatDoorQd768562e
import Derived.Test.YtcnpediagjjnbaaGreatDoorQ70f96faf
import Derived.Test.YtcnpediagjjnbaaGreatDoorQ00f8e6ce
set_option linter.unusedVariables false
set_option linter.unusedSimpArgs false
namespace Go.Fx
theorem tpEqual_spec {w : World} {x y : Value} {a b : List UInt8} (hx : RdB w.heap x a) (hy : RdB w.heap y b) : cal P f_bytes_Equal [x, y] w fun v w' => v = .bool (a == b) ∧ w = w' := by
  refine s_bytes_Equal fun R hR => ?_
  unfold c_bytes_Equal
  rw [rdP_eq (conv_str UT_bytes UT_uint8 UT_string hx), rdP_eq (conv_str UT_bytes UT_uint8 UT_string hy), eqS_str]
  exact hR _ _ ⟨rfl, rfl⟩
structure Tp where
  b : List UInt8
  armed : Int
  off : Bool
  made : Bool
def Tp.may (x : Tp) : Int := if x.made then (if x.off then 5 else 0) else 2
/-- A tape that may be. -/
def Tp.Ok (x : Tp) : Prop := x.b.length ≤ 262144 ∧ -1 ≤ x.armed ∧ x.armed ≤ 9223372036854775807
def tp (p : Value) (x : Tp) : Asn :=
  .ex fun g => .ex fun s => .star (.pr (p = .pointer (some ⟨g, 0, none⟩))) (.star (blk g #[s, .int .i64 x.armed, .bool x.off, .bool x.made] T_tape_Tape) (ownB s x.b))
def Tp.goes (x : Tp) : Tp := { x with off := true, armed := -1 }
def Tp.append (x : Tp) (a : List UInt8) : Tp × Int :=
  if x.may ≠ 0 then (x, x.may) else if 262144 < x.b.length + a.length then (x, 6) else if x.armed = -1 then ({ x with b := x.b ++ a }, 0) else
  if (a.length : Int) ≤ x.armed then ({ x with b := x.b ++ a, armed := x.armed - a.length }, 0) else ({ x with b := x.b ++ a.take x.armed.toNat, off := true, armed := -1 }, 5)
def Tp.truncate (x : Tp) (n : Int) : Tp × Int :=
  if x.may ≠ 0 then (x, x.may) else if n < 0 ∨ (x.b.length : Int) < n then (x, 1) else ({ x with b := x.b.take n.toNat }, 0)
def Tp.arm (x : Tp) (n : Int) : Tp × Int := if x.may ≠ 0 then (x, x.may) else if n < 0 then (x, 1) else ({ x with armed := n }, 0)
def Tp.calm (x : Tp) : Tp × Int := if x.may ≠ 0 then (x, x.may) else ({ x with armed := -1 }, 0)
def Tp.crash (x : Tp) : Tp × Int := if x.may ≠ 0 then (x, x.may) else (x.goes, 0)
def Tp.restart (x : Tp) : Tp × Int := if x.may = 0 then (x, 7) else if x.may = 5 then ({ x with off := false }, 0) else (x, 2)
def joined (l : List (Sl UInt8)) : List UInt8 := l.flatMap (·.l)
theorem joined_take_succ {l : List (Sl UInt8)} {k : Nat} {a : Sl UInt8} (h : l[k]? = some a) : joined (l.take (k + 1)) = joined (l.take k) ++ a.l := by
  rw [List.take_add_one, h]
  simp [joined]
theorem joined_take_le (l : List (Sl UInt8)) (k : Nat) : (joined (l.take k)).length ≤ (joined l).length := by
  conv => rhs; rw [← List.take_append_drop k l]
  unfold joined
  rw [List.flatMap_append, List.length_append]
  omega
section
variable {w0 w : World} {As : List Asn} {p : Value} {x : Tp}
theorem tp_open : Sep w0 w (tp p x :: As) = ∃ g s, p = .pointer (some ⟨g, 0, none⟩) ∧ Sep w0 w (blk g #[s, .int .i64 x.armed, .bool x.off, .bool x.made] T_tape_Tape :: ownB s x.b :: As) := by
  simp only [tp, Sep_ex, Sep_star, Sep_pr]
theorem tp_i {g : Nat} {s : Value} (hs : Sep w0 w (blk g #[s, .int .i64 x.armed, .bool x.off, .bool x.made] T_tape_Tape :: ownB s x.b :: As)) : Sep w0 w (tp (.pointer (some ⟨g, 0, none⟩)) x :: As) := by
  rw [tp_open]; exact ⟨g, s, rfl, hs⟩
theorem tp_nilP (hs : Sep w0 w (tp p x :: As)) (b : Bool) (K : Value → Prop) : nilP b p K = K (.bool b) := by
  rw [tp_open] at hs
  obtain ⟨g, s, rfl, hs⟩ := hs
  rw [nilP_mk]
  cases b <;> rfl
theorem tpMay_spec (hs : Sep w0 w (tp p x :: As)) : cal P f_tape_Tape_may [p] w fun v w' => v = .int .i64 x.may ∧ w = w' := by
  rw [tp_open] at hs
  obtain ⟨g, s, rfl, hs⟩ := hs
  have hg := hs.blk
  refine s_tape_Tape_may fun R hR => ?_
  unfold c_tape_Tape_may
  obtain ⟨b, armed, off, made⟩ := x
  cases made <;> cases off <;> simp only [nilc_some, fad_mk, pik_true, pik_false, cnd_true, cnd_false, gif_same, gif_tf, gif_ft, gif_undef, bi_add, bi_sub, bi_mul, bi_eql, bi_neq, bi_lss, bi_leq, bi_gtr, bi_geq, notB_bool, cvi_int, lenS_mk, lenT_mk, ext0, ext1, ext2, nilP_mk, nilS_mk, fldv_agg, jn0_k, jn1_k, jn2_k, jn1_and, jn1_or, ex_some, Option.isNone_some, Option.isNone_none, Bool.false_bne, Bool.bne_true, Bool.bne_false, Bool.true_bne, Bool.not_true, Bool.not_false, Bool.and_true, Bool.true_and, Bool.and_false, Bool.false_and, Bool.or_true, Bool.true_or, Bool.or_false, Bool.false_or, cond_true, cond_false, List.getElem?_toArray, List.getElem?_cons_zero, List.getElem?_cons_succ, Nat.zero_add, Nat.add_zero, Nat.reduceAdd, forall_const, ld1_eq hg] <;> exact hR _ _ ⟨rfl, rfl⟩
theorem may_nil : cal P f_tape_Tape_may [.pointer none] w fun v w' => v = .int .i64 2 ∧ w = w' := by
  refine s_tape_Tape_may fun R hR => ?_
  unfold c_tape_Tape_may
  simp only [nilc_some, fad_mk, pik_true, pik_false, cnd_true, cnd_false, gif_same, gif_tf, gif_ft, gif_undef, bi_add, bi_sub, bi_mul, bi_eql, bi_neq, bi_lss, bi_leq, bi_gtr, bi_geq, notB_bool, cvi_int, lenS_mk, lenT_mk, ext0, ext1, ext2, nilP_mk, nilS_mk, fldv_agg, jn0_k, jn1_k, jn2_k, jn1_and, jn1_or, ex_some, Option.isNone_some, Option.isNone_none, Bool.false_bne, Bool.bne_true, Bool.bne_false, Bool.true_bne, Bool.not_true, Bool.not_false, Bool.and_true, Bool.true_and, Bool.and_false, Bool.false_and, Bool.or_true, Bool.true_or, Bool.or_false, Bool.false_or, cond_true, cond_false, List.getElem?_toArray, List.getElem?_cons_zero, List.getElem?_cons_succ, Nat.zero_add, Nat.add_zero, Nat.reduceAdd, forall_const]
  exact hR _ _ ⟨rfl, rfl⟩
theorem tpGoes_spec (hs : Sep w0 w (tp p x :: As)) : cal P f_tape_Tape_goes [p] w fun v w' => v = .tuple #[] ∧ Sep w0 w' (tp p x.goes :: As) := by
  rw [tp_open] at hs
  obtain ⟨g, s, rfl, hs⟩ := hs
  refine s_tape_Tape_goes fun R hR => ?_
  unfold c_tape_Tape_goes
  simp only [nilc_some, fad_mk, pik_true, pik_false, cnd_true, cnd_false, gif_same, gif_tf, gif_ft, gif_undef, bi_add, bi_sub, bi_mul, bi_eql, bi_neq, bi_lss, bi_leq, bi_gtr, bi_geq, notB_bool, cvi_int, lenS_mk, lenT_mk, ext0, ext1, ext2, nilP_mk, nilS_mk, fldv_agg, jn0_k, jn1_k, jn2_k, jn1_and, jn1_or, ex_some, Option.isNone_some, Option.isNone_none, Bool.false_bne, Bool.bne_true, Bool.bne_false, Bool.true_bne, Bool.not_true, Bool.not_false, Bool.and_true, Bool.true_and, Bool.and_false, Bool.false_and, Bool.or_true, Bool.true_or, Bool.or_false, Bool.false_or, cond_true, cond_false, List.getElem?_toArray, List.getElem?_cons_zero, List.getElem?_cons_succ, Nat.zero_add, Nat.add_zero, Nat.reduceAdd, forall_const]
  refine st1_s hs (by simp) rfl fun w1 hs => ?_
  refine st1_s hs (by simp) rfl fun w2 hs => ?_
  exact hR _ _ ⟨rfl, tp_i hs⟩
theorem tpTold_spec {v : Value} {l : List UInt8} (hb : RdB w.heap v l) (hl : l.length ≤ 281474976710656) : cal P f_tape_told [v] w fun r w' => Sep w w' [ownB r l] := by
  refine s_tape_told fun R hR => ?_
  unfold c_tape_told
  rw [hb.len]
  refine mkB_s (Sep.start w) ST_bytes ZC_uint8 hl fun g w1 hs => ?_
  refine cpyB_s ST_bytes hs (hs.rdB hb) fun w2 hs => ?_
  have e1 : l.take (List.replicate l.length (0 : UInt8)).length ++ (List.replicate l.length (0 : UInt8)).drop l.length = l := by simp
  rw [e1] at hs
  have e2 : min l.length (List.replicate l.length (0 : UInt8)).length = l.length := by simp
  rw [e2, slc3 UT_bytes ST_bytes.siz (Nat.le_refl _)]
  exact hR _ _ hs
theorem tpNew_spec : cal P f_tape_New [] w fun v w' => Sep w w' [tp v ⟨[], -1, false, true⟩] := by
  refine s_tape_New fun R hR => ?_
  unfold c_tape_New
  have hb : (Instr.build T_tape_Tape #[(1, .int .i64 (-1)), (3, .bool true)]).run P w = .ok (.agg #[.slice none 0 0, .int .i64 (-1), .bool false, .bool true]) w := by kernel_rfl
  rw [rdP_eq hb]
  refine bx_s (Sep.start w) fun g w1 hs => ?_
  exact hR _ _ (tp_i hs.nil.p1)
theorem tpOf_spec {v : Value} {l : List UInt8} (hb : RdB w.heap v l) : cal P f_tape_Of [v] w fun r w' =>
    (262144 < l.length ∧ r = .tuple #[.pointer none, .int .i64 3] ∧ w = w') ∨ (l.length ≤ 262144 ∧ ∃ p, r = .tuple #[p, .int .i64 0] ∧ Sep w w' [tp p ⟨l, -1, false, true⟩]) := by
  refine s_tape_Of fun R hR => ?_
  unfold c_tape_Of
  simp only [nilc_some, fad_mk, pik_true, pik_false, cnd_true, cnd_false, gif_same, gif_tf, gif_ft, gif_undef, bi_add, bi_sub, bi_mul, bi_eql, bi_neq, bi_lss, bi_leq, bi_gtr, bi_geq, notB_bool, cvi_int, lenS_mk, lenT_mk, ext0, ext1, ext2, nilP_mk, nilS_mk, fldv_agg, jn0_k, jn1_k, jn2_k, jn1_and, jn1_or, ex_some, Option.isNone_some, Option.isNone_none, Bool.false_bne, Bool.bne_true, Bool.bne_false, Bool.true_bne, Bool.not_true, Bool.not_false, Bool.and_true, Bool.true_and, Bool.and_false, Bool.false_and, Bool.or_true, Bool.true_or, Bool.or_false, Bool.false_or, cond_true, cond_false, List.getElem?_toArray, List.getElem?_cons_zero, List.getElem?_cons_succ, Nat.zero_add, Nat.add_zero, Nat.reduceAdd, forall_const, hb.len]
  rw [cnd_bool]
  refine ⟨fun h => ?_, fun h => ?_⟩
  · exact hR _ _ (.inl ⟨by simp at h; omega, rfl, rfl⟩)
  · have h : l.length ≤ 262144 := by simp at h; omega
    refine cal_i tpNew_spec ?_
    rintro p w1 hs
    refine cal_i (tpTold_spec (hs.rdB hb) (by omega)) ?_
    rintro r w2 hs2
    replace hs := (hs.join hs2).p1
    clear hs2
    rw [tp_open] at hs
    obtain ⟨g, s, rfl, hs⟩ := hs
    simp only [nilc_some, fad_mk, pik_true, pik_false, cnd_true, cnd_false, gif_same, gif_tf, gif_ft, gif_undef, bi_add, bi_sub, bi_mul, bi_eql, bi_neq, bi_lss, bi_leq, bi_gtr, bi_geq, notB_bool, cvi_int, lenS_mk, lenT_mk, ext0, ext1, ext2, nilP_mk, nilS_mk, fldv_agg, jn0_k, jn1_k, jn2_k, jn1_and, jn1_or, ex_some, Option.isNone_some, Option.isNone_none, Bool.false_bne, Bool.bne_true, Bool.bne_false, Bool.true_bne, Bool.not_true, Bool.not_false, Bool.and_true, Bool.true_and, Bool.and_false, Bool.false_and, Bool.or_true, Bool.true_or, Bool.or_false, Bool.false_or, cond_true, cond_false, List.getElem?_toArray, List.getElem?_cons_zero, List.getElem?_cons_succ, Nat.zero_add, Nat.add_zero, Nat.reduceAdd, forall_const]
    refine st1_s hs (by simp) hs.p2.one fun w3 hs => ?_
    exact hR _ _ (.inr ⟨h, _, rfl, tp_i hs.d1⟩)
theorem tpAppend_spec {s : Sl (Sl UInt8)} (hs : Sep w0 w (tp p x :: As)) (hx : x.Ok) (hv : ∀ w', Sep w0 w' As → (rSl rBytes).ok w'.heap s) :
    cal P f_tape_Tape_Append [p, s.v] w fun v w' => v = .int .i64 (x.append (joined s.l)).2 ∧ Sep w0 w' (tp p (x.append (joined s.l)).1 :: As) := by
  refine s_tape_Tape_Append fun R hR => ?_
  unfold c_tape_Tape_Append
  refine cal_i (tpMay_spec hs) ?_
  rintro _ _ ⟨rfl, rfl⟩
  simp only [nilc_some, fad_mk, pik_true, pik_false, cnd_true, cnd_false, gif_same, gif_tf, gif_ft, gif_undef, bi_add, bi_sub, bi_mul, bi_eql, bi_neq, bi_lss, bi_leq, bi_gtr, bi_geq, notB_bool, cvi_int, lenS_mk, lenT_mk, ext0, ext1, ext2, nilP_mk, nilS_mk, fldv_agg, jn0_k, jn1_k, jn2_k, jn1_and, jn1_or, ex_some, Option.isNone_some, Option.isNone_none, Bool.false_bne, Bool.bne_true, Bool.bne_false, Bool.true_bne, Bool.not_true, Bool.not_false, Bool.and_true, Bool.true_and, Bool.and_false, Bool.false_and, Bool.or_true, Bool.true_or, Bool.or_false, Bool.false_or, cond_true, cond_false, List.getElem?_toArray, List.getElem?_cons_zero, List.getElem?_cons_succ, Nat.zero_add, Nat.add_zero, Nat.reduceAdd, forall_const]
  rw [cnd_bool]
  refine ⟨fun h => ?_, fun h => ?_⟩
  · have h : x.may ≠ 0 := by simpa using h
    exact hR _ _ ⟨by simp [Tp.append, h], by simpa [Tp.append, h] using hs⟩
  have hmay : x.may = 0 := by simpa using h
  obtain ⟨xb, armed, off, made⟩ := x
  obtain ⟨rfl, rfl⟩ : made = true ∧ off = false := by cases made <;> cases off <;> simp [Tp.may] at hmay ⊢
  obtain ⟨hx1, hx2, hx3⟩ := hx
  simp only at hx1 hx2 hx3
  have hok := hv w hs.tail
  have hlen := hok.2.1
  rw [tp_open] at hs
  obtain ⟨g, sv, rfl, hs⟩ := hs
  have hg := hs.blk
  simp only [nilc_some, fad_mk, pik_true, pik_false, cnd_true, cnd_false, gif_same, gif_tf, gif_ft, gif_undef, bi_add, bi_sub, bi_mul, bi_eql, bi_neq, bi_lss, bi_leq, bi_gtr, bi_geq, notB_bool, cvi_int, lenS_mk, lenT_mk, ext0, ext1, ext2, nilP_mk, nilS_mk, fldv_agg, jn0_k, jn1_k, jn2_k, jn1_and, jn1_or, ex_some, Option.isNone_some, Option.isNone_none, Bool.false_bne, Bool.bne_true, Bool.bne_false, Bool.true_bne, Bool.not_true, Bool.not_false, Bool.and_true, Bool.true_and, Bool.and_false, Bool.false_and, Bool.or_true, Bool.true_or, Bool.or_false, Bool.false_or, cond_true, cond_false, List.getElem?_toArray, List.getElem?_cons_zero, List.getElem?_cons_succ, Nat.zero_add, Nat.add_zero, Nat.reduceAdd, forall_const, ld1_eq hg, hs.p1.rd.len, rSl_len hok]
  rw [wi64 (by omega) (by omega)]
  refine ⟨fun y i w' => ∃ k : Nat, w' = w ∧ k ≤ s.l.length ∧ i = .int .i64 k ∧ y = .int .i64 (262144 - xb.length - (joined (s.l.take k)).length) ∧ xb.length + (joined (s.l.take k)).length ≤ 262144,
    fun _ i _ => (s.l.length - RowKit.intOf i).toNat, ⟨0, rfl, by omega, rfl, by simp [joined], by simp [joined]; omega⟩, ?_⟩
  rintro _ _ _ ⟨k, rfl, hk, rfl, rfl, hsum⟩ -
  simp only [nilc_some, fad_mk, pik_true, pik_false, cnd_true, cnd_false, gif_same, gif_tf, gif_ft, gif_undef, bi_add, bi_sub, bi_mul, bi_eql, bi_neq, bi_lss, bi_leq, bi_gtr, bi_geq, notB_bool, cvi_int, lenS_mk, lenT_mk, ext0, ext1, ext2, nilP_mk, nilS_mk, fldv_agg, jn0_k, jn1_k, jn2_k, jn1_and, jn1_or, ex_some, Option.isNone_some, Option.isNone_none, Bool.false_bne, Bool.bne_true, Bool.bne_false, Bool.true_bne, Bool.not_true, Bool.not_false, Bool.and_true, Bool.true_and, Bool.and_false, Bool.false_and, Bool.or_true, Bool.true_or, Bool.or_false, Bool.false_or, cond_true, cond_false, List.getElem?_toArray, List.getElem?_cons_zero, List.getElem?_cons_succ, Nat.zero_add, Nat.add_zero, Nat.reduceAdd, forall_const]
  rw [cnd_bool]
  refine ⟨fun h => ?_, fun h => ?_⟩
  · have hlt : k < s.l.length := by simpa using h
    obtain ⟨a, ha⟩ : ∃ a, s.l[k]? = some a := ⟨_, List.getElem?_eq_getElem hlt⟩
    have hak := rSl_ok hok ha
    refine rSl_ld1 hok ha rfl ?_
    simp only [nilc_some, fad_mk, pik_true, pik_false, cnd_true, cnd_false, gif_same, gif_tf, gif_ft, gif_undef, bi_add, bi_sub, bi_mul, bi_eql, bi_neq, bi_lss, bi_leq, bi_gtr, bi_geq, notB_bool, cvi_int, lenS_mk, lenT_mk, ext0, ext1, ext2, nilP_mk, nilS_mk, fldv_agg, jn0_k, jn1_k, jn2_k, jn1_and, jn1_or, ex_some, Option.isNone_some, Option.isNone_none, Bool.false_bne, Bool.bne_true, Bool.bne_false, Bool.true_bne, Bool.not_true, Bool.not_false, Bool.and_true, Bool.true_and, Bool.and_false, Bool.false_and, Bool.or_true, Bool.true_or, Bool.or_false, Bool.false_or, cond_true, cond_false, List.getElem?_toArray, List.getElem?_cons_zero, List.getElem?_cons_succ, Nat.zero_add, Nat.add_zero, Nat.reduceAdd, forall_const, rBytes_len hak]
    have hj := joined_take_succ ha
    have hjl := congrArg List.length hj
    rw [List.length_append] at hjl
    have hal := hak.2.1
    rw [cnd_bool]
    refine ⟨fun h => ?_, fun h => ?_⟩
    · have hle := joined_take_le s.l (k + 1)
      have h6 : 262144 < xb.length + (joined s.l).length := by simp at h; omega
      exact hR _ _ ⟨by simp [Tp.append, Tp.may, h6], by simpa [Tp.append, Tp.may, h6] using tp_i (x := ⟨xb, armed, false, true⟩) hs⟩
    · have h : a.l.length ≤ 262144 - xb.length - (joined (s.l.take k)).length := by simp at h; omega
      rw [wi64 (by omega) (by omega), wi64 (by omega) (by omega)]
      exact ⟨⟨k + 1, by simp, by omega, by simp, by congr 1; omega, by omega⟩, by simp [RowKit.intOf]; omega⟩
  have hkl : k = s.l.length := by simp at h; omega
  subst hkl
  rw [List.take_length] at hsum
  have h6 : ¬ 262144 < xb.length + (joined s.l).length := by omega
  refine ⟨fun i w' => ∃ (k : Nat) (sv : Value) (arm : Int), k ≤ s.l.length ∧ i = .int .i64 k ∧ (armed = -1 → arm = -1) ∧ (armed ≠ -1 → arm = armed - (joined (s.l.take k)).length ∧ 0 ≤ arm) ∧
      Sep w0 w' (blk g #[sv, .int .i64 arm, .bool false, .bool true] T_tape_Tape :: ownB sv (xb ++ joined (s.l.take k)) :: As),
    fun i _ => (s.l.length - RowKit.intOf i).toNat, ⟨0, sv, armed, by omega, rfl, id, fun h => ⟨by simp [joined], by omega⟩, by simpa [joined] using hs⟩, ?_⟩
  rintro _ w1 ⟨k, sv1, arm, hk, rfl, hm1, hm2, hs1⟩ -
  simp only [nilc_some, fad_mk, pik_true, pik_false, cnd_true, cnd_false, gif_same, gif_tf, gif_ft, gif_undef, bi_add, bi_sub, bi_mul, bi_eql, bi_neq, bi_lss, bi_leq, bi_gtr, bi_geq, notB_bool, cvi_int, lenS_mk, lenT_mk, ext0, ext1, ext2, nilP_mk, nilS_mk, fldv_agg, jn0_k, jn1_k, jn2_k, jn1_and, jn1_or, ex_some, Option.isNone_some, Option.isNone_none, Bool.false_bne, Bool.bne_true, Bool.bne_false, Bool.true_bne, Bool.not_true, Bool.not_false, Bool.and_true, Bool.true_and, Bool.and_false, Bool.false_and, Bool.or_true, Bool.true_or, Bool.or_false, Bool.false_or, cond_true, cond_false, List.getElem?_toArray, List.getElem?_cons_zero, List.getElem?_cons_succ, Nat.zero_add, Nat.add_zero, Nat.reduceAdd, forall_const]
  rw [cnd_bool]
  refine ⟨fun h => ?_, fun h => ?_⟩
  · have hlt : k < s.l.length := by simpa using h
    obtain ⟨a, ha⟩ : ∃ a, s.l[k]? = some a := ⟨_, List.getElem?_eq_getElem hlt⟩
    have hok1 := hv w1 hs1.tail.tail
    have hak := rSl_ok hok1 ha
    refine rSl_ld1 hok1 ha rfl ?_
    have hg1 := hs1.blk
    have hj := joined_take_succ ha
    have hle := joined_take_le s.l (k + 1)
    have hjl := congrArg List.length hj
    rw [List.length_append] at hjl
    have hal := hak.2.1
    obtain ⟨ap, ac, hav⟩ := hak.1.form
    have hac := hak.2.2 _ _ _ hav
    simp only [nilc_some, fad_mk, pik_true, pik_false, cnd_true, cnd_false, gif_same, gif_tf, gif_ft, gif_undef, bi_add, bi_sub, bi_mul, bi_eql, bi_neq, bi_lss, bi_leq, bi_gtr, bi_geq, notB_bool, cvi_int, lenS_mk, lenT_mk, ext0, ext1, ext2, nilP_mk, nilS_mk, fldv_agg, jn0_k, jn1_k, jn2_k, jn1_and, jn1_or, ex_some, Option.isNone_some, Option.isNone_none, Bool.false_bne, Bool.bne_true, Bool.bne_false, Bool.true_bne, Bool.not_true, Bool.not_false, Bool.and_true, Bool.true_and, Bool.and_false, Bool.false_and, Bool.or_true, Bool.true_or, Bool.or_false, Bool.false_or, cond_true, cond_false, List.getElem?_toArray, List.getElem?_cons_zero, List.getElem?_cons_succ, Nat.zero_add, Nat.add_zero, Nat.reduceAdd, forall_const, rBytes_len hak, ld1_eq hg1]
    refine ⟨fun y w' => ∃ (n : Nat) (arm' : Int), y = .int .i64 n ∧ n ≤ a.l.length ∧ (armed = -1 → n = a.l.length ∧ arm' = -1) ∧ (armed ≠ -1 → n = min a.l.length arm.toNat ∧ arm' = arm - n) ∧
        Sep w0 w' (blk g #[sv1, .int .i64 arm', .bool false, .bool true] T_tape_Tape :: ownB sv1 (xb ++ joined (s.l.take k)) :: As), ?_, ?_⟩
    · change cnd _ _ _
      rw [cnd_bool]
      refine ⟨fun h => ?_, fun h => ?_⟩
      · have harm : arm ≠ -1 := by simpa using h
        have hne : armed ≠ -1 := fun h => harm (hm1 h)
        obtain ⟨e1, e2⟩ := hm2 hne
        rw [min_int, show min (a.l.length : Int) arm = ((min a.l.length arm.toNat : Nat) : Int) by omega, bi_sub, wi64 (by omega) (by omega)]
        refine st1_s hs1 (by simp) rfl fun w2 hs2 => ?_
        exact ⟨min a.l.length arm.toNat, _, rfl, by omega, fun h => absurd h hne, fun _ => ⟨rfl, rfl⟩, hs2⟩
      · have harm : arm = -1 := by simpa using h
        have hne : armed = -1 := by
          rcases Classical.em (armed = -1) with h | h
          · exact h
          · have := hm2 h; omega
        exact ⟨a.l.length, arm, rfl, by omega, fun _ => ⟨rfl, harm⟩, fun h => absurd hne h, hs1⟩
    · rintro _ w2 ⟨n, arm', rfl, hn, hn1, hn2, hs2⟩ -
      have hs2 := hs2.drew (w2.drawn + 1)
      refine drH_at ?_
      simp only [nilc_some, fad_mk, pik_true, pik_false, cnd_true, cnd_false, gif_same, gif_tf, gif_ft, gif_undef, bi_add, bi_sub, bi_mul, bi_eql, bi_neq, bi_lss, bi_leq, bi_gtr, bi_geq, notB_bool, cvi_int, lenS_mk, lenT_mk, ext0, ext1, ext2, nilP_mk, nilS_mk, fldv_agg, jn0_k, jn1_k, jn2_k, jn1_and, jn1_or, ex_some, Option.isNone_some, Option.isNone_none, Bool.false_bne, Bool.bne_true, Bool.bne_false, Bool.true_bne, Bool.not_true, Bool.not_false, Bool.and_true, Bool.true_and, Bool.and_false, Bool.false_and, Bool.or_true, Bool.true_or, Bool.or_false, Bool.false_or, cond_true, cond_false, List.getElem?_toArray, List.getElem?_cons_zero, List.getElem?_cons_succ, Nat.zero_add, Nat.add_zero, Nat.reduceAdd, forall_const, rdS_ld1, ld1_eq hs2.blk]
      rw [hav, slc_to (by omega)]
      refine efC_efP ?_
      have hok2 := hv _ hs2.tail.tail
      have hak2 := rSl_ok hok2 ha
      have hr2 := hak2.1
      rw [hav] at hr2
      refine appB_s ST_bytes UT_bytes (by simp) hs2.p1 (hr2.take hn ac) (by simp; omega) fun v' w3 hs3 => ?_
      refine efC_st1 (st1_s hs3.p1 (by simp) hs3.one fun w4 hs4 => ?_)
      rw [cnd_bool]
      refine ⟨fun h => ?_, fun h => ?_⟩
      · have hna : n < a.l.length := by simpa using h
        have hne : armed ≠ -1 := fun h => by have := hn1 h; omega
        obtain ⟨e1, e2⟩ := hm2 hne
        obtain ⟨e3, e4⟩ := hn2 hne
        have hs5 := tp_i (x := ⟨xb ++ joined (s.l.take k) ++ a.l.take n, arm', false, true⟩) hs4
        refine cal_i (tpGoes_spec hs5) ?_
        rintro _ w5 ⟨rfl, hs6⟩
        have h7 : ¬ (joined s.l).length ≤ armed := by omega
        have e8 : (joined s.l).take armed.toNat = joined (s.l.take k) ++ a.l.take n := by
          have e9 : joined s.l = joined (s.l.take k) ++ a.l ++ joined (s.l.drop (k + 1)) := by
            rw [← hj]
            unfold joined
            rw [← List.flatMap_append, List.take_append_drop]
          rw [e9, show armed.toNat = (joined (s.l.take k)).length + n by omega, List.append_assoc, List.take_append, List.take_of_length_le (by omega), Nat.add_sub_cancel_left, List.take_append_of_le_length (by omega)]
        refine hR _ _ ⟨by simp [Tp.append, Tp.may, h6, hne, h7], ?_⟩
        simpa [Tp.append, Tp.may, h6, hne, h7, e8, Tp.goes] using hs6
      · have hna : n = a.l.length := by simp at h; omega
        rw [wi64 (by omega) (by omega)]
        refine ⟨⟨k + 1, v', arm', by omega, by simp, fun h => (hn1 h).2, fun h => ?_, ?_⟩, by simp [RowKit.intOf]; omega⟩
        · have e1 := hm2 h
          have e2 := hn2 h
          omega
        · rw [hj, ← List.append_assoc]
          rw [hna, List.take_length] at hs4
          exact hs4
  · have hkl : k = s.l.length := by simp at h; omega
    subst hkl
    rw [List.take_length] at hs1 hm2
    by_cases hne : armed = -1
    · have e1 := hm1 hne
      subst e1
      exact hR _ _ ⟨by simp [Tp.append, Tp.may, h6, hne], by simpa [Tp.append, Tp.may, h6, hne] using tp_i (x := ⟨xb ++ joined s.l, -1, false, true⟩) hs1⟩
    · obtain ⟨e1, e2⟩ := hm2 hne
      have h7 : (joined s.l).length ≤ armed := by omega
      exact hR _ _ ⟨by simp [Tp.append, Tp.may, h6, hne, h7], by simpa [Tp.append, Tp.may, h6, hne, h7, e1] using tp_i (x := ⟨xb ++ joined s.l, arm, false, true⟩) hs1⟩
end
end Go.Fx
set_option linter.unusedVariables false
set_option linter.unusedSimpArgs false
namespace Go.Fx
theorem Tp.may_zero {x : Tp} : x.may = 0 ↔ x.made = true ∧ x.off = false := by
  obtain ⟨b, armed, off, made⟩ := x
  cases made <;> cases off <;> simp [Tp.may]
theorem Tp.may_five {x : Tp} : x.may = 5 ↔ x.made = true ∧ x.off = true := by
  obtain ⟨b, armed, off, made⟩ := x
  cases made <;> cases off <;> simp [Tp.may]
theorem Tp.may_two {x : Tp} : x.may = 2 ↔ x.made = false := by
  obtain ⟨b, armed, off, made⟩ := x
  cases made <;> cases off <;> simp [Tp.may]
theorem Tp.append_ok {x : Tp} (h : x.Ok) (a : List UInt8) : (x.append a).1.Ok := by
  unfold Tp.append
  obtain ⟨h1, h2, h3⟩ := h
  repeat' split
  all_goals first | exact ⟨h1, h2, h3⟩ | (refine ⟨?_, ?_, ?_⟩ <;> simp <;> omega)
theorem Tp.truncate_ok {x : Tp} (h : x.Ok) (n : Int) : (x.truncate n).1.Ok := by
  unfold Tp.truncate
  obtain ⟨h1, h2, h3⟩ := h
  repeat' split
  all_goals first | exact ⟨h1, h2, h3⟩ | (refine ⟨?_, ?_, ?_⟩ <;> simp <;> omega)
theorem Tp.arm_ok {x : Tp} (h : x.Ok) {n : Int} (hn : n ≤ 9223372036854775807) : (x.arm n).1.Ok := by
  unfold Tp.arm
  obtain ⟨h1, h2, h3⟩ := h
  repeat' split
  all_goals first | exact ⟨h1, h2, h3⟩ | (refine ⟨?_, ?_, ?_⟩ <;> simp <;> omega)
theorem Tp.calm_ok {x : Tp} (h : x.Ok) : x.calm.1.Ok := by
  unfold Tp.calm
  obtain ⟨h1, h2, h3⟩ := h
  split
  all_goals first | exact ⟨h1, h2, h3⟩ | exact ⟨h1, by simp, by simp⟩
theorem Tp.crash_ok {x : Tp} (h : x.Ok) : x.crash.1.Ok := by
  unfold Tp.crash Tp.goes
  obtain ⟨h1, h2, h3⟩ := h
  split
  all_goals first | exact ⟨h1, h2, h3⟩ | exact ⟨h1, by simp, by simp⟩
theorem Tp.restart_ok {x : Tp} (h : x.Ok) : x.restart.1.Ok := by
  unfold Tp.restart
  obtain ⟨h1, h2, h3⟩ := h
  repeat' split
  all_goals exact ⟨h1, h2, h3⟩
section
variable {w0 w : World} {As : List Asn} {p : Value} {x : Tp}
theorem tpTruncate_spec {n : Int} (hs : Sep w0 w (tp p x :: As)) (hx : x.Ok) : cal P f_tape_Tape_Truncate [p, .int .i64 n] w fun v w' => v = .int .i64 (x.truncate n).2 ∧ Sep w0 w' (tp p (x.truncate n).1 :: As) := by
  refine s_tape_Tape_Truncate fun R hR => ?_
  unfold c_tape_Tape_Truncate
  refine cal_i (tpMay_spec hs) ?_
  rintro _ _ ⟨rfl, rfl⟩
  simp only [nilc_some, fad_mk, pik_true, pik_false, cnd_true, cnd_false, gif_same, gif_tf, gif_ft, gif_undef, bi_add, bi_sub, bi_mul, bi_eql, bi_neq, bi_lss, bi_leq, bi_gtr, bi_geq, notB_bool, cvi_int, lenS_mk, lenT_mk, ext0, ext1, ext2, nilP_mk, nilS_mk, fldv_agg, jn0_k, jn1_k, jn2_k, jn1_and, jn1_or, ex_some, Option.isNone_some, Option.isNone_none, Bool.false_bne, Bool.bne_true, Bool.bne_false, Bool.true_bne, Bool.not_true, Bool.not_false, Bool.and_true, Bool.true_and, Bool.and_false, Bool.false_and, Bool.or_true, Bool.true_or, Bool.or_false, Bool.false_or, cond_true, cond_false, List.getElem?_toArray, List.getElem?_cons_zero, List.getElem?_cons_succ, Nat.zero_add, Nat.add_zero, Nat.reduceAdd, forall_const]
  rw [cnd_bool]
  refine ⟨fun h => ?_, fun h => ?_⟩
  · have h : x.may ≠ 0 := by simpa using h
    exact hR _ _ ⟨by simp [Tp.truncate, h], by simpa [Tp.truncate, h] using hs⟩
  have hmay : x.may = 0 := by simpa using h
  obtain ⟨hx1, hx2, hx3⟩ := hx
  rw [tp_open] at hs
  obtain ⟨g, sv, rfl, hs⟩ := hs
  have hg := hs.blk
  simp only [nilc_some, fad_mk, pik_true, pik_false, cnd_true, cnd_false, gif_same, gif_tf, gif_ft, gif_undef, bi_add, bi_sub, bi_mul, bi_eql, bi_neq, bi_lss, bi_leq, bi_gtr, bi_geq, notB_bool, cvi_int, lenS_mk, lenT_mk, ext0, ext1, ext2, nilP_mk, nilS_mk, fldv_agg, jn0_k, jn1_k, jn2_k, jn1_and, jn1_or, ex_some, Option.isNone_some, Option.isNone_none, Bool.false_bne, Bool.bne_true, Bool.bne_false, Bool.true_bne, Bool.not_true, Bool.not_false, Bool.and_true, Bool.true_and, Bool.and_false, Bool.false_and, Bool.or_true, Bool.true_or, Bool.or_false, Bool.false_or, cond_true, cond_false, List.getElem?_toArray, List.getElem?_cons_zero, List.getElem?_cons_succ, Nat.zero_add, Nat.add_zero, Nat.reduceAdd, forall_const, ld1_eq hg, hs.p1.rd.len]
  rw [cnd_bool]
  refine ⟨fun h => ?_, fun h => ?_⟩
  · have h : n < 0 ∨ (x.b.length : Int) < n := by simpa using h
    exact hR _ _ ⟨by simp [Tp.truncate, hmay, h], by simpa [Tp.truncate, hmay, h] using tp_i hs⟩
  · have h : ¬ (n < 0 ∨ (x.b.length : Int) < n) := by simpa using h
    obtain ⟨m, rfl⟩ := Int.eq_ofNat_of_zero_le (show 0 ≤ n by omega)
    obtain ⟨a, c, rfl, hc⟩ := hs.p1.form
    have hm : m ≤ x.b.length := by omega
    rw [slc_to (by omega)]
    refine cal_i (tpTold_spec (hs.p1.rd.take hm c) (by simp; omega)) ?_
    rintro r w1 hs1
    replace hs := (hs.join hs1).p1
    refine st1_s hs (by simp) hs.p1.one fun w2 hs2 => ?_
    have ht : x.truncate m = ({ x with b := x.b.take m }, 0) := by rw [Tp.truncate, if_neg (by simp [hmay]), if_neg (by omega)]; simp
    exact hR _ _ ⟨by rw [ht], by rw [ht]; exact tp_i (x := { x with b := x.b.take m }) hs2.d2⟩
theorem tpArm_spec {n : Int} (hs : Sep w0 w (tp p x :: As)) : cal P f_tape_Tape_Arm [p, .int .i64 n] w fun v w' => v = .int .i64 (x.arm n).2 ∧ Sep w0 w' (tp p (x.arm n).1 :: As) := by
  refine s_tape_Tape_Arm fun R hR => ?_
  unfold c_tape_Tape_Arm
  refine cal_i (tpMay_spec hs) ?_
  rintro _ _ ⟨rfl, rfl⟩
  simp only [nilc_some, fad_mk, pik_true, pik_false, cnd_true, cnd_false, gif_same, gif_tf, gif_ft, gif_undef, bi_add, bi_sub, bi_mul, bi_eql, bi_neq, bi_lss, bi_leq, bi_gtr, bi_geq, notB_bool, cvi_int, lenS_mk, lenT_mk, ext0, ext1, ext2, nilP_mk, nilS_mk, fldv_agg, jn0_k, jn1_k, jn2_k, jn1_and, jn1_or, ex_some, Option.isNone_some, Option.isNone_none, Bool.false_bne, Bool.bne_true, Bool.bne_false, Bool.true_bne, Bool.not_true, Bool.not_false, Bool.and_true, Bool.true_and, Bool.and_false, Bool.false_and, Bool.or_true, Bool.true_or, Bool.or_false, Bool.false_or, cond_true, cond_false, List.getElem?_toArray, List.getElem?_cons_zero, List.getElem?_cons_succ, Nat.zero_add, Nat.add_zero, Nat.reduceAdd, forall_const]
  rw [cnd_bool]
  refine ⟨fun h => ?_, fun h => ?_⟩
  · have h : x.may ≠ 0 := by simpa using h
    exact hR _ _ ⟨by simp [Tp.arm, h], by simpa [Tp.arm, h] using hs⟩
  have hmay : x.may = 0 := by simpa using h
  rw [cnd_bool]
  refine ⟨fun h => ?_, fun h => ?_⟩
  · have h : n < 0 := by simpa using h
    exact hR _ _ ⟨by simp [Tp.arm, hmay, h], by simpa [Tp.arm, hmay, h] using hs⟩
  · have h : ¬ n < 0 := by simpa using h
    rw [tp_open] at hs
    obtain ⟨g, sv, rfl, hs⟩ := hs
    simp only [nilc_some, fad_mk, pik_true, pik_false, cnd_true, cnd_false, gif_same, gif_tf, gif_ft, gif_undef, bi_add, bi_sub, bi_mul, bi_eql, bi_neq, bi_lss, bi_leq, bi_gtr, bi_geq, notB_bool, cvi_int, lenS_mk, lenT_mk, ext0, ext1, ext2, nilP_mk, nilS_mk, fldv_agg, jn0_k, jn1_k, jn2_k, jn1_and, jn1_or, ex_some, Option.isNone_some, Option.isNone_none, Bool.false_bne, Bool.bne_true, Bool.bne_false, Bool.true_bne, Bool.not_true, Bool.not_false, Bool.and_true, Bool.true_and, Bool.and_false, Bool.false_and, Bool.or_true, Bool.true_or, Bool.or_false, Bool.false_or, cond_true, cond_false, List.getElem?_toArray, List.getElem?_cons_zero, List.getElem?_cons_succ, Nat.zero_add, Nat.add_zero, Nat.reduceAdd, forall_const]
    refine st1_s hs (by simp) rfl fun w2 hs2 => ?_
    exact hR _ _ ⟨by simp [Tp.arm, hmay, h], by simpa [Tp.arm, hmay, h] using tp_i (x := { x with armed := n }) hs2⟩
theorem tpCrash_spec (hs : Sep w0 w (tp p x :: As)) : cal P f_tape_Tape_Crash [p] w fun v w' => v = .int .i64 x.crash.2 ∧ Sep w0 w' (tp p x.crash.1 :: As) := by
  refine s_tape_Tape_Crash fun R hR => ?_
  unfold c_tape_Tape_Crash
  refine cal_i (tpMay_spec hs) ?_
  rintro _ _ ⟨rfl, rfl⟩
  simp only [nilc_some, fad_mk, pik_true, pik_false, cnd_true, cnd_false, gif_same, gif_tf, gif_ft, gif_undef, bi_add, bi_sub, bi_mul, bi_eql, bi_neq, bi_lss, bi_leq, bi_gtr, bi_geq, notB_bool, cvi_int, lenS_mk, lenT_mk, ext0, ext1, ext2, nilP_mk, nilS_mk, fldv_agg, jn0_k, jn1_k, jn2_k, jn1_and, jn1_or, ex_some, Option.isNone_some, Option.isNone_none, Bool.false_bne, Bool.bne_true, Bool.bne_false, Bool.true_bne, Bool.not_true, Bool.not_false, Bool.and_true, Bool.true_and, Bool.and_false, Bool.false_and, Bool.or_true, Bool.true_or, Bool.or_false, Bool.false_or, cond_true, cond_false, List.getElem?_toArray, List.getElem?_cons_zero, List.getElem?_cons_succ, Nat.zero_add, Nat.add_zero, Nat.reduceAdd, forall_const]
  rw [cnd_bool]
  refine ⟨fun h => ?_, fun h => ?_⟩
  · have hmay : x.may = 0 := by simpa using h
    refine cal_i (tpGoes_spec hs) ?_
    rintro _ w1 ⟨rfl, hs⟩
    exact hR _ _ ⟨by simp [Tp.crash, hmay], by simpa [Tp.crash, hmay] using hs⟩
  · have h : x.may ≠ 0 := by simpa using h
    exact hR _ _ ⟨by simp [Tp.crash, h], by simpa [Tp.crash, h] using hs⟩
theorem tpRestart_spec (hs : Sep w0 w (tp p x :: As)) : cal P f_tape_Tape_Restart [p] w fun v w' => v = .int .i64 x.restart.2 ∧ Sep w0 w' (tp p x.restart.1 :: As) := by
  refine s_tape_Tape_Restart fun R hR => ?_
  unfold c_tape_Tape_Restart
  refine cal_i (tpMay_spec hs) ?_
  rintro _ _ ⟨rfl, rfl⟩
  simp only [nilc_some, fad_mk, pik_true, pik_false, cnd_true, cnd_false, gif_same, gif_tf, gif_ft, gif_undef, bi_add, bi_sub, bi_mul, bi_eql, bi_neq, bi_lss, bi_leq, bi_gtr, bi_geq, notB_bool, cvi_int, lenS_mk, lenT_mk, ext0, ext1, ext2, nilP_mk, nilS_mk, fldv_agg, jn0_k, jn1_k, jn2_k, jn1_and, jn1_or, ex_some, Option.isNone_some, Option.isNone_none, Bool.false_bne, Bool.bne_true, Bool.bne_false, Bool.true_bne, Bool.not_true, Bool.not_false, Bool.and_true, Bool.true_and, Bool.and_false, Bool.false_and, Bool.or_true, Bool.true_or, Bool.or_false, Bool.false_or, cond_true, cond_false, List.getElem?_toArray, List.getElem?_cons_zero, List.getElem?_cons_succ, Nat.zero_add, Nat.add_zero, Nat.reduceAdd, forall_const]
  rw [cnd_bool]
  refine ⟨fun h => ?_, fun h => ?_⟩
  · have hmay : x.may = 0 := by simpa using h
    exact hR _ _ ⟨by simp [Tp.restart, hmay], by simpa [Tp.restart, hmay] using hs⟩
  have h0 : x.may ≠ 0 := by simpa using h
  rw [cnd_bool]
  refine ⟨fun h => ?_, fun h => ?_⟩
  · have h : x.may = 5 := by simpa using h
    rw [tp_open] at hs
    obtain ⟨g, sv, rfl, hs⟩ := hs
    simp only [nilc_some, fad_mk, pik_true, pik_false, cnd_true, cnd_false, gif_same, gif_tf, gif_ft, gif_undef, bi_add, bi_sub, bi_mul, bi_eql, bi_neq, bi_lss, bi_leq, bi_gtr, bi_geq, notB_bool, cvi_int, lenS_mk, lenT_mk, ext0, ext1, ext2, nilP_mk, nilS_mk, fldv_agg, jn0_k, jn1_k, jn2_k, jn1_and, jn1_or, ex_some, Option.isNone_some, Option.isNone_none, Bool.false_bne, Bool.bne_true, Bool.bne_false, Bool.true_bne, Bool.not_true, Bool.not_false, Bool.and_true, Bool.true_and, Bool.and_false, Bool.false_and, Bool.or_true, Bool.true_or, Bool.or_false, Bool.false_or, cond_true, cond_false, List.getElem?_toArray, List.getElem?_cons_zero, List.getElem?_cons_succ, Nat.zero_add, Nat.add_zero, Nat.reduceAdd, forall_const]
    refine st1_s hs (by simp) rfl fun w2 hs2 => ?_
    exact hR _ _ ⟨by simp [Tp.restart, h], by simpa [Tp.restart, h] using tp_i (x := { x with off := false }) hs2⟩
  · have h : x.may ≠ 5 := by simpa using h
    exact hR _ _ ⟨by simp [Tp.restart, h, h0], by simpa [Tp.restart, h, h0] using hs⟩
theorem tpOn_spec (hs : Sep w0 w (tp p x :: As)) : cal P f_tape_Tape_On [p] w fun v w' => v = .bool (x.made && !x.off) ∧ w = w' := by
  refine s_tape_Tape_On fun R hR => ?_
  unfold c_tape_Tape_On
  refine cal_i (tpMay_spec hs) ?_
  rintro _ _ ⟨rfl, rfl⟩
  simp only [nilc_some, fad_mk, pik_true, pik_false, cnd_true, cnd_false, gif_same, gif_tf, gif_ft, gif_undef, bi_add, bi_sub, bi_mul, bi_eql, bi_neq, bi_lss, bi_leq, bi_gtr, bi_geq, notB_bool, cvi_int, lenS_mk, lenT_mk, ext0, ext1, ext2, nilP_mk, nilS_mk, fldv_agg, jn0_k, jn1_k, jn2_k, jn1_and, jn1_or, ex_some, Option.isNone_some, Option.isNone_none, Bool.false_bne, Bool.bne_true, Bool.bne_false, Bool.true_bne, Bool.not_true, Bool.not_false, Bool.and_true, Bool.true_and, Bool.and_false, Bool.false_and, Bool.or_true, Bool.true_or, Bool.or_false, Bool.false_or, cond_true, cond_false, List.getElem?_toArray, List.getElem?_cons_zero, List.getElem?_cons_succ, Nat.zero_add, Nat.add_zero, Nat.reduceAdd, forall_const]
  refine hR _ _ ⟨?_, rfl⟩
  obtain ⟨b, armed, off, made⟩ := x
  cases made <;> cases off <;> rfl
theorem tpBytes_spec (hs : Sep w0 w (tp p x :: As)) (hx : x.Ok) (hm : x.made = true) : cal P f_tape_Tape_Bytes [p] w fun v w' => Sep w w' [ownB v x.b] := by
  refine s_tape_Tape_Bytes fun R hR => ?_
  unfold c_tape_Tape_Bytes
  refine cal_i (tpMay_spec hs) ?_
  rintro _ _ ⟨rfl, rfl⟩
  have h2 : (x.may == 2) = false := by cases h : x.off <;> simp [Tp.may, hm, h]
  simp only [nilc_some, fad_mk, pik_true, pik_false, cnd_true, cnd_false, gif_same, gif_tf, gif_ft, gif_undef, bi_add, bi_sub, bi_mul, bi_eql, bi_neq, bi_lss, bi_leq, bi_gtr, bi_geq, notB_bool, cvi_int, lenS_mk, lenT_mk, ext0, ext1, ext2, nilP_mk, nilS_mk, fldv_agg, jn0_k, jn1_k, jn2_k, jn1_and, jn1_or, ex_some, Option.isNone_some, Option.isNone_none, Bool.false_bne, Bool.bne_true, Bool.bne_false, Bool.true_bne, Bool.not_true, Bool.not_false, Bool.and_true, Bool.true_and, Bool.and_false, Bool.false_and, Bool.or_true, Bool.true_or, Bool.or_false, Bool.false_or, cond_true, cond_false, List.getElem?_toArray, List.getElem?_cons_zero, List.getElem?_cons_succ, Nat.zero_add, Nat.add_zero, Nat.reduceAdd, forall_const, h2]
  rw [tp_open] at hs
  obtain ⟨g, sv, rfl, hs⟩ := hs
  simp only [nilc_some, fad_mk, pik_true, pik_false, cnd_true, cnd_false, gif_same, gif_tf, gif_ft, gif_undef, bi_add, bi_sub, bi_mul, bi_eql, bi_neq, bi_lss, bi_leq, bi_gtr, bi_geq, notB_bool, cvi_int, lenS_mk, lenT_mk, ext0, ext1, ext2, nilP_mk, nilS_mk, fldv_agg, jn0_k, jn1_k, jn2_k, jn1_and, jn1_or, ex_some, Option.isNone_some, Option.isNone_none, Bool.false_bne, Bool.bne_true, Bool.bne_false, Bool.true_bne, Bool.not_true, Bool.not_false, Bool.and_true, Bool.true_and, Bool.and_false, Bool.false_and, Bool.or_true, Bool.true_or, Bool.or_false, Bool.false_or, cond_true, cond_false, List.getElem?_toArray, List.getElem?_cons_zero, List.getElem?_cons_succ, Nat.zero_add, Nat.add_zero, Nat.reduceAdd, forall_const, ld1_eq hs.blk]
  obtain ⟨hx1, hx2, hx3⟩ := hx
  exact cal_i (tpTold_spec hs.p1.rd (by omega)) fun v w' h => hR _ _ h
theorem tpLen_spec (hs : Sep w0 w (tp p x :: As)) (hm : x.made = true) : cal P f_tape_Tape_Len [p] w fun v w' => v = .int .i64 x.b.length ∧ w = w' := by
  refine s_tape_Tape_Len fun R hR => ?_
  unfold c_tape_Tape_Len
  refine cal_i (tpMay_spec hs) ?_
  rintro _ _ ⟨rfl, rfl⟩
  have h2 : (x.may == 2) = false := by cases h : x.off <;> simp [Tp.may, hm, h]
  simp only [nilc_some, fad_mk, pik_true, pik_false, cnd_true, cnd_false, gif_same, gif_tf, gif_ft, gif_undef, bi_add, bi_sub, bi_mul, bi_eql, bi_neq, bi_lss, bi_leq, bi_gtr, bi_geq, notB_bool, cvi_int, lenS_mk, lenT_mk, ext0, ext1, ext2, nilP_mk, nilS_mk, fldv_agg, jn0_k, jn1_k, jn2_k, jn1_and, jn1_or, ex_some, Option.isNone_some, Option.isNone_none, Bool.false_bne, Bool.bne_true, Bool.bne_false, Bool.true_bne, Bool.not_true, Bool.not_false, Bool.and_true, Bool.true_and, Bool.and_false, Bool.false_and, Bool.or_true, Bool.true_or, Bool.or_false, Bool.false_or, cond_true, cond_false, List.getElem?_toArray, List.getElem?_cons_zero, List.getElem?_cons_succ, Nat.zero_add, Nat.add_zero, Nat.reduceAdd, forall_const, h2]
  rw [tp_open] at hs
  obtain ⟨g, sv, rfl, hs⟩ := hs
  simp only [nilc_some, fad_mk, pik_true, pik_false, cnd_true, cnd_false, gif_same, gif_tf, gif_ft, gif_undef, bi_add, bi_sub, bi_mul, bi_eql, bi_neq, bi_lss, bi_leq, bi_gtr, bi_geq, notB_bool, cvi_int, lenS_mk, lenT_mk, ext0, ext1, ext2, nilP_mk, nilS_mk, fldv_agg, jn0_k, jn1_k, jn2_k, jn1_and, jn1_or, ex_some, Option.isNone_some, Option.isNone_none, Bool.false_bne, Bool.bne_true, Bool.bne_false, Bool.true_bne, Bool.not_true, Bool.not_false, Bool.and_true, Bool.true_and, Bool.and_false, Bool.false_and, Bool.or_true, Bool.true_or, Bool.or_false, Bool.false_or, cond_true, cond_false, List.getElem?_toArray, List.getElem?_cons_zero, List.getElem?_cons_succ, Nat.zero_add, Nat.add_zero, Nat.reduceAdd, forall_const, ld1_eq hs.blk, hs.p1.rd.len]
  exact hR _ _ ⟨rfl, rfl⟩
theorem tpClone_spec (hs : Sep w0 w (tp p x :: As)) (hx : x.Ok) (hm : x.made = true) : cal P f_tape_Tape_Clone [p] w fun v w' => Sep w w' [tp v x] := by
  refine s_tape_Tape_Clone fun R hR => ?_
  unfold c_tape_Tape_Clone
  refine cal_i (tpMay_spec hs) ?_
  rintro _ _ ⟨rfl, rfl⟩
  have h2 : (x.may == 2) = false := by cases h : x.off <;> simp [Tp.may, hm, h]
  simp only [nilc_some, fad_mk, pik_true, pik_false, cnd_true, cnd_false, gif_same, gif_tf, gif_ft, gif_undef, bi_add, bi_sub, bi_mul, bi_eql, bi_neq, bi_lss, bi_leq, bi_gtr, bi_geq, notB_bool, cvi_int, lenS_mk, lenT_mk, ext0, ext1, ext2, nilP_mk, nilS_mk, fldv_agg, jn0_k, jn1_k, jn2_k, jn1_and, jn1_or, ex_some, Option.isNone_some, Option.isNone_none, Bool.false_bne, Bool.bne_true, Bool.bne_false, Bool.true_bne, Bool.not_true, Bool.not_false, Bool.and_true, Bool.true_and, Bool.and_false, Bool.false_and, Bool.or_true, Bool.true_or, Bool.or_false, Bool.false_or, cond_true, cond_false, List.getElem?_toArray, List.getElem?_cons_zero, List.getElem?_cons_succ, Nat.zero_add, Nat.add_zero, Nat.reduceAdd, forall_const, h2]
  rw [tp_open] at hs
  obtain ⟨g, sv, rfl, hs⟩ := hs
  obtain ⟨hx1, hx2, hx3⟩ := hx
  have hr := hs.p1.rd
  have h1 := hs.p1.one
  simp only [nilc_some, fad_mk, pik_true, pik_false, cnd_true, cnd_false, gif_same, gif_tf, gif_ft, gif_undef, bi_add, bi_sub, bi_mul, bi_eql, bi_neq, bi_lss, bi_leq, bi_gtr, bi_geq, notB_bool, cvi_int, lenS_mk, lenT_mk, ext0, ext1, ext2, nilP_mk, nilS_mk, fldv_agg, jn0_k, jn1_k, jn2_k, jn1_and, jn1_or, ex_some, Option.isNone_some, Option.isNone_none, Bool.false_bne, Bool.bne_true, Bool.bne_false, Bool.true_bne, Bool.not_true, Bool.not_false, Bool.and_true, Bool.true_and, Bool.and_false, Bool.false_and, Bool.or_true, Bool.true_or, Bool.or_false, Bool.false_or, cond_true, cond_false, List.getElem?_toArray, List.getElem?_cons_zero, List.getElem?_cons_succ, Nat.zero_add, Nat.add_zero, Nat.reduceAdd, forall_const, ldN_eq hs.blk]
  refine ⟨by simp, ?_⟩
  refine alloc_s (Sep.start w) (al_tape_Tape w) fun g1 w1 hs1 => ?_
  refine stN_s hs1 (by simp) (by simp) (by simp; exact ⟨h1, rfl, rfl, rfl⟩) fun w2 hs2 => ?_
  have hfr := hs2.fr0
  have hg := hfr.blk hs.blk (by simp)
  simp only [nilc_some, fad_mk, pik_true, pik_false, cnd_true, cnd_false, gif_same, gif_tf, gif_ft, gif_undef, bi_add, bi_sub, bi_mul, bi_eql, bi_neq, bi_lss, bi_leq, bi_gtr, bi_geq, notB_bool, cvi_int, lenS_mk, lenT_mk, ext0, ext1, ext2, nilP_mk, nilS_mk, fldv_agg, jn0_k, jn1_k, jn2_k, jn1_and, jn1_or, ex_some, Option.isNone_some, Option.isNone_none, Bool.false_bne, Bool.bne_true, Bool.bne_false, Bool.true_bne, Bool.not_true, Bool.not_false, Bool.and_true, Bool.true_and, Bool.and_false, Bool.false_and, Bool.or_true, Bool.true_or, Bool.or_false, Bool.false_or, cond_true, cond_false, List.getElem?_toArray, List.getElem?_cons_zero, List.getElem?_cons_succ, Nat.zero_add, Nat.add_zero, Nat.reduceAdd, forall_const, ld1_eq hg]
  refine cal_i (tpTold_spec (hs2.rdB hr) (by omega)) ?_
  rintro r w3 hs3
  replace hs2 := (hs2.join hs3).p1
  clear hs3
  refine st1_s hs2 (by simp [splice]) hs2.p1.one fun w4 hs4 => ?_
  exact hR _ _ (tp_i hs4)
end
/-! ### One that no call made -/
section
variable {w : World} {p : Value} (hm : ∀ w', w' = w → cal P f_tape_Tape_may [p] w' fun v w'' => v = .int .i64 2 ∧ w' = w'')
include hm
theorem Append_none (v : Value) : cal P f_tape_Tape_Append [p, v] w fun v w' => v = .int .i64 2 ∧ w = w' := by
  refine s_tape_Tape_Append fun R hR => ?_
  unfold c_tape_Tape_Append
  refine cal_i (hm w rfl) ?_
  rintro _ _ ⟨rfl, rfl⟩
  simp only [nilc_some, fad_mk, pik_true, pik_false, cnd_true, cnd_false, gif_same, gif_tf, gif_ft, gif_undef, bi_add, bi_sub, bi_mul, bi_eql, bi_neq, bi_lss, bi_leq, bi_gtr, bi_geq, notB_bool, cvi_int, lenS_mk, lenT_mk, ext0, ext1, ext2, nilP_mk, nilS_mk, fldv_agg, jn0_k, jn1_k, jn2_k, jn1_and, jn1_or, ex_some, Option.isNone_some, Option.isNone_none, Bool.false_bne, Bool.bne_true, Bool.bne_false, Bool.true_bne, Bool.not_true, Bool.not_false, Bool.and_true, Bool.true_and, Bool.and_false, Bool.false_and, Bool.or_true, Bool.true_or, Bool.or_false, Bool.false_or, cond_true, cond_false, List.getElem?_toArray, List.getElem?_cons_zero, List.getElem?_cons_succ, Nat.zero_add, Nat.add_zero, Nat.reduceAdd, forall_const, show ((2 : Int) != 0) = true from rfl]
  exact hR _ _ ⟨rfl, rfl⟩
theorem Truncate_none (v : Value) : cal P f_tape_Tape_Truncate [p, v] w fun v w' => v = .int .i64 2 ∧ w = w' := by
  refine s_tape_Tape_Truncate fun R hR => ?_
  unfold c_tape_Tape_Truncate
  refine cal_i (hm w rfl) ?_
  rintro _ _ ⟨rfl, rfl⟩
  simp only [nilc_some, fad_mk, pik_true, pik_false, cnd_true, cnd_false, gif_same, gif_tf, gif_ft, gif_undef, bi_add, bi_sub, bi_mul, bi_eql, bi_neq, bi_lss, bi_leq, bi_gtr, bi_geq, notB_bool, cvi_int, lenS_mk, lenT_mk, ext0, ext1, ext2, nilP_mk, nilS_mk, fldv_agg, jn0_k, jn1_k, jn2_k, jn1_and, jn1_or, ex_some, Option.isNone_some, Option.isNone_none, Bool.false_bne, Bool.bne_true, Bool.bne_false, Bool.true_bne, Bool.not_true, Bool.not_false, Bool.and_true, Bool.true_and, Bool.and_false, Bool.false_and, Bool.or_true, Bool.true_or, Bool.or_false, Bool.false_or, cond_true, cond_false, List.getElem?_toArray, List.getElem?_cons_zero, List.getElem?_cons_succ, Nat.zero_add, Nat.add_zero, Nat.reduceAdd, forall_const, show ((2 : Int) != 0) = true from rfl]
  exact hR _ _ ⟨rfl, rfl⟩
theorem Arm_none (v : Value) : cal P f_tape_Tape_Arm [p, v] w fun v w' => v = .int .i64 2 ∧ w = w' := by
  refine s_tape_Tape_Arm fun R hR => ?_
  unfold c_tape_Tape_Arm
  refine cal_i (hm w rfl) ?_
  rintro _ _ ⟨rfl, rfl⟩
  simp only [nilc_some, fad_mk, pik_true, pik_false, cnd_true, cnd_false, gif_same, gif_tf, gif_ft, gif_undef, bi_add, bi_sub, bi_mul, bi_eql, bi_neq, bi_lss, bi_leq, bi_gtr, bi_geq, notB_bool, cvi_int, lenS_mk, lenT_mk, ext0, ext1, ext2, nilP_mk, nilS_mk, fldv_agg, jn0_k, jn1_k, jn2_k, jn1_and, jn1_or, ex_some, Option.isNone_some, Option.isNone_none, Bool.false_bne, Bool.bne_true, Bool.bne_false, Bool.true_bne, Bool.not_true, Bool.not_false, Bool.and_true, Bool.true_and, Bool.and_false, Bool.false_and, Bool.or_true, Bool.true_or, Bool.or_false, Bool.false_or, cond_true, cond_false, List.getElem?_toArray, List.getElem?_cons_zero, List.getElem?_cons_succ, Nat.zero_add, Nat.add_zero, Nat.reduceAdd, forall_const, show ((2 : Int) != 0) = true from rfl]
  exact hR _ _ ⟨rfl, rfl⟩
theorem Crash_none : cal P f_tape_Tape_Crash [p] w fun v w' => v = .int .i64 2 ∧ w = w' := by
  refine s_tape_Tape_Crash fun R hR => ?_
  unfold c_tape_Tape_Crash
  refine cal_i (hm w rfl) ?_
  rintro _ _ ⟨rfl, rfl⟩
  simp only [nilc_some, fad_mk, pik_true, pik_false, cnd_true, cnd_false, gif_same, gif_tf, gif_ft, gif_undef, bi_add, bi_sub, bi_mul, bi_eql, bi_neq, bi_lss, bi_leq, bi_gtr, bi_geq, notB_bool, cvi_int, lenS_mk, lenT_mk, ext0, ext1, ext2, nilP_mk, nilS_mk, fldv_agg, jn0_k, jn1_k, jn2_k, jn1_and, jn1_or, ex_some, Option.isNone_some, Option.isNone_none, Bool.false_bne, Bool.bne_true, Bool.bne_false, Bool.true_bne, Bool.not_true, Bool.not_false, Bool.and_true, Bool.true_and, Bool.and_false, Bool.false_and, Bool.or_true, Bool.true_or, Bool.or_false, Bool.false_or, cond_true, cond_false, List.getElem?_toArray, List.getElem?_cons_zero, List.getElem?_cons_succ, Nat.zero_add, Nat.add_zero, Nat.reduceAdd, forall_const, show ((2 : Int) == 0) = false from rfl]
  exact hR _ _ ⟨rfl, rfl⟩
theorem Restart_none : cal P f_tape_Tape_Restart [p] w fun v w' => v = .int .i64 2 ∧ w = w' := by
  refine s_tape_Tape_Restart fun R hR => ?_
  unfold c_tape_Tape_Restart
  refine cal_i (hm w rfl) ?_
  rintro _ _ ⟨rfl, rfl⟩
  simp only [nilc_some, fad_mk, pik_true, pik_false, cnd_true, cnd_false, gif_same, gif_tf, gif_ft, gif_undef, bi_add, bi_sub, bi_mul, bi_eql, bi_neq, bi_lss, bi_leq, bi_gtr, bi_geq, notB_bool, cvi_int, lenS_mk, lenT_mk, ext0, ext1, ext2, nilP_mk, nilS_mk, fldv_agg, jn0_k, jn1_k, jn2_k, jn1_and, jn1_or, ex_some, Option.isNone_some, Option.isNone_none, Bool.false_bne, Bool.bne_true, Bool.bne_false, Bool.true_bne, Bool.not_true, Bool.not_false, Bool.and_true, Bool.true_and, Bool.and_false, Bool.false_and, Bool.or_true, Bool.true_or, Bool.or_false, Bool.false_or, cond_true, cond_false, List.getElem?_toArray, List.getElem?_cons_zero, List.getElem?_cons_succ, Nat.zero_add, Nat.add_zero, Nat.reduceAdd, forall_const, show ((2 : Int) == 0) = false from rfl, show ((2 : Int) == 5) = false from rfl]
  exact hR _ _ ⟨rfl, rfl⟩
theorem On_none : cal P f_tape_Tape_On [p] w fun v w' => v = .bool false ∧ w = w' := by
  refine s_tape_Tape_On fun R hR => ?_
  unfold c_tape_Tape_On
  refine cal_i (hm w rfl) ?_
  rintro _ _ ⟨rfl, rfl⟩
  simp only [nilc_some, fad_mk, pik_true, pik_false, cnd_true, cnd_false, gif_same, gif_tf, gif_ft, gif_undef, bi_add, bi_sub, bi_mul, bi_eql, bi_neq, bi_lss, bi_leq, bi_gtr, bi_geq, notB_bool, cvi_int, lenS_mk, lenT_mk, ext0, ext1, ext2, nilP_mk, nilS_mk, fldv_agg, jn0_k, jn1_k, jn2_k, jn1_and, jn1_or, ex_some, Option.isNone_some, Option.isNone_none, Bool.false_bne, Bool.bne_true, Bool.bne_false, Bool.true_bne, Bool.not_true, Bool.not_false, Bool.and_true, Bool.true_and, Bool.and_false, Bool.false_and, Bool.or_true, Bool.true_or, Bool.or_false, Bool.false_or, cond_true, cond_false, List.getElem?_toArray, List.getElem?_cons_zero, List.getElem?_cons_succ, Nat.zero_add, Nat.add_zero, Nat.reduceAdd, forall_const, show ((2 : Int) == 0) = false from rfl]
  exact hR _ _ ⟨rfl, rfl⟩
theorem Bytes_none : cal P f_tape_Tape_Bytes [p] w fun v w' => v = .slice none 0 0 ∧ w = w' := by
  refine s_tape_Tape_Bytes fun R hR => ?_
  unfold c_tape_Tape_Bytes
  refine cal_i (hm w rfl) ?_
  rintro _ _ ⟨rfl, rfl⟩
  simp only [nilc_some, fad_mk, pik_true, pik_false, cnd_true, cnd_false, gif_same, gif_tf, gif_ft, gif_undef, bi_add, bi_sub, bi_mul, bi_eql, bi_neq, bi_lss, bi_leq, bi_gtr, bi_geq, notB_bool, cvi_int, lenS_mk, lenT_mk, ext0, ext1, ext2, nilP_mk, nilS_mk, fldv_agg, jn0_k, jn1_k, jn2_k, jn1_and, jn1_or, ex_some, Option.isNone_some, Option.isNone_none, Bool.false_bne, Bool.bne_true, Bool.bne_false, Bool.true_bne, Bool.not_true, Bool.not_false, Bool.and_true, Bool.true_and, Bool.and_false, Bool.false_and, Bool.or_true, Bool.true_or, Bool.or_false, Bool.false_or, cond_true, cond_false, List.getElem?_toArray, List.getElem?_cons_zero, List.getElem?_cons_succ, Nat.zero_add, Nat.add_zero, Nat.reduceAdd, forall_const, show ((2 : Int) == 2) = true from rfl]
  exact hR _ _ ⟨rfl, rfl⟩
theorem Len_none : cal P f_tape_Tape_Len [p] w fun v w' => v = .int .i64 0 ∧ w = w' := by
  refine s_tape_Tape_Len fun R hR => ?_
  unfold c_tape_Tape_Len
  refine cal_i (hm w rfl) ?_
  rintro _ _ ⟨rfl, rfl⟩
  simp only [nilc_some, fad_mk, pik_true, pik_false, cnd_true, cnd_false, gif_same, gif_tf, gif_ft, gif_undef, bi_add, bi_sub, bi_mul, bi_eql, bi_neq, bi_lss, bi_leq, bi_gtr, bi_geq, notB_bool, cvi_int, lenS_mk, lenT_mk, ext0, ext1, ext2, nilP_mk, nilS_mk, fldv_agg, jn0_k, jn1_k, jn2_k, jn1_and, jn1_or, ex_some, Option.isNone_some, Option.isNone_none, Bool.false_bne, Bool.bne_true, Bool.bne_false, Bool.true_bne, Bool.not_true, Bool.not_false, Bool.and_true, Bool.true_and, Bool.and_false, Bool.false_and, Bool.or_true, Bool.true_or, Bool.or_false, Bool.false_or, cond_true, cond_false, List.getElem?_toArray, List.getElem?_cons_zero, List.getElem?_cons_succ, Nat.zero_add, Nat.add_zero, Nat.reduceAdd, forall_const, show ((2 : Int) == 2) = true from rfl]
  exact hR _ _ ⟨rfl, rfl⟩
theorem Clone_none : cal P f_tape_Tape_Clone [p] w fun v w' => v = .pointer none ∧ w = w' := by
  refine s_tape_Tape_Clone fun R hR => ?_
  unfold c_tape_Tape_Clone
  refine cal_i (hm w rfl) ?_
  rintro _ _ ⟨rfl, rfl⟩
  simp only [nilc_some, fad_mk, pik_true, pik_false, cnd_true, cnd_false, gif_same, gif_tf, gif_ft, gif_undef, bi_add, bi_sub, bi_mul, bi_eql, bi_neq, bi_lss, bi_leq, bi_gtr, bi_geq, notB_bool, cvi_int, lenS_mk, lenT_mk, ext0, ext1, ext2, nilP_mk, nilS_mk, fldv_agg, jn0_k, jn1_k, jn2_k, jn1_and, jn1_or, ex_some, Option.isNone_some, Option.isNone_none, Bool.false_bne, Bool.bne_true, Bool.bne_false, Bool.true_bne, Bool.not_true, Bool.not_false, Bool.and_true, Bool.true_and, Bool.and_false, Bool.false_and, Bool.or_true, Bool.true_or, Bool.or_false, Bool.false_or, cond_true, cond_false, List.getElem?_toArray, List.getElem?_cons_zero, List.getElem?_cons_succ, Nat.zero_add, Nat.add_zero, Nat.reduceAdd, forall_const, show ((2 : Int) == 2) = true from rfl]
  exact hR _ _ ⟨rfl, rfl⟩
end
end Go.Fx
set_option linter.unusedVariables false
set_option linter.unusedSimpArgs false
namespace Go.Fx
theorem KTc : KeyT P T_api_ID T_uint8 32 := ⟨U_api_ID, U_uint8, by kernel_rfl, by kernel_rfl, EQ_api_ID⟩
/-- A row, read in a region that draws (as in TrC, for other seats). -/
theorem rdS_rowC {α : Type} {q : Rdr α} {S : World → Prop} {w : World} {v : Value} {l : List α} {j : Nat} {a : α} {K : Value → Prop} (hp : 0 < q.size)
    (hw : S w) (hS : ∀ u, S u → Rows' q u.heap v l) (hj : l[j]? = some a) (k : IntKind) (h : K (.agg (q.cells a).toArray)) : ixs q.size v (.int k (j : Int)) fun t => rdS S (fun w => ldN q.size t w.heap) K := by
  obtain ⟨g, o, c, rfl⟩ := (hS w hw).form hp hj
  have hlt := (List.getElem?_eq_some_iff.1 hj).1
  rw [ixs_mk _ _ _ _ _ _ _ _ (by omega) (by omega), Int.toNat_natCast]
  refine ⟨.agg (q.cells a).toArray, fun z hz => ?_, h⟩
  have hat := At.of hp (hS z hz) hj
  exact (At.ldN hat (q.len a) _).mpr rfl
/-- Where each name's block stands: the last one of a name. -/
def atF (L : List Blk) : Vec 32 → Option Value := L.zipIdx.foldl (fun f x => updF f x.1.id (.int .i64 (x.2 : Nat))) fun _ => none
theorem atF_snoc (L : List Blk) (b : Blk) : atF (L ++ [b]) = updF (atF L) b.id (.int .i64 (L.length : Nat)) := by
  unfold atF
  rw [List.zipIdx_append, List.foldl_append]
  simp
abbrev blks (B : List BV) : List Blk := B.map (·.1)
def chH (g gi gm : Nat) (lv iv pt : Value) (over : Bool) (B : List BV) : List Asn :=
  [blk g (Rdr.cells Q_chain_Chain (.pointer (some ⟨gi, 0, none⟩), lv, iv, .map (some gm), over)).toArray T_chain_Chain, blk gi #[pt] T_chain_held, rows Q_api_Block lv (B.map BV.t), rows (rVec 32) iv (B.map (·.1.id)), mpF gm (atF (blks B))]
def DatB (B : List BV) (As : List Asn) : Prop := ∀ x ∈ B, ownB x.2 x.1.d ∈ As
structure ChR (h : Heap) (g gi : Nat) (lv iv m pt : Value) (over : Bool) (B : List BV) : Prop where
  cell : ∃ T fr, h[g]? = some (.cells (Rdr.cells Q_chain_Chain (.pointer (some ⟨gi, 0, none⟩), lv, iv, m, over)).toArray T fr)
  inn : ∃ T fr, h[gi]? = some (.cells #[pt] T fr)
  bw : BRows h lv B
  iw : Rows' (rVec 32) h iv (B.map (·.1.id))
section
variable {w0 w w' : World} {As : List Asn} {g gi gm : Nat} {lv iv m pt : Value} {over : Bool} {B : List BV}
theorem DatB.sub {As Bs : List Asn} (h : DatB B As) (hs : ∀ A ∈ As, A ∈ Bs) : DatB B Bs := fun x hx => hs _ (h x hx)
theorem ChR.fr (h : ChR w.heap g gi lv iv m pt over B) (hf : Fr [] w w') : ChR w'.heap g gi lv iv m pt over B := by
  obtain ⟨⟨T, fr, hc⟩, ⟨T2, fr2, hc2⟩, h3, h4⟩ := h
  exact ⟨⟨T, fr, hf.blk hc (by simp)⟩, ⟨T2, fr2, hf.blk hc2 (by simp)⟩, h3.fr hf, h4.fr hf⟩
theorem Sep.ch (h : Sep w0 w As) (hr : ChR w0.heap g gi lv iv m pt over B) : ChR w.heap g gi lv iv m pt over B := hr.fr h.1
theorem chH_rd (h : Sep w0 w (chH g gi gm lv iv pt over B ++ As)) (hd : DatB B As) : ChR w.heap g gi lv iv (.map (some gm)) pt over B :=
  ⟨⟨_, _, Sep.blk h⟩, ⟨_, _, Sep.blk h.tail⟩, ⟨Sep.rows h.tail.tail, fun x hx => by
    obtain ⟨F, hF⟩ := h.onL (A := ownB x.2 x.1.d) (List.mem_append_right _ (hd x hx))
    exact OwnB.rd hF⟩, Sep.rows h.tail.tail.tail⟩
theorem cNone_spec (hr : ChR w.heap g gi lv iv m pt over B) : cal P f_chain_Chain_none [.pointer (some ⟨g, 0, none⟩)] w fun r w' => r = .bool false ∧ w = w' := by
  refine s_chain_Chain_none fun R hR => ?_
  unfold c_chain_Chain_none
  obtain ⟨T, fr, hc⟩ := hr.cell
  simp only [nilc_some, fad_mk, pik_true, pik_false, cnd_true, cnd_false, gif_same, gif_tf, gif_ft, gif_undef, bi_add, bi_sub, bi_mul, bi_eql, bi_neq, bi_lss, bi_leq, bi_gtr, bi_geq, notB_bool, cvi_int, lenS_mk, lenT_mk, ext0, ext1, ext2, nilP_mk, nilS_mk, fldv_agg, jn0_k, jn1_k, jn2_k, jn1_and, jn1_or, ex_some, Option.isNone_some, Option.isNone_none, Bool.false_bne, Bool.bne_true, Bool.bne_false, Bool.true_bne, Bool.not_true, Bool.not_false, Bool.and_true, Bool.true_and, Bool.and_false, Bool.false_and, Bool.or_true, Bool.true_or, Bool.or_false, Bool.false_or, cond_true, cond_false, List.getElem?_toArray, List.getElem?_cons_zero, List.getElem?_cons_succ, Nat.zero_add, Nat.add_zero, Nat.reduceAdd, forall_const, Option.isNone_some, L_chain_Chain hc, L_chain_Chain__in hc, L_chain_Chain__l hc, L_chain_Chain__ids hc, L_chain_Chain__at hc, L_chain_Chain__over hc]
  exact hR _ _ ⟨rfl, rfl⟩
theorem cMay_spec (hr : ChR w.heap g gi lv iv m pt over B) : cal P f_chain_Chain_may [.pointer (some ⟨g, 0, none⟩)] w fun r w' => r = .int .i64 (if over = true then 5 else 0) ∧ w = w' := by
  refine s_chain_Chain_may fun R hR => ?_
  unfold c_chain_Chain_may
  refine cal_i (cNone_spec hr) ?_
  rintro _ _ ⟨rfl, rfl⟩
  obtain ⟨T, fr, hc⟩ := hr.cell
  simp only [nilc_some, fad_mk, pik_true, pik_false, cnd_true, cnd_false, gif_same, gif_tf, gif_ft, gif_undef, bi_add, bi_sub, bi_mul, bi_eql, bi_neq, bi_lss, bi_leq, bi_gtr, bi_geq, notB_bool, cvi_int, lenS_mk, lenT_mk, ext0, ext1, ext2, nilP_mk, nilS_mk, fldv_agg, jn0_k, jn1_k, jn2_k, jn1_and, jn1_or, ex_some, Option.isNone_some, Option.isNone_none, Bool.false_bne, Bool.bne_true, Bool.bne_false, Bool.true_bne, Bool.not_true, Bool.not_false, Bool.and_true, Bool.true_and, Bool.and_false, Bool.false_and, Bool.or_true, Bool.true_or, Bool.or_false, Bool.false_or, cond_true, cond_false, List.getElem?_toArray, List.getElem?_cons_zero, List.getElem?_cons_succ, Nat.zero_add, Nat.add_zero, Nat.reduceAdd, forall_const, L_chain_Chain hc, L_chain_Chain__in hc, L_chain_Chain__l hc, L_chain_Chain__ids hc, L_chain_Chain__at hc, L_chain_Chain__over hc]
  cases over <;> simp only [nilc_some, fad_mk, pik_true, pik_false, cnd_true, cnd_false, gif_same, gif_tf, gif_ft, gif_undef, bi_add, bi_sub, bi_mul, bi_eql, bi_neq, bi_lss, bi_leq, bi_gtr, bi_geq, notB_bool, cvi_int, lenS_mk, lenT_mk, ext0, ext1, ext2, nilP_mk, nilS_mk, fldv_agg, jn0_k, jn1_k, jn2_k, jn1_and, jn1_or, ex_some, Option.isNone_some, Option.isNone_none, Bool.false_bne, Bool.bne_true, Bool.bne_false, Bool.true_bne, Bool.not_true, Bool.not_false, Bool.and_true, Bool.true_and, Bool.and_false, Bool.false_and, Bool.or_true, Bool.true_or, Bool.or_false, Bool.false_or, cond_true, cond_false, List.getElem?_toArray, List.getElem?_cons_zero, List.getElem?_cons_succ, Nat.zero_add, Nat.add_zero, Nat.reduceAdd, forall_const] <;> exact hR _ _ ⟨rfl, rfl⟩
theorem cLast_spec {x : BV} (hr : ChR w.heap g gi lv iv m pt over B) (hx : B[B.length - 1]? = some x) (hn : B.length ≤ 1000000) : cal P f_chain_Chain_last [.pointer (some ⟨g, 0, none⟩)] w fun r w' => r = bq x.1 x.2 ∧ Fr [] w w' := by
  refine s_chain_Chain_last fun R hR => ?_
  unfold c_chain_Chain_last
  have hpos : 0 < B.length := by
    have := (List.getElem?_eq_some_iff.1 hx).1
    omega
  have hx' : (B.map BV.t)[B.length - 1]? = some x.t := by rw [List.getElem?_map, hx]; rfl
  refine alloc_s (Sep.start w) (A_api_Block w) fun g2 w1 hs1 => ?_
  refine drH_S hs1 fun w2 hs2 _ => ?_
  simp only [nilc_some, fad_mk, pik_true, pik_false, cnd_true, cnd_false, gif_same, gif_tf, gif_ft, gif_undef, bi_add, bi_sub, bi_mul, bi_eql, bi_neq, bi_lss, bi_leq, bi_gtr, bi_geq, notB_bool, cvi_int, lenS_mk, lenT_mk, ext0, ext1, ext2, nilP_mk, nilS_mk, fldv_agg, jn0_k, jn1_k, jn2_k, jn1_and, jn1_or, ex_some, Option.isNone_some, Option.isNone_none, Bool.false_bne, Bool.bne_true, Bool.bne_false, Bool.true_bne, Bool.not_true, Bool.not_false, Bool.and_true, Bool.true_and, Bool.and_false, Bool.false_and, Bool.or_true, Bool.true_or, Bool.or_false, Bool.false_or, cond_true, cond_false, List.getElem?_toArray, List.getElem?_cons_zero, List.getElem?_cons_succ, Nat.zero_add, Nat.add_zero, Nat.reduceAdd, forall_const]
  refine rdS_ld (v := lv) (fun u hu K hk => by obtain ⟨T, fr, hc⟩ := (hu.ch hr).cell; exact (L_chain_Chain__l hc K).mpr hk) ?_
  refine rdS_ld (v := lv) (fun u hu K hk => by obtain ⟨T, fr, hc⟩ := (hu.ch hr).cell; exact (L_chain_Chain__l hc K).mpr hk) ?_
  rw [hr.bw.len]
  simp only [nilc_some, fad_mk, pik_true, pik_false, cnd_true, cnd_false, gif_same, gif_tf, gif_ft, gif_undef, bi_add, bi_sub, bi_mul, bi_eql, bi_neq, bi_lss, bi_leq, bi_gtr, bi_geq, notB_bool, cvi_int, lenS_mk, lenT_mk, ext0, ext1, ext2, nilP_mk, nilS_mk, fldv_agg, jn0_k, jn1_k, jn2_k, jn1_and, jn1_or, ex_some, Option.isNone_some, Option.isNone_none, Bool.false_bne, Bool.bne_true, Bool.bne_false, Bool.true_bne, Bool.not_true, Bool.not_false, Bool.and_true, Bool.true_and, Bool.and_false, Bool.false_and, Bool.or_true, Bool.true_or, Bool.or_false, Bool.false_or, cond_true, cond_false, List.getElem?_toArray, List.getElem?_cons_zero, List.getElem?_cons_succ, Nat.zero_add, Nat.add_zero, Nat.reduceAdd, forall_const]
  rw [wi64 (by omega) (by omega)]
  have e1 : (B.length : Int) - 1 = ((B.length - 1 : Nat) : Int) := by omega
  rw [e1]
  change ixs 34 _ _ _
  refine rdS_rowC (q := Q_api_Block) (by decide) hs2 (fun u hu => (hu.ch hr).bw.1) hx' .i64 ?_
  refine efC_stN (St_api_Block (b := x.t) hs2 (one_api_Block (hr.bw.2 x (List.mem_of_getElem? hx)).one) fun w3 hs3 => ?_)
  simp only [L_api_Block hs3.blk, L_api_Block__Parent hs3.blk, L_api_Block__Height hs3.blk, L_api_Block__Data hs3.blk]
  exact hR _ _ ⟨rfl, hs3.fr0⟩
end
end Go.Fx
set_option linter.unusedVariables false
set_option linter.unusedSimpArgs false
namespace Go.Fx
section
variable {w0 w w' : World} {As : List Asn} {g gi gm : Nat} {lv iv m pt : Value} {over : Bool} {B : List BV}
theorem cBldI {r : Vec 32} {K : Value → World → Prop} {Bs : List Asn} (hs : Sep w0 w Bs) (hk : ∀ a z, Sep w0 z (rows (rVec 32) a [r] :: Bs) → K a z) : efP P (Instr.buildSlice T_sl_api_ID 1 #[(0, kv r)]) w K :=
  rows_lit hs S_sl_api_ID (l := [r]) (V := fun a => .agg (Rdr.cells (rVec 32) a).toArray) (fun a => rfl) rfl rfl (by decide) (by decide) fun g7 w7 hs7 => hk _ _ hs7
theorem cAppI {r : Vec 32} {x a : Value} {ids : List (Vec 32)} {K : Value → World → Prop} {Bs : List Asn} (hs : Sep w0 w (rows (rVec 32) x ids :: Bs)) (ha : Rows' (rVec 32) w.heap a [r]) (hl : ids.length ≤ 1000000)
    (hk : ∀ x' z, Sep w0 z (rows (rVec 32) x' (ids ++ [r]) :: Bs) → K x' z) : efP P (Builtin.append_ #[T_sl_api_ID, T_sl_api_ID] T_sl_api_ID #[x, a]) w K :=
  rows_app S_sl_api_ID U_sl_api_ID (by simp) hs ha (by simp only [List.flatMap_cons, List.flatMap_nil, List.append_nil]; exact oneVec) (by simp; omega) (by simp; omega) fun v8 w8 hs8 => hk _ _ hs8
theorem cBldB {x : BV} {K : Value → World → Prop} {Bs : List Asn} (hs : Sep w0 w Bs) (hk : ∀ a z, Sep w0 z (rows Q_api_Block a [x.t] :: Bs) → K a z) : efP P (Instr.buildSlice T_sl_api_Block 1 #[(0, bq x.1 x.2)]) w K :=
  rows_lit (q := Q_api_Block) hs S_sl_api_Block (l := [x.t]) (V := fun a => .agg (Rdr.cells Q_api_Block a).toArray) (fun a => rfl) rfl rfl (by decide) (by decide) fun g7 w7 hs7 => hk _ _ hs7
theorem cAppB {x : BV} {u a : Value} {B : List BV} {K : Value → World → Prop} {Bs : List Asn} (hs : Sep w0 w (rows Q_api_Block u (B.map BV.t) :: Bs)) (ha : Rows' Q_api_Block w.heap a [x.t]) (h1 : x.2.oneCell' = true) (hl : B.length ≤ 1000000)
    (hk : ∀ u' z, Sep w0 z (rows Q_api_Block u' ((B ++ [x]).map BV.t) :: Bs) → K u' z) : efP P (Builtin.append_ #[T_sl_api_Block, T_sl_api_Block] T_sl_api_Block #[u, a]) w K :=
  rows_app (q := Q_api_Block) S_sl_api_Block U_sl_api_Block (by simp) hs ha (by simp only [List.flatMap_cons, List.flatMap_nil, List.append_nil]; exact one_api_Block h1) (by simp; omega) (by simp; omega) fun v8 w8 hs8 => hk _ _ (by
    have e : (B ++ [x]).map BV.t = B.map BV.t ++ [x.t] := by simp
    rw [e]; exact hs8)
theorem drH_PH' {w0 w : World} {As : List Asn} {S : World → Prop} {K : (World → Prop) → World → Prop} (hs : Sep w0 w As) (hS : ∀ u, Sep w0 u As → S u) (h : ∀ w', Sep w0 w' As → w'.heap = w.heap → K S w') : drH w K := ⟨S, hS _ (hs.drew _), h _ (hs.drew _) rfl⟩
theorem four_app {b : Blk} {v : Value} {r : Vec 32} {u y : Value} {ids : List (Vec 32)} {K : Value → Value → World → Prop} (hs : Sep w0 w (rows Q_api_Block u (B.map BV.t) :: rows (rVec 32) y ids :: As)) (hb : ∀ z, Sep w0 z As → RdB z.heap v b.d) (hbl : b.d.length ≤ 100000) (hl1 : B.length ≤ 1000000) (hl2 : ids.length ≤ 1000000)
    (hk : ∀ u' y' z vd, Sep w0 z (rows Q_api_Block u' ((B ++ [(b, vd)]).map BV.t) :: rows (rVec 32) y' (ids ++ [r]) :: ownB vd b.d :: As) → K u' y' z) :
    (efS (fun u => Sep w0 u As) (cal P f_block_Clone [bq b v]) w fun c w =>
      (efS (fun u => Sep w0 u As) (efP P (Instr.buildSlice T_sl_api_Block 1 #[(0, c)])) w fun t29 w =>
        (efS (fun u => Sep w0 u As) (efP P (Builtin.append_ #[T_sl_api_Block, T_sl_api_Block] T_sl_api_Block #[u, t29])) w fun u' w =>
          efS (fun u => Sep w0 u As) (efP P (Instr.buildSlice T_sl_api_ID 1 #[(0, kv r)])) w fun t36 w =>
          efC (efP P (Builtin.append_ #[T_sl_api_ID, T_sl_api_ID] T_sl_api_ID #[y, t36])) w fun S y' w => K u' y' w) ∧
        ((efS (fun u => Sep w0 u As) (efP P (Instr.buildSlice T_sl_api_ID 1 #[(0, kv r)])) w fun t36 w =>
          efS (fun u => Sep w0 u As) (efP P (Builtin.append_ #[T_sl_api_Block, T_sl_api_Block] T_sl_api_Block #[u, t29])) w fun u' w =>
          efC (efP P (Builtin.append_ #[T_sl_api_ID, T_sl_api_ID] T_sl_api_ID #[y, t36])) w fun S y' w => K u' y' w) ∧ True)) ∧
      ((efS (fun u => Sep w0 u As) (efP P (Instr.buildSlice T_sl_api_ID 1 #[(0, kv r)])) w fun t36 w =>
        efS (fun u => Sep w0 u As) (efP P (Instr.buildSlice T_sl_api_Block 1 #[(0, c)])) w fun t29 w =>
        efS (fun u => Sep w0 u As) (efP P (Builtin.append_ #[T_sl_api_Block, T_sl_api_Block] T_sl_api_Block #[u, t29])) w fun u' w =>
        efC (efP P (Builtin.append_ #[T_sl_api_ID, T_sl_api_ID] T_sl_api_ID #[y, t36])) w fun S y' w => K u' y' w) ∧ True)) ∧
    ((efS (fun u => Sep w0 u As) (efP P (Instr.buildSlice T_sl_api_ID 1 #[(0, kv r)])) w fun t36 w =>
      efS (fun u => Sep w0 u As) (cal P f_block_Clone [bq b v]) w fun c w =>
      efS (fun u => Sep w0 u As) (efP P (Instr.buildSlice T_sl_api_Block 1 #[(0, c)])) w fun t29 w =>
      efS (fun u => Sep w0 u As) (efP P (Builtin.append_ #[T_sl_api_Block, T_sl_api_Block] T_sl_api_Block #[u, t29])) w fun u' w =>
      efC (efP P (Builtin.append_ #[T_sl_api_ID, T_sl_api_ID] T_sl_api_ID #[y, t36])) w fun S y' w => K u' y' w) ∧ True) := by
  refine ⟨?_, ?_, trivial⟩
  · refine efS_i (cal_i (bkClone_spec (b := b) (v := v) (hb _ hs.tail.tail) (by omega)) ?_)
    rintro _ w1 ⟨vd, rfl, hs1⟩
    replace hs1 := hs.join hs1
    refine ⟨hs1.tail.tail.tail, ?_⟩
    refine ⟨?_, ?_, trivial⟩
    · refine efS_i (cBldB (x := (b, vd)) hs1 fun a z hz => ⟨hz.tail.tail.tail.tail, ?_, ?_, trivial⟩)
      · refine efS_i (cAppB (x := (b, vd)) hz.p2 (Sep.rows hz) (Sep.one hz.p1) hl1 fun u' z2 hz2 => ⟨hz2.tail.tail.tail.tail, ?_⟩)
        refine efS_i (cBldI hz2 fun a2 z3 hz3 => ⟨hz3.tail.tail.tail.tail.tail, ?_⟩)
        refine efC_efP (cAppI (Sep.pick hz3 [4, 0, 1, 2, 3] 5) (Sep.rows hz3) hl2 fun y' z4 hz4 => hk _ _ _ vd ?_)
        exact Sep.pick hz4 [2, 0, 4] 5
      · refine efS_i (cBldI hz fun a2 z2 hz2 => ⟨hz2.tail.tail.tail.tail.tail, ?_⟩)
        refine efS_i (cAppB (x := (b, vd)) hz2.p3 (Sep.rows hz2.p1) (Sep.one hz2.p2) hl1 fun u' z3 hz3 => ⟨hz3.tail.tail.tail.tail.tail, ?_⟩)
        refine efC_efP (cAppI (Sep.pick hz3 [4, 0, 1, 2, 3] 5) (Sep.rows hz3.p1) hl2 fun y' z4 hz4 => hk _ _ _ vd ?_)
        exact Sep.pick hz4 [1, 0, 4] 5
    · refine efS_i (cBldI hs1 fun a2 z hz => ⟨hz.tail.tail.tail.tail, ?_⟩)
      refine efS_i (cBldB (x := (b, vd)) hz fun a z2 hz2 => ⟨hz2.tail.tail.tail.tail.tail, ?_⟩)
      refine efS_i (cAppB (x := (b, vd)) hz2.p3 (Sep.rows hz2) (Sep.one hz2.p2) hl1 fun u' z3 hz3 => ⟨hz3.tail.tail.tail.tail.tail, ?_⟩)
      refine efC_efP (cAppI (Sep.pick hz3 [4, 0, 1, 2, 3] 5) (Sep.rows hz3.p2) hl2 fun y' z4 hz4 => hk _ _ _ vd ?_)
      exact Sep.pick hz4 [1, 0, 4] 5
  · refine efS_i (cBldI hs fun a2 z hz => ⟨hz.tail.tail.tail, ?_⟩)
    refine efS_i (cal_i (bkClone_spec (b := b) (v := v) (hb _ hz.tail.tail.tail) (by omega)) ?_)
    rintro _ w1 ⟨vd, rfl, hs1⟩
    replace hs1 := hz.join hs1
    refine ⟨hs1.tail.tail.tail.tail, ?_⟩
    refine efS_i (cBldB (x := (b, vd)) hs1 fun a z2 hz2 => ⟨hz2.tail.tail.tail.tail.tail, ?_⟩)
    refine efS_i (cAppB (x := (b, vd)) hz2.p3 (Sep.rows hz2) (Sep.one hz2.p1) hl1 fun u' z3 hz3 => ⟨hz3.tail.tail.tail.tail.tail, ?_⟩)
    refine efC_efP (cAppI (Sep.pick hz3 [4, 0, 1, 2, 3] 5) (Sep.rows hz3.p3) hl2 fun y' z4 hz4 => hk _ _ _ vd ?_)
    exact Sep.pick hz4 [1, 0, 3] 5
theorem chk0_lenC {b : Blk} (h : b.chk = 0) : b.d.length ≤ 200 := by
  unfold Blk.chk at h
  split at h
  · cases h
  · omega
theorem cAdd_spec {b : Blk} {v : Value} (hs : Sep w0 w (chH g gi gm lv iv pt over B ++ As)) (hC : Cub w0) (hb : ∀ z, Sep w0 z As → RdB z.heap v b.d) (hh : b.h ≤ maxI) (hck : b.chk = 0) (hn : B.length ≤ 1000000) :
    cal P f_chain_Chain_add [.pointer (some ⟨g, 0, none⟩), bq b v] w fun r w' => r = .tuple #[] ∧ ∃ lv' iv' vd, Sep w0 w' (chH g gi gm lv' iv' pt over (B ++ [(b, vd)]) ++ (ownB vd b.d :: As)) := by
  refine s_chain_Chain_add fun R hR => ?_
  unfold c_chain_Chain_add
  have hbl := chk0_lenC hck
  refine bxQ hs fun g3 w1 hs1 => ?_
  simp only [L_api_Block hs1.blk, L_api_Block__Parent hs1.blk, L_api_Block__Height hs1.blk, L_api_Block__Data hs1.blk]
  refine cal_i (bkID_spec (b := b) (v := v) (hC.fr hs1.fr0) (hb _ (Sep.pick hs1 [] 6)) hh) ?_
  rintro _ w2 ⟨rfl, hf2⟩
  have hs2 := hs1.old hf2
  have hnm : b.name = b.id := by unfold Blk.name; rw [if_pos hck]
  rw [hnm]
  simp only [nilc_some, fad_mk, pik_true, pik_false, cnd_true, cnd_false, gif_same, gif_tf, gif_ft, gif_undef, bi_add, bi_sub, bi_mul, bi_eql, bi_neq, bi_lss, bi_leq, bi_gtr, bi_geq, notB_bool, cvi_int, lenS_mk, lenT_mk, ext0, ext1, ext2, nilP_mk, nilS_mk, fldv_agg, jn0_k, jn1_k, jn2_k, jn1_and, jn1_or, ex_some, Option.isNone_some, Option.isNone_none, Bool.false_bne, Bool.bne_true, Bool.bne_false, Bool.true_bne, Bool.not_true, Bool.not_false, Bool.and_true, Bool.true_and, Bool.and_false, Bool.false_and, Bool.or_true, Bool.true_or, Bool.or_false, Bool.false_or, cond_true, cond_false, List.getElem?_toArray, List.getElem?_cons_zero, List.getElem?_cons_succ, Nat.zero_add, Nat.add_zero, Nat.reduceAdd, forall_const]
  refine alloc_s hs2 (A_api_ID w2) fun g4 w3 hs3 => ?_
  refine St_api_ID hs3 fun w4 hs4 => ?_
  refine drH_S hs4 fun w5 hs5 _ => ?_
  -- id 0 · b 1 · c 2 · held 3 · l 4 · ids 5 · map 6
  refine rdS_ld (v := .map (some gm)) (fun u hu K hk => (L_chain_Chain__at (Sep.blk hu.p2) K).mpr hk) ?_
  refine ⟨kv b.id, fun u hu => (L_api_ID (Sep.blk hu) _).mpr rfl, ?_⟩
  refine rdS_ld (v := lv) (fun u hu K hk => (L_chain_Chain__l (Sep.blk hu.p2) K).mpr hk) ?_
  have hlb : ∀ K, lenS lv K = K (.int .i64 B.length) := fun K => by
    have := (Sep.rows (Sep.pick hs5 [4] 5)).len K
    rwa [List.length_map] at this
  rw [hlb]
  refine efC_efU (putF_s U_map_api_ID_int KTc (Sep.pick hs5 [6, 0, 1, 2, 3, 4, 5] 7) fun w6 hs6 => ?_)
  have e1 : updF (atF (blks B)) b.id (.int .i64 (B.length : Nat)) = atF (blks B ++ [b]) := by
    rw [atF_snoc, List.length_map]
  rw [e1] at hs6
  -- map 0 · id 1 · b 2 · c 3 · held 4 · l 5 · ids 6
  replace hs6 : Sep w0 w6 (rows Q_api_Block lv (B.map BV.t) :: rows (rVec 32) iv (B.map (·.1.id)) :: blk g (Rdr.cells Q_chain_Chain (.pointer (some ⟨gi, 0, none⟩), lv, iv, .map (some gm), over)).toArray T_chain_Chain :: blk g4 (Rdr.cells (rVec 32) b.id).toArray T_api_ID :: blk g3 (Rdr.cells Q_api_Block (b.p, b.h, v)).toArray T_api_Block :: blk gi #[pt] T_chain_held :: mpF gm (atF (blks B ++ [b])) :: As) := Sep.pick hs6 [5, 6, 3, 1, 2, 4, 0] 7
  refine drH_PH' (S := fun u => Sep w0 u (blk g (Rdr.cells Q_chain_Chain (.pointer (some ⟨gi, 0, none⟩), lv, iv, .map (some gm), over)).toArray T_chain_Chain :: blk g4 (Rdr.cells (rVec 32) b.id).toArray T_api_ID :: blk g3 (Rdr.cells Q_api_Block (b.p, b.h, v)).toArray T_api_Block :: blk gi #[pt] T_chain_held :: mpF gm (atF (blks B ++ [b])) :: As)) hs6 (fun u hu => hu.tail.tail) fun w7 hs7 _ => ?_
  refine ⟨fun z => ∃ lv' iv' vd, Sep w0 z (chH g gi gm lv' iv' pt over (B ++ [(b, vd)]) ++ (ownB vd b.d :: As)), ?_, fun z hz _ => hR _ _ ⟨rfl, hz⟩⟩
  simp only [nilc_some, fad_mk, pik_true, pik_false, cnd_true, cnd_false, gif_same, gif_tf, gif_ft, gif_undef, bi_add, bi_sub, bi_mul, bi_eql, bi_neq, bi_lss, bi_leq, bi_gtr, bi_geq, notB_bool, cvi_int, lenS_mk, lenT_mk, ext0, ext1, ext2, nilP_mk, nilS_mk, fldv_agg, jn0_k, jn1_k, jn2_k, jn1_and, jn1_or, ex_some, Option.isNone_some, Option.isNone_none, Bool.false_bne, Bool.bne_true, Bool.bne_false, Bool.true_bne, Bool.not_true, Bool.not_false, Bool.and_true, Bool.true_and, Bool.and_false, Bool.false_and, Bool.or_true, Bool.true_or, Bool.or_false, Bool.false_or, cond_true, cond_false, List.getElem?_toArray, List.getElem?_cons_zero, List.getElem?_cons_succ, Nat.zero_add, Nat.add_zero, Nat.reduceAdd, forall_const]
  refine rdS_ld (v := lv) (fun u hu K hk => (L_chain_Chain__l (Sep.blk hu) K).mpr hk) ?_
  refine ⟨bq b v, fun u hu => (L_api_Block (Sep.blk hu.p2) _).mpr rfl, ?_⟩
  refine rdS_ld (v := iv) (fun u hu K hk => (L_chain_Chain__ids (Sep.blk hu) K).mpr hk) ?_
  refine ⟨kv b.id, fun u hu => (L_api_ID (Sep.blk hu.p1) _).mpr rfl, ?_⟩
  refine four_app hs7 (fun z hz => hb z hz.tail.tail.tail.tail.tail) (by omega) hn (by simpa using hn) fun u' y' z vd hz => ?_
  -- l 0 · ids 1 · own 2 · c 3 · id 4 · b 5 · held 6 · map 7
  refine efC_st1 (St_chain_Chain__l (Sep.pick hz [3, 0, 1, 2, 6, 7] 8) (Sep.oneR hz) fun z2 hz2 => ?_)
  refine efC_st1 (St_chain_Chain__ids hz2 (Sep.oneR hz2.p2) fun z3 hz3 => ?_)
  refine ⟨u', y', vd, ?_⟩
  have e2 : (B ++ [(b, vd)]).map (·.1.id) = B.map (·.1.id) ++ [b.id] := by simp
  have e3 : blks (B ++ [(b, vd)]) = blks B ++ [b] := by simp
  unfold chH
  rw [e2, e3]
  exact Sep.pick hz3 [0, 4, 1, 2, 5, 3] 6
end
end Go.Fx
set_option linter.unusedVariables false
set_option linter.unusedSimpArgs false
namespace Go.Fx
section
variable {w0 w w' : World} {As : List Asn} {g gi gm : Nat} {lv iv m pt : Value} {over : Bool} {B : List BV} {x : Tp}
theorem tp_one (hs : Sep w0 w (tp pt x :: As)) : pt.oneCell' = true := by
  rw [tp_open] at hs
  obtain ⟨g, s, rfl, _⟩ := hs
  rfl
theorem lastOf {B : List BV} {a : Blk} {l : List Blk} (h : blks B = a :: l) : ∃ y, B[B.length - 1]? = some y ∧ y.1 = lastB a l := by
  have h1 := lastB_get a l
  rw [← h, List.getElem?_map] at h1
  have hl : B.length = l.length + 1 := by
    have := congrArg List.length h
    simpa using this
  rw [show l.length = B.length - 1 by omega] at h1
  cases hb : B[B.length - 1]? with
  | none => rw [hb] at h1; cases h1
  | some y => rw [hb] at h1; exact ⟨y, rfl, Option.some.inj h1⟩
theorem layL_tk {l : List Blk} {i : Nat} {b : Blk} (h : l[i]? = some b) : layL (l.take (i + 1)) = layL (l.take i) ++ b.rcd := layL_take h
theorem cOpen_spec {b : Blk} {v : Value} (hs : Sep w0 w (tp pt x :: As)) (hx : x.Ok) (hm : x.made = true) (hC : Cub w0) (hb : ∀ z, Sep w0 z As → RdB z.heap v b.d) (hh : b.h ≤ maxI) :
    cal P f_chain_Open [pt, bq b v] w fun r w' =>
      (x.off = true ∧ r = .tuple #[.pointer none, .int .i64 5] ∧ Sep w0 w' (tp pt x :: As)) ∨
      (x.off = false ∧ (b.chk ≠ 0 ∨ b.h ≠ 0) ∧ r = .tuple #[.pointer none, .int .i64 30] ∧ Sep w0 w' (tp pt x :: As)) ∨
      (x.off = false ∧ b.chk = 0 ∧ b.h = 0 ∧ ∃ g gi gm lv iv B E S, r = .tuple #[.pointer (some ⟨g, 0, none⟩), .int .i64 0] ∧ IsScan x.b S ∧ blks B = b :: linkT b S ∧ DatB B E ∧
        Sep w0 w' (chH g gi gm lv iv pt false B ++ (tp pt { x with b := layL (linkT b S) } :: (E ++ As)))) := by
  refine s_chain_Open fun R hR => ?_
  unfold c_chain_Open
  have hp1 := tp_one hs
  refine bxQ hs fun g3 w1 hs1 => ?_
  refine cal_i (tpClone_spec hs1.p1 hx hm) ?_
  rintro tv w2 hs2
  rw [tp_nilP hs2]
  simp only [nilc_some, fad_mk, pik_true, pik_false, cnd_true, cnd_false, gif_same, gif_tf, gif_ft, gif_undef, bi_add, bi_sub, bi_mul, bi_eql, bi_neq, bi_lss, bi_leq, bi_gtr, bi_geq, notB_bool, cvi_int, lenS_mk, lenT_mk, ext0, ext1, ext2, nilP_mk, nilS_mk, fldv_agg, jn0_k, jn1_k, jn2_k, jn1_and, jn1_or, ex_some, Option.isNone_some, Option.isNone_none, Bool.false_bne, Bool.bne_true, Bool.bne_false, Bool.true_bne, Bool.not_true, Bool.not_false, Bool.and_true, Bool.true_and, Bool.and_false, Bool.false_and, Bool.or_true, Bool.true_or, Bool.or_false, Bool.false_or, cond_true, cond_false, List.getElem?_toArray, List.getElem?_cons_zero, List.getElem?_cons_succ, Nat.zero_add, Nat.add_zero, Nat.reduceAdd, forall_const]
  have hs2' := hs1.old hs2.fr0
  refine cal_i (tpOn_spec hs2'.p1) ?_
  rintro _ _ ⟨rfl, rfl⟩
  rw [hm]
  cases hoff : x.off with
  | true =>
    simp only [nilc_some, fad_mk, pik_true, pik_false, cnd_true, cnd_false, gif_same, gif_tf, gif_ft, gif_undef, bi_add, bi_sub, bi_mul, bi_eql, bi_neq, bi_lss, bi_leq, bi_gtr, bi_geq, notB_bool, cvi_int, lenS_mk, lenT_mk, ext0, ext1, ext2, nilP_mk, nilS_mk, fldv_agg, jn0_k, jn1_k, jn2_k, jn1_and, jn1_or, ex_some, Option.isNone_some, Option.isNone_none, Bool.false_bne, Bool.bne_true, Bool.bne_false, Bool.true_bne, Bool.not_true, Bool.not_false, Bool.and_true, Bool.true_and, Bool.and_false, Bool.false_and, Bool.or_true, Bool.true_or, Bool.or_false, Bool.false_or, cond_true, cond_false, List.getElem?_toArray, List.getElem?_cons_zero, List.getElem?_cons_succ, Nat.zero_add, Nat.add_zero, Nat.reduceAdd, forall_const]
    exact hR _ _ (.inl ⟨hoff, rfl, hs2'.tail⟩)
  | false =>
  simp only [nilc_some, fad_mk, pik_true, pik_false, cnd_true, cnd_false, gif_same, gif_tf, gif_ft, gif_undef, bi_add, bi_sub, bi_mul, bi_eql, bi_neq, bi_lss, bi_leq, bi_gtr, bi_geq, notB_bool, cvi_int, lenS_mk, lenT_mk, ext0, ext1, ext2, nilP_mk, nilS_mk, fldv_agg, jn0_k, jn1_k, jn2_k, jn1_and, jn1_or, ex_some, Option.isNone_some, Option.isNone_none, Bool.false_bne, Bool.bne_true, Bool.bne_false, Bool.true_bne, Bool.not_true, Bool.not_false, Bool.and_true, Bool.true_and, Bool.and_false, Bool.false_and, Bool.or_true, Bool.true_or, Bool.or_false, Bool.false_or, cond_true, cond_false, List.getElem?_toArray, List.getElem?_cons_zero, List.getElem?_cons_succ, Nat.zero_add, Nat.add_zero, Nat.reduceAdd, forall_const, L_api_Block hs2'.blk, L_api_Block__Parent hs2'.blk, L_api_Block__Height hs2'.blk, L_api_Block__Data hs2'.blk]
  refine cal_i (Check_spec (b := b) (v := v) (hb _ hs2'.tail.tail)) ?_
  rintro _ w3 ⟨rfl, hf3⟩
  have hs3 := hs2'.old hf3
  simp only [nilc_some, fad_mk, pik_true, pik_false, cnd_true, cnd_false, gif_same, gif_tf, gif_ft, gif_undef, bi_add, bi_sub, bi_mul, bi_eql, bi_neq, bi_lss, bi_leq, bi_gtr, bi_geq, notB_bool, cvi_int, lenS_mk, lenT_mk, ext0, ext1, ext2, nilP_mk, nilS_mk, fldv_agg, jn0_k, jn1_k, jn2_k, jn1_and, jn1_or, ex_some, Option.isNone_some, Option.isNone_none, Bool.false_bne, Bool.bne_true, Bool.bne_false, Bool.true_bne, Bool.not_true, Bool.not_false, Bool.and_true, Bool.true_and, Bool.and_false, Bool.false_and, Bool.or_true, Bool.true_or, Bool.or_false, Bool.false_or, cond_true, cond_false, List.getElem?_toArray, List.getElem?_cons_zero, List.getElem?_cons_succ, Nat.zero_add, Nat.add_zero, Nat.reduceAdd, forall_const, L_api_Block hs3.blk, L_api_Block__Parent hs3.blk, L_api_Block__Height hs3.blk, L_api_Block__Data hs3.blk]
  rw [cnd_bool]
  refine ⟨fun h => ?_, fun h => ?_⟩
  · have h : b.chk ≠ 0 ∨ b.h ≠ 0 := by simpa using h
    exact hR _ _ (.inr (.inl ⟨hoff, h, rfl, hs3.tail⟩))
  have h : b.chk = 0 ∧ b.h = 0 := by simpa using h
  obtain ⟨hck, hh0⟩ := h
  rw [B_chain_held_0 hp1]
  refine bxQ hs3 fun gi w4 hs4 => ?_
  refine makeF_s (n := 32) hs4 fun gm w5 hs5 => ?_
  rw [B_chain_Chain_0_3 rfl rfl]
  refine bxQ hs5 fun g w6 hs6 => ?_
  -- c 0 · map 1 · held 2 · b 3 · tp 4
  obtain ⟨A1, hA1⟩ : ∃ A1, A1 = blk g3 (Rdr.cells Q_api_Block (b.p, b.h, v)).toArray T_api_Block :: tp pt x :: As := ⟨_, rfl⟩
  have hs7 : Sep w0 w6 (chH g gi gm (.slice none 0 0) (.slice none 0 0) pt false [] ++ A1) := by
    rw [hA1]
    exact Sep.pick ((hs6.nilR (q := rVec 32)).nilR (q := Q_api_Block)) [2, 4, 0, 1, 3, 5, 6] 7
  have hbA : ∀ z, Sep w0 z A1 → RdB z.heap v b.d := fun z hz => by rw [hA1] at hz; exact hb z hz.tail.tail
  simp only [L_api_Block (Sep.blk (Sep.pick hs6 [3] 4)), L_api_Block__Parent (Sep.blk (Sep.pick hs6 [3] 4)), L_api_Block__Height (Sep.blk (Sep.pick hs6 [3] 4)), L_api_Block__Data (Sep.blk (Sep.pick hs6 [3] 4))]
  refine cal_i (cAdd_spec (b := b) (v := v) hs7 hC hbA hh hck (by simp)) ?_
  rintro _ w7 ⟨rfl, lv1, iv1, vd, hs8⟩
  clear hs7 hs6 hs5 hs4 hs3 hs2' hs1 hs2
  rw [List.nil_append] at hs8
  -- chain 0-4 · own 5 · b 6 · tp 7
  rw [hA1] at hs8
  refine cal_i (tpBytes_spec (Sep.pick hs8 [7] 8) hx hm) ?_
  rintro bs w8 hs9
  obtain ⟨ba, bc, hbf, hbc⟩ := Sep.form hs9
  have hcap : capOk bs := fun a' n' c' he => by
    rw [hbf] at he
    simp only [Value.slice.injEq] at he
    obtain ⟨_, rfl, rfl⟩ := he
    exact hbc
  have hxl := hx.1
  refine cal_i (Scan_spec (hC.fr (hs8.old hs9.fr0).fr0) (Sep.rd hs9) hcap (by omega)) ?_
  rintro _ w9 ⟨sx, SB, rfl, hsc, hs10⟩
  have hf10 : Fr [] w7 w9 := hs9.fr0.trans hs10.fr0 (by simp) (by simp)
  have hs11 : Sep w0 w9 (brow sx SB ++ (chH g gi gm lv1 iv1 pt false [(b, vd)] ++ (ownB vd b.d :: blk g3 (Rdr.cells Q_api_Block (b.p, b.h, v)).toArray T_api_Block :: tp pt x :: As))) := (hs8.old hs9.fr0).join hs10
  obtain ⟨S, hS⟩ : ∃ S, S = blks SB := ⟨_, rfl⟩
  replace hsc : IsScan x.b S := by rw [hS]; exact hsc
  obtain ⟨Y, hY⟩ : ∃ Y, Y = tp pt x :: (brow sx SB ++ As) := ⟨_, rfl⟩
  have hs12 : Sep w0 w9 (chH g gi gm lv1 iv1 pt false [(b, vd)] ++ ([ownB vd b.d] ++ Y)) := by
    rw [hY]
    have h1 : Sep w0 w9 ((chH g gi gm lv1 iv1 pt false [(b, vd)] ++ [ownB vd b.d, blk g3 (Rdr.cells Q_api_Block (b.p, b.h, v)).toArray T_api_Block, tp pt x]) ++ (brow sx SB ++ As)) := hs11.perm (List.perm_append_comm_assoc (brow sx SB) (chH g gi gm lv1 iv1 pt false [(b, vd)] ++ [ownB vd b.d, blk g3 (Rdr.cells Q_api_Block (b.p, b.h, v)).toArray T_api_Block, tp pt x]) As)
    exact Sep.pick h1 [0, 1, 2, 3, 4, 5, 7] 8
  clear hs11 hs10 hs9 hs8 hf10 hA1 hbA
  have fB : ∀ {z : World} {Bs : List Asn}, Sep w0 z (Bs ++ Y) → BRows z.heap sx SB := fun {z Bs} hz => by
    have hz := hz.dropL
    rw [hY] at hz
    exact brow_rd hz.tail
  have hlS : S.length = SB.length := by rw [hS]; simp
  have hlay : ∀ i, (layL (S.take i)).length ≤ x.b.length := fun i => by
    obtain ⟨hg, t, ht, _⟩ := hsc
    have h1 : S = S.take i ++ S.drop i := (List.take_append_drop i S).symm
    have h2 : layL S = layL (S.take i) ++ layL (S.drop i) := by rw [← layL_append, List.take_append_drop]
    rw [ht, h2]
    simp only [List.length_append]
    omega
  have hSl : S.length ≤ 1000000 := by
    have h1 := layL_ge S
    have h2 := hsc.len
    omega
  simp only [nilc_some, fad_mk, pik_true, pik_false, cnd_true, cnd_false, gif_same, gif_tf, gif_ft, gif_undef, bi_add, bi_sub, bi_mul, bi_eql, bi_neq, bi_lss, bi_leq, bi_gtr, bi_geq, notB_bool, cvi_int, lenS_mk, lenT_mk, ext0, ext1, ext2, nilP_mk, nilS_mk, fldv_agg, jn0_k, jn1_k, jn2_k, jn1_and, jn1_or, ex_some, Option.isNone_some, Option.isNone_none, Bool.false_bne, Bool.bne_true, Bool.bne_false, Bool.true_bne, Bool.not_true, Bool.not_false, Bool.and_true, Bool.true_and, Bool.and_false, Bool.false_and, Bool.or_true, Bool.true_or, Bool.or_false, Bool.false_or, cond_true, cond_false, List.getElem?_toArray, List.getElem?_cons_zero, List.getElem?_cons_succ, Nat.zero_add, Nat.add_zero, Nat.reduceAdd, forall_const]
  refine ⟨fun y z => ∃ (i : Nat) (lv iv : Value) (B : List BV) (E : List Asn), y = .int .i64 ((layL (S.take i)).length : Nat) ∧ linkT b S = S.take i ∧ blks B = b :: S.take i ∧ DatB B E ∧ Sep w0 z (chH g gi gm lv iv pt false B ++ (E ++ Y)), ?_, ?_⟩
  · change lenS _ _
    rw [(fB (Bs := chH g gi gm lv1 iv1 pt false [(b, vd)] ++ [ownB vd b.d]) (by rw [List.append_assoc]; exact hs12)).len]
    refine ⟨fun y z' z => ∃ (i : Nat) (lv iv : Value) (B : List BV) (E : List Asn), y = .int .i64 ((layL (S.take i)).length : Nat) ∧ z' = .int .i64 i ∧ i ≤ SB.length ∧ linked b (S.take i) ∧ blks B = b :: S.take i ∧ DatB B E ∧ Sep w0 z (chH g gi gm lv iv pt false B ++ (E ++ Y)), fun _ y _ => (SB.length - RowKit.intOf y).toNat, ⟨0, lv1, iv1, [(b, vd)], [ownB vd b.d], rfl, rfl, by omega, trivial, rfl, (fun y hy => by rw [List.mem_singleton.1 hy]; exact List.mem_cons_self ..), hs12⟩, ?_⟩
    clear hs12
    rintro _ _ w10 ⟨i, lv, iv, B, E, rfl, rfl, hi, hlk, hB, hD, hs10⟩ -
    simp only [nilc_some, fad_mk, pik_true, pik_false, cnd_true, cnd_false, gif_same, gif_tf, gif_ft, gif_undef, bi_add, bi_sub, bi_mul, bi_eql, bi_neq, bi_lss, bi_leq, bi_gtr, bi_geq, notB_bool, cvi_int, lenS_mk, lenT_mk, ext0, ext1, ext2, nilP_mk, nilS_mk, fldv_agg, jn0_k, jn1_k, jn2_k, jn1_and, jn1_or, ex_some, Option.isNone_some, Option.isNone_none, Bool.false_bne, Bool.bne_true, Bool.bne_false, Bool.true_bne, Bool.not_true, Bool.not_false, Bool.and_true, Bool.true_and, Bool.and_false, Bool.false_and, Bool.or_true, Bool.true_or, Bool.or_false, Bool.false_or, cond_true, cond_false, List.getElem?_toArray, List.getElem?_cons_zero, List.getElem?_cons_succ, Nat.zero_add, Nat.add_zero, Nat.reduceAdd, forall_const]
    rw [cnd_bool]
    refine ⟨fun h => ?_, fun h => ?_⟩
    case refine_2 =>
      have hge : i = S.length := by simp at h; omega
      refine ⟨i, lv, iv, B, E, rfl, ?_, hB, hD, hs10⟩
      rw [hge, List.take_of_length_le (Nat.le_refl _)] at hlk ⊢
      exact linkT_self hlk
    have hlt : i < SB.length := by simp at h; omega
    obtain ⟨e, he⟩ : ∃ e, SB[i]? = some e := ⟨_, List.getElem?_eq_getElem hlt⟩
    have heS : S[i]? = some e.1 := by rw [hS, List.getElem?_map, he]; rfl
    have hge := hsc.1 e.1 (List.mem_of_getElem? heS)
    obtain ⟨y0, hy0, hy1⟩ := lastOf hB
    have hBl : B.length = i + 1 := by
      have := congrArg List.length hB
      simp only [List.length_map, List.length_cons, List.length_take] at this
      omega
    have hrB : ∀ {z : World} {Bs : List Asn}, Sep w0 z (Bs ++ (chH g gi gm lv iv pt false B ++ (E ++ Y))) → ChR z.heap g gi lv iv (.map (some gm)) pt false B := fun {z Bs} hz => chH_rd hz.dropL (hD.sub fun A hA => List.mem_append_left _ hA)
    have hsxB : ∀ {z : World} {Bs : List Asn}, Sep w0 z (Bs ++ (chH g gi gm lv iv pt false B ++ (E ++ Y))) → BRows z.heap sx SB := fun {z Bs} hz => fB (Bs := E) hz.dropL.dropL
    change ixs 34 _ _ _
    refine BRows.ld (hsxB (Bs := []) hs10) he .i64 ?_
    refine alloc_s hs10 (A_api_Block w10) fun g11 w11 hs11 => ?_
    refine St_api_Block (b := e.t) hs11 (one_api_Block ((hsxB (Bs := [_]) hs11).2 e (List.mem_of_getElem? he)).one) fun w12 hs12 => ?_
    refine drH_S hs12 fun w13 hs13 _ => ?_
    refine ⟨bq e.1 e.2, fun u hu => (L_api_Block (Sep.blk hu) _).mpr rfl, ?_⟩
    refine efS_i (cal_i (cLast_spec (hrB (Bs := [_]) hs13) hy0 (by omega)) ?_)
    rintro _ w14 ⟨rfl, hf14⟩
    have hs14 := hs13.old hf14
    refine ⟨hs14, ?_⟩
    have hyh : y0.1.h ≤ maxI := by
      have hm : y0.1 ∈ blks B := List.mem_map_of_mem (List.mem_of_getElem? hy0)
      rw [hB] at hm
      rcases List.mem_cons.1 hm with h | h
      · rw [h]; exact hh
      · exact (hsc.1 _ (List.mem_of_mem_take h)).2
    refine efC_cal (cal_i (Linked_spec (a := e.1) (b := y0.1) (hC.fr hs14.fr0) ((hsxB (Bs := [_]) hs14).2 e (List.mem_of_getElem? he)) ((hrB (Bs := [_]) hs14).bw.2 y0 (List.mem_of_getElem? hy0)) hyh hge.2) ?_)
    rintro _ w15 ⟨rfl, hf15⟩
    have hs15 := hs14.old hf15
    simp only [nilc_some, fad_mk, pik_true, pik_false, cnd_true, cnd_false, gif_same, gif_tf, gif_ft, gif_undef, bi_add, bi_sub, bi_mul, bi_eql, bi_neq, bi_lss, bi_leq, bi_gtr, bi_geq, notB_bool, cvi_int, lenS_mk, lenT_mk, ext0, ext1, ext2, nilP_mk, nilS_mk, fldv_agg, jn0_k, jn1_k, jn2_k, jn1_and, jn1_or, ex_some, Option.isNone_some, Option.isNone_none, Bool.false_bne, Bool.bne_true, Bool.bne_false, Bool.true_bne, Bool.not_true, Bool.not_false, Bool.and_true, Bool.true_and, Bool.and_false, Bool.false_and, Bool.or_true, Bool.true_or, Bool.or_false, Bool.false_or, cond_true, cond_false, List.getElem?_toArray, List.getElem?_cons_zero, List.getElem?_cons_succ, Nat.zero_add, Nat.add_zero, Nat.reduceAdd, forall_const]
    rw [cnd_bool, hy1]
    refine ⟨fun h => ?_, fun h => ?_⟩
    · have h : e.1.link (lastB b (S.take i)) ≠ 0 := by simpa using h
      exact ⟨i, lv, iv, B, E, rfl, linkT_take hlk heS h, hB, hD, hs15.tail⟩
    have h : e.1.link (lastB b (S.take i)) = 0 := by simpa using h
    simp only [L_api_Block hs15.blk, L_api_Block__Parent hs15.blk, L_api_Block__Height hs15.blk, L_api_Block__Data hs15.blk]
    refine cal_i (recSize_spec (b := e.1) (v := e.2) ((hsxB (Bs := [_]) hs15).2 e (List.mem_of_getElem? he))) ?_
    rintro _ w16 ⟨rfl, hf16⟩
    have hs16 := hs15.old hf16
    have hro : e.1.recO = e.1.rcd := if_pos hge.1
    have hll := hlay (i + 1)
    rw [layL_tk heS, List.length_append] at hll
    simp only [nilc_some, fad_mk, pik_true, pik_false, cnd_true, cnd_false, gif_same, gif_tf, gif_ft, gif_undef, bi_add, bi_sub, bi_mul, bi_eql, bi_neq, bi_lss, bi_leq, bi_gtr, bi_geq, notB_bool, cvi_int, lenS_mk, lenT_mk, ext0, ext1, ext2, nilP_mk, nilS_mk, fldv_agg, jn0_k, jn1_k, jn2_k, jn1_and, jn1_or, ex_some, Option.isNone_some, Option.isNone_none, Bool.false_bne, Bool.bne_true, Bool.bne_false, Bool.true_bne, Bool.not_true, Bool.not_false, Bool.and_true, Bool.true_and, Bool.and_false, Bool.false_and, Bool.or_true, Bool.true_or, Bool.or_false, Bool.false_or, cond_true, cond_false, List.getElem?_toArray, List.getElem?_cons_zero, List.getElem?_cons_succ, Nat.zero_add, Nat.add_zero, Nat.reduceAdd, forall_const, hro, L_api_Block hs16.blk, L_api_Block__Parent hs16.blk, L_api_Block__Height hs16.blk, L_api_Block__Data hs16.blk]
    rw [wi64 (by omega) (by omega)]
    have hsA : Sep w0 w16 (chH g gi gm lv iv pt false B ++ (blk g11 (Rdr.cells Q_api_Block e.t).toArray T_api_Block :: (E ++ Y))) := Sep.pick hs16 [1, 2, 3, 4, 5, 0] 6
    refine cal_i (cAdd_spec (b := e.1) (v := e.2) hsA hC (fun z hz => (fB (Bs := E) hz.tail).2 e (List.mem_of_getElem? he)) hge.2 hge.1 (by omega)) ?_
    rintro _ w17 ⟨rfl, lv', iv', vd', hs17⟩
    rw [wi64 (by omega) (by omega)]
    refine ⟨⟨i + 1, lv', iv', B ++ [(e.1, vd')], ownB vd' e.1.d :: E, ?_, by simp, by omega, ?_, ?_, ?_, Sep.pick hs17 [0, 1, 2, 3, 4, 5] 7⟩, by simp [RowKit.intOf]; omega⟩
    · rw [layL_tk heS, List.length_append, Int.natCast_add]
    · rw [List.take_add_one, heS]
      exact linked_snoc hlk h
    · unfold blks at hB ⊢
      rw [List.take_add_one, heS, List.map_append, hB]
      rfl
    · intro y hy
      rcases List.mem_append.1 hy with hy | hy
      · exact List.mem_cons_of_mem _ (hD y hy)
      · rw [List.mem_singleton.1 hy]; exact List.mem_cons_self ..
  clear hs12
  rintro _ w10 ⟨i, lv, iv, B, E, rfl, hlT, hB, hD, hs10⟩ _
  have hend := hlay i
  rw [hY] at hs10
  have hfin : x.b.take (layL (S.take i)).length = layL (linkT b S) := by
    obtain ⟨hg, t, ht, _⟩ := hsc
    have h1 : S = S.take i ++ S.drop i := (List.take_append_drop i S).symm
    have h2 : layL S = layL (S.take i) ++ layL (S.drop i) := by rw [← layL_append, List.take_append_drop]
    rw [ht, h2, List.append_assoc, List.take_left, hlT]
  have hs11 : Sep w0 w10 (tp pt x :: (chH g gi gm lv iv pt false B ++ (E ++ (brow sx SB ++ As)))) := by
    have h1 : Sep w0 w10 ((chH g gi gm lv iv pt false B ++ E) ++ tp pt x :: (brow sx SB ++ As)) := by rw [List.append_assoc]; exact hs10
    have h2 := Sep.mid h1
    rwa [List.append_assoc] at h2
  clear hs10
  refine cal_i (tpLen_spec hs11 hm) ?_
  rintro _ _ ⟨rfl, rfl⟩
  have out : ∀ z, Sep w0 z (tp pt { x with b := layL (linkT b S) } :: (chH g gi gm lv iv pt false B ++ (E ++ (brow sx SB ++ As)))) → R (.tuple #[.pointer (some ⟨g, 0, none⟩), .int .i64 0]) z := fun z hz => by
    refine hR _ _ (.inr (.inr ⟨hoff, hck, hh0, g, gi, gm, lv, iv, B, E ++ brow sx SB, S, rfl, hsc, by rw [hlT]; exact hB, hD.sub fun A hA => List.mem_append_left _ hA, ?_⟩))
    rw [List.append_assoc E]
    exact Sep.pick hz [1, 2, 3, 4, 5, 0] 6
  simp only [nilc_some, fad_mk, pik_true, pik_false, cnd_true, cnd_false, gif_same, gif_tf, gif_ft, gif_undef, bi_add, bi_sub, bi_mul, bi_eql, bi_neq, bi_lss, bi_leq, bi_gtr, bi_geq, notB_bool, cvi_int, lenS_mk, lenT_mk, ext0, ext1, ext2, nilP_mk, nilS_mk, fldv_agg, jn0_k, jn1_k, jn2_k, jn1_and, jn1_or, ex_some, Option.isNone_some, Option.isNone_none, Bool.false_bne, Bool.bne_true, Bool.bne_false, Bool.true_bne, Bool.not_true, Bool.not_false, Bool.and_true, Bool.true_and, Bool.and_false, Bool.false_and, Bool.or_true, Bool.true_or, Bool.or_false, Bool.false_or, cond_true, cond_false, List.getElem?_toArray, List.getElem?_cons_zero, List.getElem?_cons_succ, Nat.zero_add, Nat.add_zero, Nat.reduceAdd, forall_const]
  rw [cnd_bool]
  refine ⟨fun h => ?_, fun h => ?_⟩
  · refine cal_i (tpTruncate_spec (n := ((layL (S.take i)).length : Nat)) hs11 hx) ?_
    have hmay : x.may = 0 := by unfold Tp.may; rw [hm, hoff]; rfl
    have ht : x.truncate ((layL (S.take i)).length : Nat) = ({ x with b := layL (linkT b S) }, 0) := by
      unfold Tp.truncate
      rw [if_neg (by simp [hmay]), if_neg (by omega), Int.toNat_natCast, hfin]
    rw [ht]
    rintro _ w11 ⟨rfl, hs12⟩
    simp only [nilc_some, fad_mk, pik_true, pik_false, cnd_true, cnd_false, gif_same, gif_tf, gif_ft, gif_undef, bi_add, bi_sub, bi_mul, bi_eql, bi_neq, bi_lss, bi_leq, bi_gtr, bi_geq, notB_bool, cvi_int, lenS_mk, lenT_mk, ext0, ext1, ext2, nilP_mk, nilS_mk, fldv_agg, jn0_k, jn1_k, jn2_k, jn1_and, jn1_or, ex_some, Option.isNone_some, Option.isNone_none, Bool.false_bne, Bool.bne_true, Bool.bne_false, Bool.true_bne, Bool.not_true, Bool.not_false, Bool.and_true, Bool.true_and, Bool.and_false, Bool.false_and, Bool.or_true, Bool.true_or, Bool.or_false, Bool.false_or, cond_true, cond_false, List.getElem?_toArray, List.getElem?_cons_zero, List.getElem?_cons_succ, Nat.zero_add, Nat.add_zero, Nat.reduceAdd, forall_const, show ((0 : Int) != 0) = false from rfl]
    exact out w11 hs12
  · refine out _ ?_
    have hge : x.b.length ≤ (layL (S.take i)).length := by simp at h; omega
    rw [List.take_of_length_le hge] at hfin
    rw [← hfin]
    exact hs11
end
end Go.Fx
set_option linter.unusedVariables false
set_option linter.unusedSimpArgs false
namespace Go.Fx
section
variable {w0 w w' : World} {As : List Asn} {g gi gm : Nat} {lv iv m pt : Value} {over : Bool} {B : List BV} {x : Tp}
theorem bldS1 {s : Value} {l : List UInt8} {Bs : List Asn} {K : Value → World → Prop} (hs : Sep w0 w (ownB s l :: Bs)) (hl : l.length ≤ 1000000)
    (hk : ∀ a z, Sep w0 z (own a 1 1 [s] :: ownB s l :: Bs) → K a z) : efP P (Instr.buildSlice T_sl_sl_uint8 1 #[(0, s)]) w K := by
  have hb : (Instr.buildSlice T_sl_sl_uint8 1 #[(0, s)]).run P w = .ok (.slice (some ⟨w.heap.size, 0, none⟩) 1 1) (w.alloc (.cells ([s] : List Value).toArray T_sl_uint8)) := by
    obtain ⟨a, c, hv, _⟩ := Sep.form hs
    rw [hv]
    kernel_rfl
  exact build_s (cs := [s]) (size := 1) hs rfl hb fun g5 w5 hs5 => hk _ _ hs5
theorem app1_spec {s a : Value} {l : List UInt8} {Bs : List Asn} (hs : Sep w0 w (tp pt x :: own a 1 1 [s] :: ownB s l :: Bs)) (hx : x.Ok) (hl : l.length ≤ 1000000) :
    cal P f_tape_Tape_Append [pt, a] w fun v w' => v = .int .i64 (x.append l).2 ∧ Sep w0 w' (tp pt (x.append l).1 :: own a 1 1 [s] :: ownB s l :: Bs) := by
  refine cal_i (tpAppend_spec (s := ⟨a, [⟨s, l⟩]⟩) hs hx fun w' h => ?_) ?_
  · refine ok_of_own h.cel h.capN (by simp) fun b hb => ?_
    simp at hb
    rw [hb]
    exact h.p1.rb (by simpa using (by omega : l.length ≤ 9223372036854775807))
  have hj : joined [⟨s, l⟩] = l := by simp [joined]
  simp only [hj]
  rintro _ w1 ⟨rfl, hs1⟩
  exact ⟨rfl, hs1⟩
theorem cAccept_spec {b : Blk} {v : Value} {y : BV} (hs : Sep w0 w (chH g gi gm lv iv pt over B ++ (tp pt x :: As))) (hx : x.Ok) (hm : x.made = true) (hC : Cub w0) (hb : ∀ z, Sep w0 z As → RdB z.heap v b.d) (hD : DatB B As)
    (hh : b.h ≤ maxI) (hy : B[B.length - 1]? = some y) (hyh : y.1.h ≤ maxI) (hn : B.length ≤ 1000000) :
    cal P f_chain_Chain_Accept [.pointer (some ⟨g, 0, none⟩), bq b v] w fun r w' =>
      ((over = true ∨ x.off = true) ∧ r = .int .i64 5 ∧ Sep w0 w' (chH g gi gm lv iv pt over B ++ (tp pt x :: As))) ∨
      (over = false ∧ x.off = false ∧ b.link y.1 ≠ 0 ∧ r = .int .i64 (b.link y.1) ∧ Sep w0 w' (chH g gi gm lv iv pt over B ++ (tp pt x :: As))) ∨
      (over = false ∧ x.off = false ∧ b.link y.1 = 0 ∧ (x.append b.rcd).2 = 0 ∧ r = .int .i64 0 ∧ ∃ lv' iv' vd, Sep w0 w' (chH g gi gm lv' iv' pt false (B ++ [(b, vd)]) ++ (tp pt (x.append b.rcd).1 :: ownB vd b.d :: As))) ∨
      (over = false ∧ x.off = false ∧ b.link y.1 = 0 ∧ (x.append b.rcd).2 ≠ 0 ∧ r = .int .i64 (x.append b.rcd).2 ∧ Sep w0 w' (chH g gi gm lv iv pt ((x.append b.rcd).2 == 5) B ++ (tp pt (x.append b.rcd).1 :: As))) := by
  refine s_chain_Chain_Accept fun R hR => ?_
  unfold c_chain_Chain_Accept
  have hrC : ∀ {z : World} {Bs : List Asn}, Sep w0 z (Bs ++ (chH g gi gm lv iv pt over B ++ (tp pt x :: As))) → ChR z.heap g gi lv iv (.map (some gm)) pt over B := fun {z Bs} hz => chH_rd hz.dropL (hD.sub fun A hA => List.mem_cons_of_mem _ hA)
  refine bxQ hs fun g3 w1 hs1 => ?_
  refine cal_i (cMay_spec (hrC (Bs := [_]) hs1)) ?_
  rintro _ _ ⟨rfl, rfl⟩
  cases over with
  | true =>
    rw [if_pos rfl]
    simp only [nilc_some, fad_mk, pik_true, pik_false, cnd_true, cnd_false, gif_same, gif_tf, gif_ft, gif_undef, bi_add, bi_sub, bi_mul, bi_eql, bi_neq, bi_lss, bi_leq, bi_gtr, bi_geq, notB_bool, cvi_int, lenS_mk, lenT_mk, ext0, ext1, ext2, nilP_mk, nilS_mk, fldv_agg, jn0_k, jn1_k, jn2_k, jn1_and, jn1_or, ex_some, Option.isNone_some, Option.isNone_none, Bool.false_bne, Bool.bne_true, Bool.bne_false, Bool.true_bne, Bool.not_true, Bool.not_false, Bool.and_true, Bool.true_and, Bool.and_false, Bool.false_and, Bool.or_true, Bool.true_or, Bool.or_false, Bool.false_or, cond_true, cond_false, List.getElem?_toArray, List.getElem?_cons_zero, List.getElem?_cons_succ, Nat.zero_add, Nat.add_zero, Nat.reduceAdd, forall_const, show ((5 : Int) != 0) = true from rfl]
    exact hR _ _ (.inl ⟨.inl rfl, rfl, hs1.tail⟩)
  | false =>
  rw [if_neg (by decide)]
  simp only [nilc_some, fad_mk, pik_true, pik_false, cnd_true, cnd_false, gif_same, gif_tf, gif_ft, gif_undef, bi_add, bi_sub, bi_mul, bi_eql, bi_neq, bi_lss, bi_leq, bi_gtr, bi_geq, notB_bool, cvi_int, lenS_mk, lenT_mk, ext0, ext1, ext2, nilP_mk, nilS_mk, fldv_agg, jn0_k, jn1_k, jn2_k, jn1_and, jn1_or, ex_some, Option.isNone_some, Option.isNone_none, Bool.false_bne, Bool.bne_true, Bool.bne_false, Bool.true_bne, Bool.not_true, Bool.not_false, Bool.and_true, Bool.true_and, Bool.and_false, Bool.false_and, Bool.or_true, Bool.true_or, Bool.or_false, Bool.false_or, cond_true, cond_false, List.getElem?_toArray, List.getElem?_cons_zero, List.getElem?_cons_succ, Nat.zero_add, Nat.add_zero, Nat.reduceAdd, forall_const, show ((0 : Int) != 0) = false from rfl, L_chain_Chain (Sep.blk hs1.p1), L_chain_Chain__in (Sep.blk hs1.p1), L_chain_Chain__l (Sep.blk hs1.p1), L_chain_Chain__ids (Sep.blk hs1.p1), L_chain_Chain__at (Sep.blk hs1.p1), L_chain_Chain__over (Sep.blk hs1.p1), L_chain_held (Sep.blk hs1.p2), L_chain_held__Tape (Sep.blk hs1.p2)]
  refine cal_i (tpOn_spec (Sep.pick hs1 [6] 7)) ?_
  rintro _ _ ⟨rfl, rfl⟩
  rw [hm]
  cases hoff : x.off with
  | true =>
    simp only [nilc_some, fad_mk, pik_true, pik_false, cnd_true, cnd_false, gif_same, gif_tf, gif_ft, gif_undef, bi_add, bi_sub, bi_mul, bi_eql, bi_neq, bi_lss, bi_leq, bi_gtr, bi_geq, notB_bool, cvi_int, lenS_mk, lenT_mk, ext0, ext1, ext2, nilP_mk, nilS_mk, fldv_agg, jn0_k, jn1_k, jn2_k, jn1_and, jn1_or, ex_some, Option.isNone_some, Option.isNone_none, Bool.false_bne, Bool.bne_true, Bool.bne_false, Bool.true_bne, Bool.not_true, Bool.not_false, Bool.and_true, Bool.true_and, Bool.and_false, Bool.false_and, Bool.or_true, Bool.true_or, Bool.or_false, Bool.false_or, cond_true, cond_false, List.getElem?_toArray, List.getElem?_cons_zero, List.getElem?_cons_succ, Nat.zero_add, Nat.add_zero, Nat.reduceAdd, forall_const]
    exact hR _ _ (.inl ⟨.inr hoff, rfl, hs1.tail⟩)
  | false =>
  simp only [nilc_some, fad_mk, pik_true, pik_false, cnd_true, cnd_false, gif_same, gif_tf, gif_ft, gif_undef, bi_add, bi_sub, bi_mul, bi_eql, bi_neq, bi_lss, bi_leq, bi_gtr, bi_geq, notB_bool, cvi_int, lenS_mk, lenT_mk, ext0, ext1, ext2, nilP_mk, nilS_mk, fldv_agg, jn0_k, jn1_k, jn2_k, jn1_and, jn1_or, ex_some, Option.isNone_some, Option.isNone_none, Bool.false_bne, Bool.bne_true, Bool.bne_false, Bool.true_bne, Bool.not_true, Bool.not_false, Bool.and_true, Bool.true_and, Bool.and_false, Bool.false_and, Bool.or_true, Bool.true_or, Bool.or_false, Bool.false_or, cond_true, cond_false, List.getElem?_toArray, List.getElem?_cons_zero, List.getElem?_cons_succ, Nat.zero_add, Nat.add_zero, Nat.reduceAdd, forall_const]
  refine drH_S hs1 fun w2 hs2 _ => ?_
  refine ⟨bq b v, fun u hu => (L_api_Block (Sep.blk hu) _).mpr rfl, ?_⟩
  refine efS_i (cal_i (cLast_spec (hrC (Bs := [_]) hs2) hy hn) ?_)
  rintro _ w3 ⟨rfl, hf3⟩
  have hs3 := hs2.old hf3
  refine ⟨hs3, ?_⟩
  refine efC_cal (cal_i (Linked_spec (a := b) (b := y.1) (hC.fr hs3.fr0) (hb _ (Sep.pick hs3 [] 7)) ((hrC (Bs := [_]) hs3).bw.2 y (List.mem_of_getElem? hy)) hyh hh) ?_)
  rintro _ w4 ⟨rfl, hf4⟩
  have hs4 := hs3.old hf4
  clear hs1 hs2 hs3
  simp only [nilc_some, fad_mk, pik_true, pik_false, cnd_true, cnd_false, gif_same, gif_tf, gif_ft, gif_undef, bi_add, bi_sub, bi_mul, bi_eql, bi_neq, bi_lss, bi_leq, bi_gtr, bi_geq, notB_bool, cvi_int, lenS_mk, lenT_mk, ext0, ext1, ext2, nilP_mk, nilS_mk, fldv_agg, jn0_k, jn1_k, jn2_k, jn1_and, jn1_or, ex_some, Option.isNone_some, Option.isNone_none, Bool.false_bne, Bool.bne_true, Bool.bne_false, Bool.true_bne, Bool.not_true, Bool.not_false, Bool.and_true, Bool.true_and, Bool.and_false, Bool.false_and, Bool.or_true, Bool.true_or, Bool.or_false, Bool.false_or, cond_true, cond_false, List.getElem?_toArray, List.getElem?_cons_zero, List.getElem?_cons_succ, Nat.zero_add, Nat.add_zero, Nat.reduceAdd, forall_const]
  rw [cnd_bool]
  refine ⟨fun h => ?_, fun h => ?_⟩
  · have h : b.link y.1 ≠ 0 := by simpa using h
    exact hR _ _ (.inr (.inl ⟨rfl, hoff, h, rfl, hs4.tail⟩))
  have hl0 : b.link y.1 = 0 := by simpa using h
  have hck := (link_chk hl0).1
  have hro : b.recO = b.rcd := if_pos hck
  simp only [L_api_Block hs4.blk, L_api_Block__Parent hs4.blk, L_api_Block__Height hs4.blk, L_api_Block__Data hs4.blk]
  refine cal_i (recBytes_spec (b := b) (v := v) (hC.fr hs4.fr0) (hb _ (Sep.pick hs4 [] 7)) hh) ?_
  rintro _ w5 ⟨s, rfl, hs5⟩
  replace hs5 := hs4.join hs5
  rw [hro] at hs5
  rw [hck]
  -- rec 0 · b 1 · c 2 · held 3 · l 4 · ids 5 · map 6 · tp 7
  have hrl : b.rcd.length ≤ 1000000 := by
    have := Blk.recO_le b
    rw [hro] at this
    omega
  simp only [nilc_some, fad_mk, pik_true, pik_false, cnd_true, cnd_false, gif_same, gif_tf, gif_ft, gif_undef, bi_add, bi_sub, bi_mul, bi_eql, bi_neq, bi_lss, bi_leq, bi_gtr, bi_geq, notB_bool, cvi_int, lenS_mk, lenT_mk, ext0, ext1, ext2, nilP_mk, nilS_mk, fldv_agg, jn0_k, jn1_k, jn2_k, jn1_and, jn1_or, ex_some, Option.isNone_some, Option.isNone_none, Bool.false_bne, Bool.bne_true, Bool.bne_false, Bool.true_bne, Bool.not_true, Bool.not_false, Bool.and_true, Bool.true_and, Bool.and_false, Bool.false_and, Bool.or_true, Bool.true_or, Bool.or_false, Bool.false_or, cond_true, cond_false, List.getElem?_toArray, List.getElem?_cons_zero, List.getElem?_cons_succ, Nat.zero_add, Nat.add_zero, Nat.reduceAdd, forall_const, show ((0 : Int) != 0) = false from rfl, L_chain_Chain (Sep.blk (Sep.pick hs5 [2] 3)), L_chain_Chain__in (Sep.blk (Sep.pick hs5 [2] 3)), L_chain_Chain__l (Sep.blk (Sep.pick hs5 [2] 3)), L_chain_Chain__ids (Sep.blk (Sep.pick hs5 [2] 3)), L_chain_Chain__at (Sep.blk (Sep.pick hs5 [2] 3)), L_chain_Chain__over (Sep.blk (Sep.pick hs5 [2] 3)), L_chain_held (Sep.blk (Sep.pick hs5 [3] 4)), L_chain_held__Tape (Sep.blk (Sep.pick hs5 [3] 4))]
  refine bldS1 hs5 hrl fun a w6 hs6 => ?_
  refine cal_i (app1_spec (Sep.pick hs6 [8, 0, 1, 2, 3, 4, 5, 6, 7] 9) hx hrl) ?_
  rintro _ w7 ⟨rfl, hs7⟩
  -- tp 0 · a 1 · rec 2 · b 3 · c 4 · held 5 · l 6 · ids 7 · map 8
  simp only [nilc_some, fad_mk, pik_true, pik_false, cnd_true, cnd_false, gif_same, gif_tf, gif_ft, gif_undef, bi_add, bi_sub, bi_mul, bi_eql, bi_neq, bi_lss, bi_leq, bi_gtr, bi_geq, notB_bool, cvi_int, lenS_mk, lenT_mk, ext0, ext1, ext2, nilP_mk, nilS_mk, fldv_agg, jn0_k, jn1_k, jn2_k, jn1_and, jn1_or, ex_some, Option.isNone_some, Option.isNone_none, Bool.false_bne, Bool.bne_true, Bool.bne_false, Bool.true_bne, Bool.not_true, Bool.not_false, Bool.and_true, Bool.true_and, Bool.and_false, Bool.false_and, Bool.or_true, Bool.true_or, Bool.or_false, Bool.false_or, cond_true, cond_false, List.getElem?_toArray, List.getElem?_cons_zero, List.getElem?_cons_succ, Nat.zero_add, Nat.add_zero, Nat.reduceAdd, forall_const]
  rw [cnd_bool]
  refine ⟨fun h => ?_, fun h => ?_⟩
  · have h : (x.append b.rcd).2 = 0 := by simpa using h
    simp only [L_api_Block (Sep.blk (Sep.pick hs7 [3] 4)), L_api_Block__Parent (Sep.blk (Sep.pick hs7 [3] 4)), L_api_Block__Height (Sep.blk (Sep.pick hs7 [3] 4)), L_api_Block__Data (Sep.blk (Sep.pick hs7 [3] 4))]
    refine cal_i (cAdd_spec (b := b) (v := v) (As := tp pt (x.append b.rcd).1 :: As) (Sep.pick hs7 [4, 5, 6, 7, 8, 0] 9) hC (fun z hz => hb z hz.tail) hh hck hn) ?_
    rintro _ w8 ⟨rfl, lv', iv', vd, hs8⟩
    rw [h]
    exact hR _ _ (.inr (.inr (.inl ⟨rfl, hoff, hl0, h, rfl, lv', iv', vd, Sep.pick hs8 [0, 1, 2, 3, 4, 6, 5] 7⟩)))
  have h : (x.append b.rcd).2 ≠ 0 := by simpa using h
  rw [cnd_bool]
  refine ⟨fun h5 => ?_, fun h5 => ?_⟩
  · refine St_chain_Chain__over (Sep.pick hs7 [4, 5, 6, 7, 8, 0] 9) fun w8 hs8 => ?_
    refine hR _ _ (.inr (.inr (.inr ⟨rfl, hoff, hl0, h, rfl, ?_⟩)))
    rw [h5]
    exact hs8
  · refine hR _ _ (.inr (.inr (.inr ⟨rfl, hoff, hl0, h, rfl, ?_⟩)))
    rw [h5]
    exact Sep.pick hs7 [4, 5, 6, 7, 8, 0] 9
theorem fldv_hgt (b : Blk) (v : Value) (K : Value → Prop) : fldv 32 1 false (bq b v) K = K (.int .i64 b.h) := by
  have hl : (bvs b.p.1).length = 32 := by rw [bvs_length]; exact b.p.2
  have ex : (Rdr.cells Q_api_Block (b.p, b.h, v)).toArray[32]? = some (.int .i64 b.h) := by
    show ((bvs b.p.1 ++ ([Value.int .i64 b.h] ++ [v])).toArray)[32]? = _
    rw [List.getElem?_toArray, List.getElem?_append_right (by omega), hl]
    rfl
  refine propext ⟨?_, fun hk => ⟨_, rfl, _, ex, hk⟩⟩
  rintro ⟨cs, hcs, u, hu, hk⟩
  cases hcs
  rw [ex] at hu
  cases hu
  exact hk
theorem cLastId_spec {y : BV} (hr : ChR w.heap g gi lv iv m pt over B) (hy : B[B.length - 1]? = some y) (hn : B.length ≤ 1000000) : cal P f_chain_Chain_Last [.pointer (some ⟨g, 0, none⟩)] w fun r w' => r = .tuple #[kv y.1.id, .int .i64 y.1.h] ∧ Fr [] w w' := by
  refine s_chain_Chain_Last fun R hR => ?_
  unfold c_chain_Chain_Last
  have hpos : 0 < B.length := by
    have := (List.getElem?_eq_some_iff.1 hy).1
    omega
  have hy' : (B.map (·.1.id))[B.length - 1]? = some y.1.id := by rw [List.getElem?_map, hy]; rfl
  refine alloc_s (Sep.start w) (A_api_ID w) fun g2 w1 hs1 => ?_
  refine cal_i (cNone_spec (hs1.ch hr)) ?_
  rintro _ _ ⟨rfl, rfl⟩
  simp only [nilc_some, fad_mk, pik_true, pik_false, cnd_true, cnd_false, gif_same, gif_tf, gif_ft, gif_undef, bi_add, bi_sub, bi_mul, bi_eql, bi_neq, bi_lss, bi_leq, bi_gtr, bi_geq, notB_bool, cvi_int, lenS_mk, lenT_mk, ext0, ext1, ext2, nilP_mk, nilS_mk, fldv_agg, jn0_k, jn1_k, jn2_k, jn1_and, jn1_or, ex_some, Option.isNone_some, Option.isNone_none, Bool.false_bne, Bool.bne_true, Bool.bne_false, Bool.true_bne, Bool.not_true, Bool.not_false, Bool.and_true, Bool.true_and, Bool.and_false, Bool.false_and, Bool.or_true, Bool.true_or, Bool.or_false, Bool.false_or, cond_true, cond_false, List.getElem?_toArray, List.getElem?_cons_zero, List.getElem?_cons_succ, Nat.zero_add, Nat.add_zero, Nat.reduceAdd, forall_const]
  refine drH_S hs1 fun w2 hs2 _ => ?_
  refine rdS_ld (v := iv) (fun u hu K hk => by obtain ⟨T, fr, hc⟩ := (hu.ch hr).cell; exact (L_chain_Chain__ids hc K).mpr hk) ?_
  refine rdS_ld (v := iv) (fun u hu K hk => by obtain ⟨T, fr, hc⟩ := (hu.ch hr).cell; exact (L_chain_Chain__ids hc K).mpr hk) ?_
  have hil := hr.iw.len (fun v => v = .int .i64 B.length)
  rw [List.length_map] at hil
  have hil2 : ∀ K, lenS iv K = K (.int .i64 B.length) := fun K => by
    have := hr.iw.len K
    rwa [List.length_map] at this
  rw [hil2]
  simp only [nilc_some, fad_mk, pik_true, pik_false, cnd_true, cnd_false, gif_same, gif_tf, gif_ft, gif_undef, bi_add, bi_sub, bi_mul, bi_eql, bi_neq, bi_lss, bi_leq, bi_gtr, bi_geq, notB_bool, cvi_int, lenS_mk, lenT_mk, ext0, ext1, ext2, nilP_mk, nilS_mk, fldv_agg, jn0_k, jn1_k, jn2_k, jn1_and, jn1_or, ex_some, Option.isNone_some, Option.isNone_none, Bool.false_bne, Bool.bne_true, Bool.bne_false, Bool.true_bne, Bool.not_true, Bool.not_false, Bool.and_true, Bool.true_and, Bool.and_false, Bool.false_and, Bool.or_true, Bool.true_or, Bool.or_false, Bool.false_or, cond_true, cond_false, List.getElem?_toArray, List.getElem?_cons_zero, List.getElem?_cons_succ, Nat.zero_add, Nat.add_zero, Nat.reduceAdd, forall_const]
  rw [wi64 (by omega) (by omega)]
  have e1 : (B.length : Int) - 1 = ((B.length - 1 : Nat) : Int) := by omega
  rw [e1]
  change ixs 32 _ _ _
  refine rdS_rowC (q := rVec 32) (by decide) hs2 (fun u hu => (hu.ch hr).iw) hy' .i64 ?_
  refine efS_i (cal_i (cLast_spec (hs2.ch hr) hy hn) ?_)
  rintro _ w3 ⟨rfl, hf3⟩
  have hs3 := hs2.old hf3
  refine ⟨hs3, ?_⟩
  change fldv _ _ _ _ _
  rw [fldv_hgt]
  refine efC_stN (St_api_ID (b := y.1.id) hs3 fun w4 hs4 => ?_)
  simp only [L_api_ID hs4.blk]
  exact hR _ _ ⟨rfl, hs4.fr0⟩
end
end Go.Fx
set_option linter.unusedVariables false
set_option linter.unusedSimpArgs false
namespace Go.Fx
/-- An iterator of n values: what it hands over at place i, and the memory that the receiver gets with it, are known by 'arg'; M: the memory that it looks at is as it was. -/
def IterG (P : Program) (g : Value) (M : Heap → Prop) (n : Nat) (arg : Nat → List Value → List Asn → Prop) : Prop :=
  ∃ gf cap, g = .func (.func gf) #[] cap ∧ callable P gf = true ∧ ∀ (y : Value) (w0 w : World) (J : Nat → List Asn → Prop) (X : List Asn → Prop) (As : List Asn), y.oneCell' = true → J 0 As → Sep w0 w As →
    (∀ i Bs Ls z, J i Bs → Sep w0 z (Bs ++ Ls) → M z.heap) →
    (∀ i args Es z Bs Ls, i < n → arg i args Es → J i Bs → Sep w0 z (Es ++ (Bs ++ Ls)) → calY P y args z fun r z' => (r = .bool true ∧ ∃ Cs, J (i + 1) Cs ∧ Sep w0 z' (Cs ++ Ls)) ∨ (r = .bool false ∧ ∃ Cs, X Cs ∧ Sep w0 z' (Cs ++ Ls))) →
    cal P gf (y :: cap.toList) w fun r z' => r = .tuple #[] ∧ ((∃ Cs, J n Cs ∧ Sep w0 z' Cs) ∨ ∃ Cs, X Cs ∧ Sep w0 z' Cs)
section
variable {w0 w w' : World} {As Bs : List Asn}
theorem rngG_s {P : Program} {g : Value} {M : Heap → Prop} {n k : Nat} {arg : Nat → List Value → List Asn → Prop} {rnd : List Value → World → (World → (World → Prop) → Prop) → (Option Code → World → Prop) → Prop}
    {out : Nat → List (Option Code × (World → Prop))} (hs : Sep w0 w As) (hit : IterG P g M n arg) (hk : ∀ i args Es, arg i args Es → args.length = k)
    (J : Nat → List Asn → Prop) (X : Code → List Asn → Prop) (h0 : J 0 As) (hM : ∀ i Bs Ls z, J i Bs → Sep w0 z (Bs ++ Ls) → M z.heap)
    (hrnd : ∀ (i : Nat) (args : List Value) (Es : List Asn) (z : World) (Bs LR LB : List Asn) (bg : World → (World → Prop) → Prop) (fin : Option Code → World → Prop), i < n → J i Bs → arg i args Es → Sep w0 z (Es ++ (Bs ++ LR)) →
      (∀ z' Cs K, Sep w0 z' (Cs ++ LR) → (∀ z'', Sep w0 z'' (Cs ++ LB) → K z'') → bg z' K) →
      (∀ z' Cs, J (i + 1) Cs → Sep w0 z' (Cs ++ LB) → fin none z') → (∀ j z' Cs, X j Cs → Sep w0 z' (Cs ++ LB) → fin (some j) z') → rnd args z bg fin)
    (hN : ∀ D Bs z, J n Bs → Sep w0 z (.obj D dfB :: Bs) → outL none z (out D)) (hX : ∀ D j Bs z, X j Bs → Sep w0 z (.obj D dfB :: Bs) → outL (some j) z (out D)) : rng P g k w rnd out := by
  obtain ⟨gf, cap, hg, hcal, hI⟩ := hit
  refine ⟨gf, cap, hg, hcal, fun y rec h1 hy => ?_⟩
  have swap2 : ∀ {z : World} {Cs : List Asn} {A B : Asn}, Sep w0 z (Cs ++ [A, B]) → Sep w0 z (A :: B :: Cs) := fun h => Sep.rot h
  have swap3 : ∀ {z : World} {Cs : List Asn} {A B : Asn}, Sep w0 z (A :: B :: Cs) → Sep w0 z (Cs ++ [A, B]) := fun {z Cs A B} h => Sep.rot (As := [A, B]) h
  -- the record at the head, and back
  have hd : ∀ {z : World} {Cs Ls : List Asn} {A : Asn}, Sep w0 z (Cs ++ (A :: Ls)) → Sep w0 z (A :: (Cs ++ Ls)) := fun h => h.perm List.perm_middle
  have bk : ∀ {z : World} {Cs Ls : List Asn} {A : Asn}, Sep w0 z (A :: (Cs ++ Ls)) → Sep w0 z (Cs ++ (A :: Ls)) := fun h => h.perm List.perm_middle.symm
  refine cal_i (hI y w0 _ (fun i Bs => ∃ Cs, J i Cs ∧ Bs = Cs ++ [.obj (w.heap.size + 1) (rec .ready none), .obj w.heap.size dfB])
    (fun Bs => ∃ j Cs, X j Cs ∧ Bs = Cs ++ [.obj (w.heap.size + 1) (rec .done (some j)), .obj w.heap.size dfB]) (As ++ [.obj (w.heap.size + 1) (rec .ready none), .obj w.heap.size dfB]) h1 ⟨As, h0, rfl⟩ (swap3 ?_) ?_ ?_) ?_
  · have h2 : Sep w0 (w.alloc dfB) (.obj w.heap.size dfB :: As) := hs.new (F' := [w.heap.size]) (fr_alloc w _) (B := .obj w.heap.size dfB) ⟨alloc_new w _, rfl⟩ (by simp)
    have e : (w.alloc dfB).heap.size = w.heap.size + 1 := by simp
    refine h2.new (F' := [w.heap.size + 1]) (fr_alloc _ _) (B := .obj (w.heap.size + 1) (rec .ready none)) ⟨?_, rfl⟩ (by simp)
    have := alloc_new (w.alloc dfB) (rec .ready none)
    rwa [e] at this
  · rintro i _ Ls z ⟨Cs, hJ, rfl⟩ hB
    rw [List.append_assoc] at hB
    exact hM i Cs _ z hJ hB
  · rintro i args Es z _ Ls hi harg ⟨Bs, hJ, rfl⟩ hB
    rw [List.append_assoc] at hB
    have hB2 := hB
    rw [← List.append_assoc] at hB2
    refine hy args z _ (hk i args Es harg) (hd hB2).objAt ?_
    refine hrnd i args Es z Bs _ (.obj (w.heap.size + 1) (rec .busy none) :: .obj w.heap.size dfB :: Ls) _ _ hi hJ harg hB ?_ ?_ ?_
    · intro z' Cs K hz hK
      exact ⟨(hd hz).objAt, hK _ (bk ((hd hz).objUpd _))⟩
    · intro z' Cs hC hz
      exact ⟨(hd hz).objAt, .inl ⟨rfl, _, ⟨Cs, hC, rfl⟩, by rw [List.append_assoc]; exact bk ((hd hz).objUpd _)⟩⟩
    · intro j z' Cs hC hz
      exact ⟨(hd hz).objAt, .inr ⟨rfl, _, ⟨j, Cs, hC, rfl⟩, by rw [List.append_assoc]; exact bk ((hd hz).objUpd _)⟩⟩
  · rintro v z ⟨-, ⟨_, ⟨Bs, hJ, rfl⟩, hB⟩ | ⟨_, ⟨j, Bs, hX', rfl⟩, hB⟩⟩
    · exact ⟨none, (swap2 hB).objAt, hN _ Bs _ hJ ((swap2 hB).objUpd _).tail⟩
    · exact ⟨some j, (swap2 hB).objAt, hX _ j Bs _ hX' ((swap2 hB).objUpd _).tail⟩
end
end Go.Fx
set_option linter.unusedVariables false
set_option linter.unusedSimpArgs false
namespace Go.Fx
section
variable {w0 w w' : World} {As : List Asn} {g gi gm : Nat} {lv iv m pt : Value} {over : Bool} {B : List BV} {x : Tp}
theorem clnI {v : Value} {l : List (Vec 32)} (hv : Rows' (rVec 32) w.heap v l) (hl : l.length ≤ 1000000) : cal P f_slices_Clone_api_ID_api_ID [v] w fun r w' => Sep w w' [rows (rVec 32) r l] := by
  refine s_slices_Clone_api_ID_api_ID fun R hR => ?_
  unfold c_slices_Clone_api_ID_api_ID
  obtain ⟨a, c, rfl, hl', hh⟩ := id hv
  cases a with
  | none =>
    have h0 : l = [] := by
      rcases hh with h0 | ⟨_, _, _, _, _, h, _⟩
      · refine List.eq_nil_of_length_eq_zero ?_
        have : (rVec 32).size = 32 := rfl
        rw [this] at h0
        omega
      · cases h
    subst h0
    simp only [nilc_some, fad_mk, pik_true, pik_false, cnd_true, cnd_false, gif_same, gif_tf, gif_ft, gif_undef, bi_add, bi_sub, bi_mul, bi_eql, bi_neq, bi_lss, bi_leq, bi_gtr, bi_geq, notB_bool, cvi_int, lenS_mk, lenT_mk, ext0, ext1, ext2, nilP_mk, nilS_mk, fldv_agg, jn0_k, jn1_k, jn2_k, jn1_and, jn1_or, ex_some, Option.isNone_some, Option.isNone_none, Bool.false_bne, Bool.bne_true, Bool.bne_false, Bool.true_bne, Bool.not_true, Bool.not_false, Bool.and_true, Bool.true_and, Bool.and_false, Bool.false_and, Bool.or_true, Bool.true_or, Bool.or_false, Bool.false_or, cond_true, cond_false, List.getElem?_toArray, List.getElem?_cons_zero, List.getElem?_cons_succ, Nat.zero_add, Nat.add_zero, Nat.reduceAdd, forall_const]
    exact hR _ _ (Sep.start w).nilR
  | some a =>
    simp only [nilc_some, fad_mk, pik_true, pik_false, cnd_true, cnd_false, gif_same, gif_tf, gif_ft, gif_undef, bi_add, bi_sub, bi_mul, bi_eql, bi_neq, bi_lss, bi_leq, bi_gtr, bi_geq, notB_bool, cvi_int, lenS_mk, lenT_mk, ext0, ext1, ext2, nilP_mk, nilS_mk, fldv_agg, jn0_k, jn1_k, jn2_k, jn1_and, jn1_or, ex_some, Option.isNone_some, Option.isNone_none, Bool.false_bne, Bool.bne_true, Bool.bne_false, Bool.true_bne, Bool.not_true, Bool.not_false, Bool.and_true, Bool.true_and, Bool.and_false, Bool.false_and, Bool.or_true, Bool.true_or, Bool.or_false, Bool.false_or, cond_true, cond_false, List.getElem?_toArray, List.getElem?_cons_zero, List.getElem?_cons_succ, Nat.zero_add, Nat.add_zero, Nat.reduceAdd, forall_const]
    have hb1 : ∀ w : World, (Instr.buildSlice T_sl_api_ID 0 #[]).run P w = .ok (.slice (some ⟨w.heap.size, 0, none⟩) 0 0) (w.alloc (.cells ([] : List Value).toArray T_api_ID)) := fun w => by kernel_rfl
    refine build_s (size := 32) (Sep.start w) (cs := []) rfl (hb1 w) fun g w1 hs1 => ?_
    replace hs1 : Sep w w1 [rows (rVec 32) (.slice (some ⟨g, 0, none⟩) 0 0) []] := hs1
    refine rows_app S_sl_api_ID U_sl_api_ID (by simp) hs1 (hv.fr hs1.fr0) ?_ (by simp; omega) (by simp; omega) fun v8 w8 hs8 => ?_
    · intro u hu
      obtain ⟨x, hx, hu⟩ := List.mem_flatMap.1 hu
      exact oneVec u hu
    · exact hR _ _ (by simpa using hs8)
theorem clnB {v : Value} (hv : BRows w.heap v B) (hl : B.length ≤ 1000000) : cal P f_slices_Clone_api_Block_api_Block [v] w fun r w' => Sep w w' [rows Q_api_Block r (B.map BV.t)] := by
  refine s_slices_Clone_api_Block_api_Block fun R hR => ?_
  unfold c_slices_Clone_api_Block_api_Block
  have hv1 := hv.1
  obtain ⟨a, c, rfl, hl', hh⟩ := id hv1
  cases a with
  | none =>
    have h0 : B = [] := by
      rcases hh with h0 | ⟨_, _, _, _, _, h, _⟩
      · refine List.eq_nil_of_length_eq_zero ?_
        have : (Q_api_Block).size = 34 := rfl
        rw [this, List.length_map] at h0
        omega
      · cases h
    subst h0
    simp only [nilc_some, fad_mk, pik_true, pik_false, cnd_true, cnd_false, gif_same, gif_tf, gif_ft, gif_undef, bi_add, bi_sub, bi_mul, bi_eql, bi_neq, bi_lss, bi_leq, bi_gtr, bi_geq, notB_bool, cvi_int, lenS_mk, lenT_mk, ext0, ext1, ext2, nilP_mk, nilS_mk, fldv_agg, jn0_k, jn1_k, jn2_k, jn1_and, jn1_or, ex_some, Option.isNone_some, Option.isNone_none, Bool.false_bne, Bool.bne_true, Bool.bne_false, Bool.true_bne, Bool.not_true, Bool.not_false, Bool.and_true, Bool.true_and, Bool.and_false, Bool.false_and, Bool.or_true, Bool.true_or, Bool.or_false, Bool.false_or, cond_true, cond_false, List.getElem?_toArray, List.getElem?_cons_zero, List.getElem?_cons_succ, Nat.zero_add, Nat.add_zero, Nat.reduceAdd, forall_const]
    exact hR _ _ (Sep.start w).nilR
  | some a =>
    simp only [nilc_some, fad_mk, pik_true, pik_false, cnd_true, cnd_false, gif_same, gif_tf, gif_ft, gif_undef, bi_add, bi_sub, bi_mul, bi_eql, bi_neq, bi_lss, bi_leq, bi_gtr, bi_geq, notB_bool, cvi_int, lenS_mk, lenT_mk, ext0, ext1, ext2, nilP_mk, nilS_mk, fldv_agg, jn0_k, jn1_k, jn2_k, jn1_and, jn1_or, ex_some, Option.isNone_some, Option.isNone_none, Bool.false_bne, Bool.bne_true, Bool.bne_false, Bool.true_bne, Bool.not_true, Bool.not_false, Bool.and_true, Bool.true_and, Bool.and_false, Bool.false_and, Bool.or_true, Bool.true_or, Bool.or_false, Bool.false_or, cond_true, cond_false, List.getElem?_toArray, List.getElem?_cons_zero, List.getElem?_cons_succ, Nat.zero_add, Nat.add_zero, Nat.reduceAdd, forall_const]
    have hb1 : ∀ w : World, (Instr.buildSlice T_sl_api_Block 0 #[]).run P w = .ok (.slice (some ⟨w.heap.size, 0, none⟩) 0 0) (w.alloc (.cells ([] : List Value).toArray T_api_Block)) := fun w => by kernel_rfl
    refine build_s (size := 34) (Sep.start w) (cs := []) rfl (hb1 w) fun g w1 hs1 => ?_
    replace hs1 : Sep w w1 [rows Q_api_Block (.slice (some ⟨g, 0, none⟩) 0 0) []] := hs1
    refine rows_app S_sl_api_Block U_sl_api_Block (by simp) hs1 (hv1.fr hs1.fr0) ?_ (by simp; omega) (by simp; omega) fun v8 w8 hs8 => ?_
    · intro u hu
      obtain ⟨x, hx, hu⟩ := List.mem_flatMap.1 hu
      obtain ⟨y, hy, rfl⟩ := List.mem_map.1 hx
      exact one_api_Block (hv.2 y hy).one u hu
    · exact hR _ _ (by simpa using hs8)
theorem al_slB (w : World) : (Instr.alloc T_sl_api_Block true (.tuple #[])).run P w = .ok (.pointer (some ⟨w.heap.size, 0, none⟩)) (w.alloc (.cells #[.slice none 0 0] T_sl_api_Block)) := by kernel_rfl
theorem al_slI (w : World) : (Instr.alloc T_sl_api_ID true (.tuple #[])).run P w = .ok (.pointer (some ⟨w.heap.size, 0, none⟩)) (w.alloc (.cells #[.slice none 0 0] T_sl_api_ID)) := by kernel_rfl
theorem cAll_spec (hr : ChR w.heap g gi lv iv m pt over B) (hn : B.length ≤ 1000000) : cal P f_chain_Chain_All [.pointer (some ⟨g, 0, none⟩)] w fun r w' => ∃ (g3 g4 : Nat) (u y : Value), r = .func (.func f_chain_Chain_All_1) #[] #[.pointer (some ⟨g3, 0, none⟩), .pointer (some ⟨g4, 0, none⟩)] ∧
    Sep w w' [blk g3 #[u] T_sl_api_Block, blk g4 #[y] T_sl_api_ID, rows Q_api_Block u (B.map BV.t), rows (rVec 32) y (B.map (·.1.id))] := by
  refine s_chain_Chain_All fun R hR => ?_
  unfold c_chain_Chain_All
  refine alloc_s (Sep.start w) (al_slB w) fun g3 w1 hs1 => ?_
  refine alloc_s hs1 (al_slI w1) fun g4 w2 hs2 => ?_
  refine ⟨fun z => ∃ u y, Sep w z [blk g3 #[u] T_sl_api_Block, blk g4 #[y] T_sl_api_ID, rows Q_api_Block u (B.map BV.t), rows (rVec 32) y (B.map (·.1.id))], ?_, fun z ⟨u, y, hz⟩ _ => hR _ _ ⟨g3, g4, u, y, rfl, hz⟩⟩
  refine cal_i (cNone_spec (hs2.ch hr)) ?_
  rintro _ _ ⟨rfl, rfl⟩
  simp only [nilc_some, fad_mk, pik_true, pik_false, cnd_true, cnd_false, gif_same, gif_tf, gif_ft, gif_undef, bi_add, bi_sub, bi_mul, bi_eql, bi_neq, bi_lss, bi_leq, bi_gtr, bi_geq, notB_bool, cvi_int, lenS_mk, lenT_mk, ext0, ext1, ext2, nilP_mk, nilS_mk, fldv_agg, jn0_k, jn1_k, jn2_k, jn1_and, jn1_or, ex_some, Option.isNone_some, Option.isNone_none, Bool.false_bne, Bool.bne_true, Bool.bne_false, Bool.true_bne, Bool.not_true, Bool.not_false, Bool.and_true, Bool.true_and, Bool.and_false, Bool.false_and, Bool.or_true, Bool.true_or, Bool.or_false, Bool.false_or, cond_true, cond_false, List.getElem?_toArray, List.getElem?_cons_zero, List.getElem?_cons_succ, Nat.zero_add, Nat.add_zero, Nat.reduceAdd, forall_const]
  refine drH_S hs2 fun w3 hs3 _ => ?_
  refine rdS_ld (v := lv) (fun u hu K hk => by obtain ⟨T, fr, hc⟩ := (hu.ch hr).cell; exact (L_chain_Chain__l hc K).mpr hk) ?_
  refine rdS_ld (v := iv) (fun u hu K hk => by obtain ⟨T, fr, hc⟩ := (hu.ch hr).cell; exact (L_chain_Chain__ids hc K).mpr hk) ?_
  refine efS_i (cal_i (clnB (hs3.ch hr).bw hn) ?_)
  rintro u w4 hs4
  replace hs4 := hs3.join hs4
  refine ⟨hs4.tail, ?_⟩
  refine efC_cal (cal_i (clnI (hs4.ch hr).iw (by simpa using hn)) ?_)
  rintro y w5 hs5
  replace hs5 := hs4.join hs5
  -- ids 0 · l 1 · g4 2 · g3 3
  refine efC_st1 (st1_s (Sep.pick hs5 [3, 0, 1, 2] 4) (by simp) (Sep.oneR hs5.p1) fun w6 hs6 => ?_)
  -- g3 0 · ids 1 · l 2 · g4 3
  refine efC_st1 (st1_s (Sep.pick hs6 [3, 0, 1, 2] 4) (by simp) (Sep.oneR hs6.p1) fun w7 hs7 => ?_)
  exact ⟨u, y, Sep.pick hs7 [1, 0, 3, 2] 4⟩
def argB (B : List BV) (i : Nat) (_ : World) (args : List Value) : Prop := ∃ x, B[i]? = some x ∧ args = [.int .i64 (i : Nat), bq x.1 x.2]
theorem sall_iter {v : Value} {g1 : Nat} (hl : B.length ≤ 1000000) : Iter P (.func (.func f_slices_All_api_Block_api_Block_1) #[] #[.pointer (some ⟨g1, 0, none⟩)])
    (fun h => (∃ T fr, h[g1]? = some (.cells #[v] T fr)) ∧ BRows h v B) B.length (argB B) := by
  refine ⟨_, _, rfl, by kernel_rfl, fun y w0 w J X As h1 h0 hs hM hst => ?_⟩
  show cal P f_slices_All_api_Block_api_Block_1 [y, .pointer (some ⟨g1, 0, none⟩)] w _
  refine s_slices_All_api_Block_api_Block_1 fun R hR => ?_
  unfold c_slices_All_api_Block_api_Block_1
  obtain ⟨⟨T, fr, hc⟩, hv⟩ := hM 0 As [] w h0 (by rwa [List.append_nil])
  refine ld1_i (v := v) hc rfl ?_
  rw [hv.len]
  refine ⟨fun t z => ∃ (i : Nat) (Bs : List Asn), t = .int .i64 i ∧ i ≤ B.length ∧ J i Bs ∧ Sep w0 z Bs, fun t _ => (B.length - RowKit.intOf t).toNat, ⟨0, As, rfl, by omega, h0, hs⟩, ?_⟩
  rintro _ z ⟨i, Bs, rfl, hi, hJ, hz⟩ -
  simp only [nilc_some, fad_mk, pik_true, pik_false, cnd_true, cnd_false, gif_same, gif_tf, gif_ft, gif_undef, bi_add, bi_sub, bi_mul, bi_eql, bi_neq, bi_lss, bi_leq, bi_gtr, bi_geq, notB_bool, cvi_int, lenS_mk, lenT_mk, ext0, ext1, ext2, nilP_mk, nilS_mk, fldv_agg, jn0_k, jn1_k, jn2_k, jn1_and, jn1_or, ex_some, Option.isNone_some, Option.isNone_none, Bool.false_bne, Bool.bne_true, Bool.bne_false, Bool.true_bne, Bool.not_true, Bool.not_false, Bool.and_true, Bool.true_and, Bool.and_false, Bool.false_and, Bool.or_true, Bool.true_or, Bool.or_false, Bool.false_or, cond_true, cond_false, List.getElem?_toArray, List.getElem?_cons_zero, List.getElem?_cons_succ, Nat.zero_add, Nat.add_zero, Nat.reduceAdd, forall_const]
  rw [cnd_bool]
  refine ⟨fun h => ?_, fun h => ?_⟩
  · have hlt : i < B.length := by simp at h; omega
    obtain ⟨x, hx⟩ : ∃ x, B[i]? = some x := ⟨_, List.getElem?_eq_getElem hlt⟩
    have hv' := (hM i Bs [] z hJ (by rwa [List.append_nil])).2
    change ixs 34 _ _ _
    refine BRows.ld hv' hx .i64 ?_
    refine alloc_s hz (A_api_Block z) fun g4 z1 hz1 => ?_
    refine St_api_Block (b := x.t) hz1 (one_api_Block (hv'.2 x (List.mem_of_getElem? hx)).one) fun z2 hz2 => ?_
    simp only [L_api_Block hz2.blk, L_api_Block__Parent hz2.blk, L_api_Block__Height hz2.blk, L_api_Block__Data hz2.blk]
    refine calY_i (hst i [.int .i64 i, bq x.1 x.2] z2 Bs _ hlt ⟨x, hx, rfl⟩ hJ (Sep.rot (As := [_]) hz2)) ?_
    rintro r z' (⟨rfl, Cs, hJ', hz'⟩ | ⟨rfl, Cs, hX', hz'⟩)
    · simp only [nilc_some, fad_mk, pik_true, pik_false, cnd_true, cnd_false, gif_same, gif_tf, gif_ft, gif_undef, bi_add, bi_sub, bi_mul, bi_eql, bi_neq, bi_lss, bi_leq, bi_gtr, bi_geq, notB_bool, cvi_int, lenS_mk, lenT_mk, ext0, ext1, ext2, nilP_mk, nilS_mk, fldv_agg, jn0_k, jn1_k, jn2_k, jn1_and, jn1_or, ex_some, Option.isNone_some, Option.isNone_none, Bool.false_bne, Bool.bne_true, Bool.bne_false, Bool.true_bne, Bool.not_true, Bool.not_false, Bool.and_true, Bool.true_and, Bool.and_false, Bool.false_and, Bool.or_true, Bool.true_or, Bool.or_false, Bool.false_or, cond_true, cond_false, List.getElem?_toArray, List.getElem?_cons_zero, List.getElem?_cons_succ, Nat.zero_add, Nat.add_zero, Nat.reduceAdd, forall_const]
      rw [wi64 (by omega) (by omega)]
      exact ⟨⟨i + 1, Cs, by simp, by omega, hJ', hz'.dropR⟩, by simp [RowKit.intOf]; omega⟩
    · simp only [nilc_some, fad_mk, pik_true, pik_false, cnd_true, cnd_false, gif_same, gif_tf, gif_ft, gif_undef, bi_add, bi_sub, bi_mul, bi_eql, bi_neq, bi_lss, bi_leq, bi_gtr, bi_geq, notB_bool, cvi_int, lenS_mk, lenT_mk, ext0, ext1, ext2, nilP_mk, nilS_mk, fldv_agg, jn0_k, jn1_k, jn2_k, jn1_and, jn1_or, ex_some, Option.isNone_some, Option.isNone_none, Bool.false_bne, Bool.bne_true, Bool.bne_false, Bool.true_bne, Bool.not_true, Bool.not_false, Bool.and_true, Bool.true_and, Bool.and_false, Bool.false_and, Bool.or_true, Bool.true_or, Bool.or_false, Bool.false_or, cond_true, cond_false, List.getElem?_toArray, List.getElem?_cons_zero, List.getElem?_cons_succ, Nat.zero_add, Nat.add_zero, Nat.reduceAdd, forall_const]
      exact hR _ _ ⟨rfl, .inr ⟨Cs, hX', hz'.dropR⟩⟩
  · have hge : i = B.length := by simp at h; omega
    subst hge
    exact hR _ _ ⟨rfl, .inl ⟨Bs, hJ, hz⟩⟩
theorem sAll_spec {v : Value} (hv1 : v.oneCell' = true) : cal P f_slices_All_api_Block_api_Block [v] w fun r w' => ∃ g1, r = .func (.func f_slices_All_api_Block_api_Block_1) #[] #[.pointer (some ⟨g1, 0, none⟩)] ∧ Sep w w' [blk g1 #[v] T_sl_api_Block] := by
  refine s_slices_All_api_Block_api_Block fun R hR => ?_
  unfold c_slices_All_api_Block_api_Block
  refine bx_s (Sep.start w) fun g1 w1 hs1 => ?_
  have ev : v.cells = #[v] := by cases v <;> simp_all [Value.cells, Value.oneCell']
  rw [ev] at hs1
  exact hR _ _ ⟨g1, rfl, hs1⟩
/-- What a chain hands over: a name and a block with memory of its own. -/
def argC (B : List BV) (i : Nat) (args : List Value) (Es : List Asn) : Prop := ∃ x vd, B[i]? = some x ∧ args = [kv x.1.id, bq x.1 vd] ∧ Es = [ownB vd x.1.d]
def MC (g3 g4 : Nat) (u y : Value) (B : List BV) (h : Heap) : Prop := (∃ T fr, h[g3]? = some (.cells #[u] T fr)) ∧ (∃ T fr, h[g4]? = some (.cells #[y] T fr)) ∧ BRows h u B ∧ Rows' (rVec 32) h y (B.map (·.1.id))
theorem all1_iter {lv iv : Value} {g3 g4 : Nat} (hl : B.length ≤ 1000000) (hv1 : lv.oneCell' = true) (hdl : ∀ x ∈ B, x.1.d.length ≤ 100000) :
    IterG P (.func (.func f_chain_Chain_All_1) #[] #[.pointer (some ⟨g3, 0, none⟩), .pointer (some ⟨g4, 0, none⟩)]) (MC g3 g4 lv iv B) B.length (argC B) := by
  refine ⟨_, _, rfl, by kernel_rfl, fun y w0 w J X As h1 h0 hs hM hst => ?_⟩
  show cal P f_chain_Chain_All_1 [y, .pointer (some ⟨g3, 0, none⟩), .pointer (some ⟨g4, 0, none⟩)] w _
  refine s_chain_Chain_All_1 fun R hR => ?_
  unfold c_chain_Chain_All_1
  refine bx_s hs fun g2 w1 hs1 => ?_
  have ey : y.cells = #[y] := by cases y <;> simp_all [Value.cells, Value.oneCell']
  rw [ey] at hs1
  obtain ⟨⟨T, fr, hc⟩, _, hv, _⟩ := hM 0 As [blk g2 #[y] T_func_api_ID_api_Block_bool] w1 h0 (Sep.rot (As := [_]) hs1)
  refine ld1_i (v := lv) hc rfl ?_
  refine cal_i (sAll_spec hv1) ?_
  rintro _ w2 ⟨g1, rfl, hs2⟩
  replace hs2 := hs1.join hs2
  have perm : ∀ {z : World} {Cs Ls : List Asn} {A B : Asn}, Sep w0 z ((A :: B :: Cs) ++ Ls) → Sep w0 z (Cs ++ (A :: B :: Ls)) := fun {z Cs Ls A B} h => h.perm (by
    show (A :: B :: (Cs ++ Ls)).Perm _
    exact ((List.perm_middle (l₁ := Cs) (l₂ := Ls) (a := B)).symm.cons A).trans (List.perm_middle (l₁ := Cs) (l₂ := B :: Ls) (a := A)).symm)
  have perm' : ∀ {z : World} {Cs Ls : List Asn} {A B : Asn}, Sep w0 z (Cs ++ (A :: B :: Ls)) → Sep w0 z ((A :: B :: Cs) ++ Ls) := fun {z Cs Ls A B} h => h.perm (by
    show (Cs ++ (A :: B :: Ls)).Perm (A :: B :: (Cs ++ Ls))
    exact (List.perm_middle (l₁ := Cs) (l₂ := B :: Ls) (a := A)).trans ((List.perm_middle (l₁ := Cs) (l₂ := Ls) (a := B)).cons A))
  refine rng_s (As := blk g1 #[lv] T_sl_api_Block :: blk g2 #[y] T_func_api_ID_api_Block_bool :: As) hs2 (sall_iter (v := lv) (g1 := g1) hl) (fun i z args ⟨x, _, h⟩ => by rw [h]; rfl)
    (fun i Bs => ∃ Cs, J i Cs ∧ Bs = blk g1 #[lv] T_sl_api_Block :: blk g2 #[y] T_func_api_ID_api_Block_bool :: Cs) (fun c Bs => c = .ret ∧ ∃ Cs, X Cs ∧ Bs = blk g1 #[lv] T_sl_api_Block :: blk g2 #[y] T_func_api_ID_api_Block_bool :: Cs) ⟨As, h0, rfl⟩ ?_ ?_ ?_ ?_
  · rintro i _ Ls z ⟨Cs, hJ, rfl⟩ hz
    exact ⟨⟨_, _, Sep.blk hz⟩, (hM i Cs _ z hJ (perm hz)).2.2.1⟩
  · rintro i _ z _ LR LB bg fin hi ⟨Cs, hJ, rfl⟩ ⟨x, hx, rfl⟩ hz hbg hfn hfx
    have hx' : (B.map (·.1.id))[i]? = some x.1.id := by rw [List.getElem?_map, hx]; rfl
    have hxo := (((hM i Cs _ z hJ (perm hz)).2.2.1).2 x (List.mem_of_getElem? hx)).one
    refine alloc_s hz (A_api_Block z) fun g5 z1 hz1 => ?_
    simp only [List.getD_cons_zero, List.getD_cons_succ]
    refine St_api_Block (b := x.t) hz1 (one_api_Block hxo) fun z2 hz2 => ?_
    refine hbg z2 (blk g5 (Rdr.cells Q_api_Block x.t).toArray T_api_Block :: blk g1 #[lv] T_sl_api_Block :: blk g2 #[y] T_func_api_ID_api_Block_bool :: Cs) _ hz2 fun z3 hz3 => ?_
    have hmM : ∀ {u : World}, Sep w0 u (blk g5 (Rdr.cells Q_api_Block x.t).toArray T_api_Block :: ((blk g1 #[lv] T_sl_api_Block :: blk g2 #[y] T_func_api_ID_api_Block_bool :: Cs) ++ LB)) → MC g3 g4 lv iv B u.heap := fun hu => hM i Cs _ _ hJ (perm hu.tail)
    replace hz3 : Sep w0 z3 (blk g5 (Rdr.cells Q_api_Block x.t).toArray T_api_Block :: ((blk g1 #[lv] T_sl_api_Block :: blk g2 #[y] T_func_api_ID_api_Block_bool :: Cs) ++ LB)) := hz3
    refine drH_S hz3 fun z4 hz4 _ => ?_
    refine rdS_ld (v := y) (fun u hu K hk => ld1_i (v := y) (Sep.blk (Sep.p1 hu.tail)) rfl hk) ?_
    refine rdS_ld (v := iv) (fun u hu K hk => by obtain ⟨_, ⟨T, fr, hc⟩, _⟩ := hmM hu; exact ld1_i (v := iv) hc rfl hk) ?_
    refine rdS_rowC (q := rVec 32) (by decide) hz4 (fun u hu => (hmM hu).2.2.2) hx' .i64 ?_
    refine ⟨bq x.1 x.2, fun u hu => (L_api_Block (Sep.blk hu) _).mpr rfl, ?_⟩
    refine efS_i (cal_i (bkClone_spec (b := x.1) (v := x.2) ((hmM hz4).2.2.1.2 x (List.mem_of_getElem? hx)) (by have := hdl x (List.mem_of_getElem? hx); omega)) ?_)
    rintro _ z5 ⟨vd, rfl, hz5⟩
    replace hz5 := hz4.join hz5
    refine ⟨hz5.tail, ?_⟩
    -- own 0 · g5 1 · g1 2 · g2 3 · Cs
    have hz6 : Sep w0 z5 ([ownB vd x.1.d] ++ (Cs ++ (blk g1 #[lv] T_sl_api_Block :: blk g2 #[y] T_func_api_ID_api_Block_bool :: LB))) := by
      refine Sep.perm (Sep.pick hz5 [0, 2, 3] 4) ?_
      refine List.Perm.cons _ ?_
      exact ((List.perm_middle (l₁ := Cs) (l₂ := LB) (a := blk g2 #[y] T_func_api_ID_api_Block_bool)).symm.cons _).trans (List.perm_middle (l₁ := Cs) (l₂ := _ :: LB) (a := blk g1 #[lv] T_sl_api_Block)).symm
    refine calY_i (hst i [kv x.1.id, bq x.1 vd] _ z5 Cs _ hi ⟨x, vd, hx, rfl, rfl⟩ hJ hz6) ?_
    rintro r z' (⟨rfl, Cs', hJ', hz'⟩ | ⟨rfl, Cs', hX', hz'⟩)
    · simp only [nilc_some, fad_mk, pik_true, pik_false, cnd_true, cnd_false, gif_same, gif_tf, gif_ft, gif_undef, bi_add, bi_sub, bi_mul, bi_eql, bi_neq, bi_lss, bi_leq, bi_gtr, bi_geq, notB_bool, cvi_int, lenS_mk, lenT_mk, ext0, ext1, ext2, nilP_mk, nilS_mk, fldv_agg, jn0_k, jn1_k, jn2_k, jn1_and, jn1_or, ex_some, Option.isNone_some, Option.isNone_none, Bool.false_bne, Bool.bne_true, Bool.bne_false, Bool.true_bne, Bool.not_true, Bool.not_false, Bool.and_true, Bool.true_and, Bool.and_false, Bool.false_and, Bool.or_true, Bool.true_or, Bool.or_false, Bool.false_or, cond_true, cond_false, List.getElem?_toArray, List.getElem?_cons_zero, List.getElem?_cons_succ, Nat.zero_add, Nat.add_zero, Nat.reduceAdd, forall_const]
      exact hfn z' _ ⟨Cs', hJ', rfl⟩ (perm' hz')
    · simp only [nilc_some, fad_mk, pik_true, pik_false, cnd_true, cnd_false, gif_same, gif_tf, gif_ft, gif_undef, bi_add, bi_sub, bi_mul, bi_eql, bi_neq, bi_lss, bi_leq, bi_gtr, bi_geq, notB_bool, cvi_int, lenS_mk, lenT_mk, ext0, ext1, ext2, nilP_mk, nilS_mk, fldv_agg, jn0_k, jn1_k, jn2_k, jn1_and, jn1_or, ex_some, Option.isNone_some, Option.isNone_none, Bool.false_bne, Bool.bne_true, Bool.bne_false, Bool.true_bne, Bool.not_true, Bool.not_false, Bool.and_true, Bool.true_and, Bool.and_false, Bool.false_and, Bool.or_true, Bool.true_or, Bool.or_false, Bool.false_or, cond_true, cond_false, List.getElem?_toArray, List.getElem?_cons_zero, List.getElem?_cons_succ, Nat.zero_add, Nat.add_zero, Nat.reduceAdd, forall_const]
      exact hfx _ z' _ ⟨rfl, Cs', hX', rfl⟩ (perm' hz')
  · rintro D _ z ⟨Cs, hJ, rfl⟩ hz
    exact .inl ⟨rfl, takeD_s hz fun w' hw' => hR _ _ ⟨rfl, .inl ⟨Cs, hJ, hw'.tail.tail⟩⟩⟩
  · rintro D _ _ z ⟨rfl, Cs, hX', rfl⟩ hz
    exact .inr (.inl ⟨rfl, takeD_s hz fun w' hw' => hR _ _ ⟨rfl, .inr ⟨Cs, hX', hw'.tail.tail⟩⟩⟩)
end
end Go.Fx
set_option linter.unusedVariables false
set_option linter.unusedSimpArgs false
namespace Go.Fx
section
variable {w0 w w' : World} {As : List Asn} {g gi gm : Nat} {lv iv m pt : Value} {over : Bool} {B : List BV} {x : Tp}
/-- A row of the law's list. -/
def nmd (x : BV) : Vec 32 × Vec 32 × Int × Value := (x.1.id, x.t)
theorem nilFnC {f : FuncId} {cap : Array Value} {w : World} (K : Value → Prop) : rdP P (eqS .eql T_iter_Seq2_api_ID_api_Block (.tmp 11) (.const Value.nilFunc) (.func (.func f) #[] cap) Value.nilFunc) w K = K (.bool false) := rdP_eq (by kernel_rfl) K
theorem nBld {y : BV} {K : Value → World → Prop} {Bs : List Asn} (hs : Sep w0 w Bs) (hk : ∀ a z, Sep w0 z (rows Q_flurrylaw10_named a [nmd y] :: Bs) → K a z) : efP P (Instr.buildSlice T_sl_flurrylaw10_named 1 #[(0, .agg (Rdr.cells Q_flurrylaw10_named (nmd y)).toArray)]) w K :=
  rows_lit (q := Q_flurrylaw10_named) hs S_sl_flurrylaw10_named (l := [nmd y]) (V := fun a => .agg (Rdr.cells Q_flurrylaw10_named a).toArray) (fun a => rfl) rfl rfl (by decide) (by decide) fun g7 w7 hs7 => hk _ _ hs7
theorem nApp {y : BV} {u a : Value} {N : List BV} {K : Value → World → Prop} {Bs : List Asn} (hs : Sep w0 w (rows Q_flurrylaw10_named u (N.map nmd) :: Bs)) (ha : Rows' Q_flurrylaw10_named w.heap a [nmd y]) (h1 : y.2.oneCell' = true) (hl : N.length ≤ 1000000)
    (hk : ∀ u' z, Sep w0 z (rows Q_flurrylaw10_named u' ((N ++ [y]).map nmd) :: Bs) → K u' z) : efP P (Builtin.append_ #[T_sl_flurrylaw10_named, T_sl_flurrylaw10_named] T_sl_flurrylaw10_named #[u, a]) w K :=
  rows_app (q := Q_flurrylaw10_named) S_sl_flurrylaw10_named U_sl_flurrylaw10_named (by simp) hs ha (by simp only [List.flatMap_cons, List.flatMap_nil, List.append_nil]; exact one_flurrylaw10_named (a := nmd y) h1) (by simp; omega) (by simp; omega) fun v8 w8 hs8 => hk _ _ (by
    have e : (N ++ [y]).map nmd = N.map nmd ++ [nmd y] := by simp
    rw [e]; exact hs8)
theorem al_slN (w : World) : (Instr.alloc T_sl_flurrylaw10_named true (.tuple #[])).run P w = .ok (.pointer (some ⟨w.heap.size, 0, none⟩)) (w.alloc (.cells #[.slice none 0 0] T_sl_flurrylaw10_named)) := by kernel_rfl
theorem told10_gen {p : Value} {most : Nat} (hall : ∀ z, Fr [] w z → cal P f_chain_Chain_All [p] z fun r w' => ∃ (g3 g4 : Nat) (u y : Value), r = .func (.func f_chain_Chain_All_1) #[] #[.pointer (some ⟨g3, 0, none⟩), .pointer (some ⟨g4, 0, none⟩)] ∧
    Sep z w' [blk g3 #[u] T_sl_api_Block, blk g4 #[y] T_sl_api_ID, rows Q_api_Block u (B.map BV.t), rows (rVec 32) y (B.map (·.1.id))]) (hrd : ∀ x ∈ B, RdB w.heap x.2 x.1.d) (hn : B.length ≤ 1000000) (hdl : ∀ x ∈ B, x.1.d.length ≤ 100000) (hm : most ≤ 2000000) :
    cal P f_law10_told [p, .int .i64 most] w fun r w' => ∃ N E, blks N = (blks B).take most ∧ DatB N E ∧ Sep w w' (rows Q_flurrylaw10_named r (N.map nmd) :: E) := by
  refine s_law10_told fun R hR => ?_
  unfold c_law10_told
  refine bx_s (Sep.start w) fun g3 w1 hs1 => ?_
  replace hs1 : Sep w w1 [blk g3 #[.int .i64 most] T_int] := hs1
  refine alloc_s hs1 (al_slN w1) fun g5 w2 hs2 => ?_
  refine cal_i (hall _ hs2.fr0) ?_
  rintro _ w3 ⟨ga, gb, u, y, rfl, hs3⟩
  replace hs3 := hs2.join hs3
  rw [nilFnC, cnd_false]
  -- ga 0 · gb 1 · u 2 · y 3 · g5 4 · g3 5
  have hs4 := Sep.pick (Sep.nilR (q := Q_flurrylaw10_named) hs3) [5, 0, 6, 1, 2, 3, 4] 7
  have hu1 := Sep.oneR hs3.p2
  let F : List Asn := [blk g3 #[.int .i64 most] T_int, blk ga #[u] T_sl_api_Block, blk gb #[y] T_sl_api_ID, rows Q_api_Block u (B.map BV.t), rows (rVec 32) y (B.map (·.1.id))]
  have hlen : ∀ {N : List BV} {k : Nat}, blks N = (blks B).take k → k ≤ B.length → N.length = k := fun {N k} h hk => by
    have := congrArg List.length h
    simp only [List.length_map, List.length_take] at this
    omega
  refine rngG_s (n := B.length) hs4 (all1_iter (lv := u) (iv := y) (g3 := ga) (g4 := gb) hn hu1 hdl) (fun i args Es ⟨x, vd, _, h, _⟩ => by rw [h]; rfl)
    (fun i Bs => i ≤ most ∧ ∃ v N E, blks N = (blks B).take i ∧ DatB N E ∧ Bs = blk g5 #[v] T_sl_flurrylaw10_named :: rows Q_flurrylaw10_named v (N.map nmd) :: (F ++ E))
    (fun c Bs => c = .exit 0 ∧ ∃ v N E, blks N = (blks B).take most ∧ DatB N E ∧ Bs = blk g5 #[v] T_sl_flurrylaw10_named :: rows Q_flurrylaw10_named v (N.map nmd) :: (F ++ E))
    ⟨Nat.zero_le _, _, [], [], by simp, fun x hx => by simp at hx, rfl⟩ ?_ ?_ ?_ ?_
  · rintro i _ Ls z ⟨_, v, N, E, hN, hD, rfl⟩ hz
    replace hz := hz.tail.tail.tail
    exact ⟨⟨_, _, Sep.blk hz⟩, ⟨_, _, Sep.blk hz.tail⟩, ⟨Sep.rows hz.tail.tail, fun x hx => (hrd x hx).fr hz.fr0 (off_nil _)⟩, Sep.rows hz.tail.tail.tail⟩
  · rintro i _ _ z _ LR LB bg fin hi ⟨hle, v, N, E, hN, hD, rfl⟩ ⟨x, vd, hx, rfl, rfl⟩ hz hbg hfn hfx
    have hNl := hlen hN (by omega)
    refine alloc_s hz (A_api_ID z) fun g7 z1 hz1 => ?_
    simp only [List.getD_cons_zero, List.getD_cons_succ]
    refine St_api_ID (b := x.1.id) hz1 fun z2 hz2 => ?_
    refine alloc_s hz2 (A_api_Block z2) fun g8 z3 hz3 => ?_
    refine St_api_Block (b := (x.1.p, x.1.h, vd)) hz3 (one_api_Block (Sep.one hz3.p2)) fun z4 hz4 => ?_
    refine hbg z4 (blk g8 (Rdr.cells Q_api_Block (x.1.p, x.1.h, vd)).toArray T_api_Block :: blk g7 (Rdr.cells (rVec 32) x.1.id).toArray T_api_ID :: ownB vd x.1.d :: (blk g5 #[v] T_sl_flurrylaw10_named :: rows Q_flurrylaw10_named v (N.map nmd) :: (F ++ E))) _ hz4 fun z5 hz5 => ?_
    have hz6 : Sep w z5 (blk g8 (Rdr.cells Q_api_Block (x.1.p, x.1.h, vd)).toArray T_api_Block :: blk g7 (Rdr.cells (rVec 32) x.1.id).toArray T_api_ID :: ownB vd x.1.d :: blk g5 #[v] T_sl_flurrylaw10_named :: rows Q_flurrylaw10_named v (N.map nmd) :: ((F ++ E) ++ LB)) := hz5
    refine ld1_i (v := v) (Sep.blk hz6.p3) rfl ?_
    have hll : ∀ K, lenS v K = K (.int .i64 i) := fun K => by
      have := (Sep.rows (Sep.pick hz6 [4] 5)).len K
      rwa [List.length_map, hNl] at this
    rw [hll]
    refine ld1_i (v := .int .i64 most) (Sep.blk (Sep.pick hz6 [5] 6)) rfl ?_
    simp only [nilc_some, fad_mk, pik_true, pik_false, cnd_true, cnd_false, gif_same, gif_tf, gif_ft, gif_undef, bi_add, bi_sub, bi_mul, bi_eql, bi_neq, bi_lss, bi_leq, bi_gtr, bi_geq, notB_bool, cvi_int, lenS_mk, lenT_mk, ext0, ext1, ext2, nilP_mk, nilS_mk, fldv_agg, jn0_k, jn1_k, jn2_k, jn1_and, jn1_or, ex_some, Option.isNone_some, Option.isNone_none, Bool.false_bne, Bool.bne_true, Bool.bne_false, Bool.true_bne, Bool.not_true, Bool.not_false, Bool.and_true, Bool.true_and, Bool.and_false, Bool.false_and, Bool.or_true, Bool.true_or, Bool.or_false, Bool.false_or, cond_true, cond_false, List.getElem?_toArray, List.getElem?_cons_zero, List.getElem?_cons_succ, Nat.zero_add, Nat.add_zero, Nat.reduceAdd, forall_const]
    rw [cnd_bool]
    refine ⟨fun h => ?_, fun h => ?_⟩
    · have h : most ≤ i := by simp at h; omega
      obtain rfl : i = most := by omega
      exact hfx _ z5 _ ⟨rfl, v, N, E, hN, hD, rfl⟩ hz6.tail.tail.tail
    · have h : i < most := by simp at h; omega
      refine ld1_i (v := v) (Sep.blk hz6.p3) rfl ?_
      simp only [L_api_ID hz6.p1.blk, L_api_Block hz6.blk, L_api_Block__Parent hz6.blk, L_api_Block__Height hz6.blk, L_api_Block__Data hz6.blk]
      rw [B_flurrylaw10_named_0_1]
      refine nBld (y := (x.1, vd)) hz6 fun a z7 hz7 => ?_
      refine nApp (y := (x.1, vd)) (Sep.pick hz7 [5, 0, 3, 4] 6) (Sep.rows hz7) (Sep.one hz7.p3) (by omega) fun v' z8 hz8 => ?_
      -- rows 0 · a 1 · own 2 · g5 3
      refine st1_s (Sep.pick hz8 [3, 0, 2] 4) (by simp) (Sep.oneR hz8) fun z9 hz9 => ?_
      refine hfn z9 (blk g5 #[v'] T_sl_flurrylaw10_named :: rows Q_flurrylaw10_named v' ((N ++ [(x.1, vd)]).map nmd) :: (F ++ (ownB vd x.1.d :: E))) ⟨h, v', N ++ [(x.1, vd)], ownB vd x.1.d :: E, ?_, ?_, rfl⟩ ?_
      · have hx2 : (blks B)[i]? = some x.1 := by rw [List.getElem?_map, hx]; rfl
        rw [List.take_add_one, hx2, ← hN]
        simp
      · intro q hq
        rcases List.mem_append.1 hq with hq | hq
        · exact List.mem_cons_of_mem _ (hD q hq)
        · rw [List.mem_singleton.1 hq]; exact List.mem_cons_self ..
      · exact Sep.pick hz9 [0, 1, 3, 4, 5, 6, 7, 2] 8
  · rintro D _ z ⟨hle, v, N, E, hN, hD, rfl⟩ hz
    refine .inl ⟨rfl, ?_⟩
    refine ld1_i (v := v) (Sep.blk hz.p1) rfl ?_
    refine takeD_s hz fun w' hw' => hR _ _ ⟨N, E, ?_, hD, Sep.pick hw' [1] 7⟩
    rw [hN, List.take_of_length_le (by simp), List.take_of_length_le (by simpa using hle)]
  · rintro D _ _ z ⟨rfl, v, N, E, hN, hD, rfl⟩ hz
    refine .inr (.inl ⟨rfl, ?_⟩)
    refine ld1_i (v := v) (Sep.blk hz.p1) rfl ?_
    exact takeD_s hz fun w' hw' => hR _ _ ⟨N, E, hN, hD, Sep.pick hw' [1] 7⟩
theorem told10_spec {most : Nat} (hr : ChR w.heap g gi lv iv m pt over B) (hn : B.length ≤ 1000000) (hdl : ∀ x ∈ B, x.1.d.length ≤ 100000) (hm : most ≤ 2000000) :
    cal P f_law10_told [.pointer (some ⟨g, 0, none⟩), .int .i64 most] w fun r w' => ∃ N E, blks N = (blks B).take most ∧ DatB N E ∧ Sep w w' (rows Q_flurrylaw10_named r (N.map nmd) :: E) :=
  told10_gen (fun z hz => cAll_spec (hr.fr hz) hn) hr.bw.2 hn hdl hm
end
end Go.Fx
set_option linter.unusedVariables false
set_option linter.unusedSimpArgs false
namespace Go.Fx
section
variable {w0 w w' : World} {As : List Asn}
def genB : Blk := ⟨vz 32, 0, [103]⟩
theorem genB_chk : genB.chk = 0 := by decide
theorem genB_h : genB.h = 0 := rfl
theorem lit1 (x : UInt8) (w : World) : (Instr.buildSlice T_sl_uint8 1 #[(0, bv x)]).run P w = .ok (.slice (some ⟨w.heap.size, 0, none⟩) 1 1) (w.alloc (.cells (bvs [x]).toArray T_uint8)) := by kernel_rfl
theorem cFirst_spec : cal P f_law10_first [] w fun r w' => ∃ v, r = bq genB v ∧ Sep w w' [rdA v [103]] := by
  refine s_law10_first fun R hR => ?_
  unfold c_law10_first
  refine alloc_s (Sep.start w) (A_api_Block w) fun g0 w1 hs1 => ?_
  refine lit_s (l := [103]) hs1 U_sl_uint8 U_uint8 rfl (lit1 103 w1) fun g1 w2 hs2 => ?_
  rw [B_api_Block_2 rfl]
  refine St_api_Block (b := (vz 32, 0, .slice (some ⟨g1, 0, none⟩) 1 1)) hs2.p1 (one_api_Block rfl) fun w3 hs3 => ?_
  simp only [L_api_Block hs3.blk, L_api_Block__Parent hs3.blk, L_api_Block__Height hs3.blk, L_api_Block__Data hs3.blk]
  exact hR _ _ ⟨_, rfl, hs3.tail⟩
theorem cChild_spec {b : Blk} {v u : Value} {d : List UInt8} (hb : RdB w.heap v b.d) (hd : RdB w.heap u d) (hcap : capOk u) (hh : b.h ≤ maxI) (hl : d.length ≤ 9223372036854775807) :
    cal P f_law10_child [bq b v, u] w fun r w' => ∃ v', r = bq (b.child (d.take 200)) v' ∧ Sep w w' [ownB v' (b.child (d.take 200)).d] := by
  refine s_law10_child fun R hR => ?_
  unfold c_law10_child
  obtain ⟨a, c, hu⟩ := hd.form
  have hc := hcap _ _ _ hu
  obtain ⟨k, hk⟩ : ∃ k, k = min d.length 200 := ⟨_, rfl⟩
  have hdk : RdB w.heap (.slice a k c) (d.take 200) := by
    rw [hu] at hd
    have h1 := hd.take (k := k) (by omega) c
    have e : d.take k = d.take 200 := by
      rw [hk]
      by_cases h : d.length ≤ 200
      · rw [Nat.min_eq_left h, List.take_of_length_le (Nat.le_refl _), List.take_of_length_le h]
      · rw [Nat.min_eq_right (by omega)]
    rwa [e] at h1
  refine bxQ (Sep.start w) fun g2 w1 hs1 => ?_
  refine alloc_s hs1 (A_api_Block w1) fun g4 w2 hs2 => ?_
  refine drH_S hs2 fun w3 hs3 _ => ?_
  refine ⟨fun y z => ∃ g5 v', y = .pointer (some ⟨g5, 0, none⟩) ∧ Sep w z (blk g5 (Rdr.cells Q_api_Block ((b.child (d.take 200)).p, (b.child (d.take 200)).h, v')).toArray T_api_Block :: ownB v' (b.child (d.take 200)).d :: blk g4 (Rdr.cells Q_api_Block (vz 32, (0 : Int), .slice none 0 0)).toArray T_api_Block :: [blk g2 (Rdr.cells Q_api_Block (b.p, b.h, v)).toArray T_api_Block]), ?_, ?_⟩
  · refine ⟨bq b v, fun u hu => (L_api_Block (Sep.blk hu.p1) _).mpr rfl, ?_⟩
    change lenS _ _
    rw [hd.len]
    refine ⟨.int .i64 (k : Int), fun u hu => by rw [min_int]; congr 1; omega, ?_⟩
    rw [hu]
    change slc 1 _ _ _ _
    rw [slc_to (by omega)]
    have hal : ∀ (z : World), (Instr.alloc T_api_Block true (.tuple #[])).run P z = .ok (.pointer (some ⟨z.heap.size, 0, none⟩)) (z.alloc (.cells (Rdr.cells Q_api_Block (vz 32, (0 : Int), .slice none 0 0)).toArray T_api_Block)) := A_api_Block
    refine ⟨?_, ?_, trivial⟩
    · refine efC_cut (cal_i (rbChild_spec (b := b) (v := v) (d := d.take 200) (hs3.rdB hb) (hs3.rdB hdk) hh) ?_)
      rintro _ w4 ⟨v', rfl, hs4⟩
      replace hs4 := hs3.join hs4
      refine ⟨fun u => Sep w u (ownB v' (b.child (d.take 200)).d :: [blk g4 (Rdr.cells Q_api_Block (vz 32, (0 : Int), .slice none 0 0)).toArray T_api_Block, blk g2 (Rdr.cells Q_api_Block (b.p, b.h, v)).toArray T_api_Block]), hs4, ?_⟩
      simp only [nilc_some, fad_mk, pik_true, pik_false, cnd_true, cnd_false, gif_same, gif_tf, gif_ft, gif_undef, bi_add, bi_sub, bi_mul, bi_eql, bi_neq, bi_lss, bi_leq, bi_gtr, bi_geq, notB_bool, cvi_int, lenS_mk, lenT_mk, ext0, ext1, ext2, nilP_mk, nilS_mk, fldv_agg, jn0_k, jn1_k, jn2_k, jn1_and, jn1_or, ex_some, Option.isNone_some, Option.isNone_none, Bool.false_bne, Bool.bne_true, Bool.bne_false, Bool.true_bne, Bool.not_true, Bool.not_false, Bool.and_true, Bool.true_and, Bool.and_false, Bool.false_and, Bool.or_true, Bool.true_or, Bool.or_false, Bool.false_or, cond_true, cond_false, List.getElem?_toArray, List.getElem?_cons_zero, List.getElem?_cons_succ, Nat.zero_add, Nat.add_zero, Nat.reduceAdd, forall_const]
      refine efS_i (alloc_s hs4 (hal w4) fun g5 w5 hs5 => ⟨hs5.tail, ?_⟩)
      refine efC_stN (St_api_Block (b := ((b.child (d.take 200)).p, (b.child (d.take 200)).h, v')) hs5 (one_api_Block (Sep.one hs5.p1)) fun w6 hs6 => ?_)
      exact ⟨g5, v', rfl, hs6⟩
    · refine efS_i (alloc_s hs3 (hal w3) fun g5 w4 hs4 => ⟨hs4.tail, ?_⟩)
      refine efC_cal (cal_i (rbChild_spec (b := b) (v := v) (d := d.take 200) (hs4.rdB hb) (hs4.rdB hdk) hh) ?_)
      rintro _ w5 ⟨v', rfl, hs5⟩
      replace hs5 := hs4.join hs5
      simp only [nilc_some, fad_mk, pik_true, pik_false, cnd_true, cnd_false, gif_same, gif_tf, gif_ft, gif_undef, bi_add, bi_sub, bi_mul, bi_eql, bi_neq, bi_lss, bi_leq, bi_gtr, bi_geq, notB_bool, cvi_int, lenS_mk, lenT_mk, ext0, ext1, ext2, nilP_mk, nilS_mk, fldv_agg, jn0_k, jn1_k, jn2_k, jn1_and, jn1_or, ex_some, Option.isNone_some, Option.isNone_none, Bool.false_bne, Bool.bne_true, Bool.bne_false, Bool.true_bne, Bool.not_true, Bool.not_false, Bool.and_true, Bool.true_and, Bool.and_false, Bool.false_and, Bool.or_true, Bool.true_or, Bool.or_false, Bool.false_or, cond_true, cond_false, List.getElem?_toArray, List.getElem?_cons_zero, List.getElem?_cons_succ, Nat.zero_add, Nat.add_zero, Nat.reduceAdd, forall_const]
      refine efC_stN (St_api_Block (b := ((b.child (d.take 200)).p, (b.child (d.take 200)).h, v')) hs5.p1 (one_api_Block (Sep.one hs5)) fun w6 hs6 => ?_)
      exact ⟨g5, v', rfl, hs6⟩
  · rintro _ z ⟨g5, v', rfl, hz⟩ _
    simp only [L_api_Block hz.blk, L_api_Block__Parent hz.blk, L_api_Block__Height hz.blk, L_api_Block__Data hz.blk]
    refine St_api_Block (b := ((b.child (d.take 200)).p, (b.child (d.take 200)).h, v')) hz.p2 (one_api_Block (Sep.one hz.p1)) fun w6 hs6 => ?_
    simp only [L_api_Block hs6.blk, L_api_Block__Parent hs6.blk, L_api_Block__Height hs6.blk, L_api_Block__Data hs6.blk]
    exact hR _ _ ⟨v', rfl, Sep.pick hs6 [2] 4⟩
/-- Something that is done. -/
structure OA where
  act : Int
  n : Int
  d : List UInt8
  dv : Value
  b : Blk
  bv : Value
def OA.t (x : OA) : Int × Int × Value × Vec 32 × Int × Value := (x.act, x.n, x.dv, x.b.p, x.b.h, x.bv)
structure ORows (h : Heap) (v : Value) (l : List OA) : Prop where
  rw : Rows' Q_flurrylaw10_Op h v (l.map OA.t)
  d : ∀ x ∈ l, RdB h x.dv x.d ∧ RdB h x.bv x.b.d
theorem ORows.fr {v : Value} {l : List OA} (h : ORows w.heap v l) (hf : Fr [] w w') : ORows w'.heap v l := ⟨h.rw.fr hf, fun x hx => ⟨(h.d x hx).1.fr hf (off_nil _), (h.d x hx).2.fr hf (off_nil _)⟩⟩
theorem ORows.len {h : Heap} {v : Value} {l : List OA} (hr : ORows h v l) (K : Value → Prop) : lenS v K = K (.int .i64 l.length) := by
  have := hr.rw.len K
  rwa [List.length_map] at this
def OOk (l : List OA) : Prop := ∀ x ∈ l, x.b.h ≤ maxI ∧ -maxI - 1 ≤ x.n ∧ x.n ≤ maxI ∧ x.d.length ≤ 9223372036854775807 ∧ x.b.d.length ≤ 9223372036854775807 ∧ capOk x.dv
theorem ops_arg {h : Heap} {s : Sl (Int × Int × Sl UInt8 × (Vec 32 × Int × Sl UInt8))} (hs : (rSl R_flurrylaw10_Op).ok h s) : ∃ l : List OA, ORows h s.v l ∧ capOk s.v ∧ l.length ≤ 9223372036854775807 ∧ OOk l := by
  obtain ⟨h1, h2, h3, h4⟩ := hs
  refine ⟨s.l.map fun x => ⟨x.1, x.2.1, x.2.2.1.l, x.2.2.1.v, ab x.2.2.2, x.2.2.2.2.2.v⟩, ⟨?_, fun x hx => ?_⟩, h3, by simpa using h2, fun x hx => ?_⟩
  · have e : s.l.flatMap R_flurrylaw10_Op.cells = ((s.l.map fun x => (⟨x.1, x.2.1, x.2.2.1.l, x.2.2.1.v, ab x.2.2.2, x.2.2.2.2.2.v⟩ : OA)).map OA.t).flatMap Q_flurrylaw10_Op.cells := by
      generalize s.l = l
      induction l with
      | nil => rfl
      | cons a l ih => rw [List.flatMap_cons, ih]; rfl
    unfold Rows'
    rw [e] at h1
    simp only [List.length_map] at h1 ⊢
    exact h1
  · obtain ⟨y, hy, rfl⟩ := List.mem_map.1 hx
    obtain ⟨o0, o1, o2, o3⟩ := h4 y hy
    exact ⟨o2.1, ab_rd o3⟩
  · obtain ⟨y, hy, rfl⟩ := List.mem_map.1 hx
    obtain ⟨o0, o1, o2, o3⟩ := h4 y hy
    have o1' := Go.bounds_i64 o1
    exact ⟨ab_h o3, by unfold maxI; simpa using o1'.1, by unfold maxI; exact o1'.2, o2.2.1, ab_len o3, o2.2.2⟩
theorem few10_spec {v : Value} {l : List OA} (hr : ORows w.heap v l) (hcap : capOk v) (h63 : l.length ≤ 9223372036854775807) (hok : OOk l) :
    cal P f_law10_few [v] w fun r w' => Fr [] w w' ∧ ∃ y t, r = .tuple #[y, .bool t] ∧ (t = true → ORows w.heap y (l.take 30) ∧ ∀ x ∈ l.take 30, x.d.length ≤ 300 ∧ x.b.d.length ≤ 300) := by
  refine s_law10_few fun R hR => ?_
  unfold c_law10_few
  have hq : ∃ a c, v = .slice a l.length c ∧ l.length ≤ c := by
    obtain ⟨a, c, hv, _⟩ := hr.rw
    rw [List.length_map] at hv
    exact ⟨a, c, hv, hcap _ _ _ hv⟩
  obtain ⟨a, c, hv, hc⟩ := hq
  simp only [hr.len, min_int]
  obtain ⟨n, hn⟩ : ∃ n : Nat, n = min l.length 30 := ⟨_, rfl⟩
  have e1 : min (l.length : Int) 30 = (n : Int) := by omega
  rw [e1]
  have hnl : n ≤ l.length := by omega
  have hrt : ORows w.heap (.slice a n c) (l.take n) := by
    refine ⟨?_, fun x hx => hr.d x (List.mem_of_mem_take hx)⟩
    have := hr.rw
    rw [hv] at this
    have h2 := Rows'.take this (k := n) (by simpa using hnl) c
    rwa [← List.map_take] at h2
  have et : l.take 30 = l.take n := by
    rw [hn]
    by_cases h : l.length ≤ 30
    · rw [Nat.min_eq_left h, List.take_of_length_le (Nat.le_refl _), List.take_of_length_le h]
    · rw [Nat.min_eq_right (by omega)]
  rw [hv, slc_to (by omega)]
  have hlt : (l.take n).length = n := by rw [List.length_take]; omega
  have h5 := hrt.len
  rw [hlt] at h5
  simp only [h5]
  refine ⟨fun y z => ∃ i : Nat, y = .int .i64 i ∧ i ≤ n ∧ (∀ x ∈ l.take i, x.d.length ≤ 300 ∧ x.b.d.length ≤ 300) ∧ Fr [] w z, fun y _ => (n - RowKit.intOf y).toNat, ⟨0, rfl, by omega, (fun x hx => by cases hx), Fr.refl _ _⟩, ?_⟩
  rintro _ w1 ⟨i, rfl, hi, hsm, hf⟩ -
  simp only [nilc_some, fad_mk, pik_true, pik_false, cnd_true, cnd_false, gif_same, gif_tf, gif_ft, gif_undef, bi_add, bi_sub, bi_mul, bi_eql, bi_neq, bi_lss, bi_leq, bi_gtr, bi_geq, notB_bool, cvi_int, lenS_mk, lenT_mk, ext0, ext1, ext2, nilP_mk, nilS_mk, fldv_agg, jn0_k, jn1_k, jn2_k, jn1_and, jn1_or, ex_some, Option.isNone_some, Option.isNone_none, Bool.false_bne, Bool.bne_true, Bool.bne_false, Bool.true_bne, Bool.not_true, Bool.not_false, Bool.and_true, Bool.true_and, Bool.and_false, Bool.false_and, Bool.or_true, Bool.true_or, Bool.or_false, Bool.false_or, cond_true, cond_false, List.getElem?_toArray, List.getElem?_cons_zero, List.getElem?_cons_succ, Nat.zero_add, Nat.add_zero, Nat.reduceAdd, forall_const]
  rw [cnd_bool]
  refine ⟨fun h => ?_, fun h => ?_⟩
  · have hlt : i < n := by simp at h; omega
    obtain ⟨x, hx⟩ : ∃ x, l[i]? = some x := ⟨_, List.getElem?_eq_getElem (by omega)⟩
    have hxt : (l.take n)[i]? = some x := by rw [List.getElem?_take, if_pos hlt]; exact hx
    have hxm := List.mem_of_getElem? hx
    have hxm' : ((l.take n).map OA.t)[i]? = some x.t := by rw [List.getElem?_map, hxt]; rfl
    have hxo := hok x hxm
    change ixs 37 _ _ _
    refine Rows'.ldN (q := Q_flurrylaw10_Op) (by decide) (hrt.rw.fr hf) hxm' .i64 ?_
    refine alloc_s ((Sep.start w).old hf) (A_flurrylaw10_Op w1) fun g w2 hs2 => ?_
    have hd := (hr.fr hs2.fr0).d x hxm
    refine St_flurrylaw10_Op (b := x.t) hs2 (one_flurrylaw10_Op hd.1.one hd.2.one) fun w3 hs3 => ?_
    have hd3 := (hr.fr hs3.fr0).d x hxm
    have l1 : ∀ K, lenS (OA.t x).2.2.1 K = K (.int .i64 x.d.length) := hd3.1.len
    have l2 : ∀ K, lenS (OA.t x).2.2.2.2.2 K = K (.int .i64 x.b.d.length) := hd3.2.len
    simp only [L_flurrylaw10_Op hs3.blk, L_flurrylaw10_Op__Do hs3.blk, L_flurrylaw10_Op__N hs3.blk, L_flurrylaw10_Op__Data hs3.blk, L_flurrylaw10_Op__B hs3.blk, L_flurrylaw10_Op__B_Parent hs3.blk, L_flurrylaw10_Op__B_Height hs3.blk, L_flurrylaw10_Op__B_Data hs3.blk, l1, l2, nilc_some, fad_mk, pik_true, pik_false, cnd_true, cnd_false, gif_same, gif_tf, gif_ft, gif_undef, bi_add, bi_sub, bi_mul, bi_eql, bi_neq, bi_lss, bi_leq, bi_gtr, bi_geq, notB_bool, cvi_int, lenS_mk, lenT_mk, ext0, ext1, ext2, nilP_mk, nilS_mk, fldv_agg, jn0_k, jn1_k, jn2_k, jn1_and, jn1_or, ex_some, Option.isNone_some, Option.isNone_none, Bool.false_bne, Bool.bne_true, Bool.bne_false, Bool.true_bne, Bool.not_true, Bool.not_false, Bool.and_true, Bool.true_and, Bool.and_false, Bool.false_and, Bool.or_true, Bool.true_or, Bool.or_false, Bool.false_or, cond_true, cond_false, List.getElem?_toArray, List.getElem?_cons_zero, List.getElem?_cons_succ, Nat.zero_add, Nat.add_zero, Nat.reduceAdd, forall_const]
    rw [cnd_bool]
    refine ⟨fun h => hR _ _ ⟨hs3.fr0, _, false, rfl, fun h => by cases h⟩, fun h => ?_⟩
    rw [wi64 (by omega) (by omega)]
    refine ⟨⟨i + 1, by simp, by omega, fun y hy => ?_, hs3.fr0⟩, by simp [RowKit.intOf]; omega⟩
    rw [List.take_add_one, hx] at hy
    rcases List.mem_append.1 hy with hy | hy
    · exact hsm y hy
    · obtain rfl : y = x := by simpa using hy
      simp only [Bool.or_eq_false_iff, decide_eq_false_iff_not] at h
      omega
  · have hge : i = n := by simp at h; omega
    refine hR _ _ ⟨hf, _, true, rfl, fun h => ?_⟩
    rw [et]
    exact ⟨hrt, by rw [← hge]; exact hsm⟩
end
end Go.Fx
set_option linter.unusedVariables false
set_option linter.unusedSimpArgs false
namespace Go.Fx
section
variable {w0 w w' : World} {As : List Asn} {pt : Value} {x : Tp}
theorem Tp.app_room {x : Tp} {a : List UInt8} (hm : x.made = true) (ho : x.off = false) (hr : x.b.length + a.length ≤ 262144) (h : x.armed = -1 ∨ (a.length : Int) ≤ x.armed) :
    ∃ k, x.append a = (⟨x.b ++ a, k, false, true⟩, 0) ∧ (-1 ≤ x.armed → -1 ≤ k ∧ k ≤ x.armed) := by
  obtain ⟨b, armed, off, made⟩ := x
  obtain rfl : made = true := hm
  obtain rfl : off = false := ho
  unfold Tp.append
  rw [if_neg (by simp [Tp.may]), if_neg (by have hr' : b.length + a.length ≤ 262144 := hr; show ¬ 262144 < b.length + a.length; omega)]
  by_cases h1 : armed = -1
  · rw [if_pos h1]
    exact ⟨-1, by rw [h1], fun _ => by simp only; omega⟩
  · have h2 : (a.length : Int) ≤ armed := h.resolve_left h1
    rw [if_neg h1, if_pos h2]
    exact ⟨_, rfl, fun h => by simp only at h ⊢; omega⟩
theorem Tp.app_cut {x : Tp} {a : List UInt8} (hm : x.made = true) (ho : x.off = false) (hr : x.b.length + a.length ≤ 262144) (h : ¬ (x.armed = -1 ∨ (a.length : Int) ≤ x.armed)) (h0 : -1 ≤ x.armed) :
    ∃ j, j < a.length ∧ x.append a = (⟨x.b ++ a.take j, -1, true, true⟩, 5) := by
  obtain ⟨b, armed, off, made⟩ := x
  obtain rfl : made = true := hm
  obtain rfl : off = false := ho
  simp only at h h0 hr
  refine ⟨armed.toNat, by omega, ?_⟩
  unfold Tp.append
  rw [if_neg (by simp [Tp.may]), if_neg (by simp only; omega), if_neg (by simp only; omega), if_neg (by simp only; omega)]
theorem cOpenG {v : Value} {W : List Blk} {As : List Asn} (hs : Sep w0 w (tp pt x :: rdA v [103] :: As)) (hx : x.Ok) (hm : x.made = true) (hC : Cub w0) (hoff : x.off = false) (hW : IsScan x.b W) (hl : linked genB W) :
    cal P f_chain_Open [pt, bq genB v] w fun r w' => ∃ g gi gm lv iv B E, r = .tuple #[.pointer (some ⟨g, 0, none⟩), .int .i64 0] ∧ blks B = genB :: W ∧ DatB B E ∧
      Sep w0 w' (chH g gi gm lv iv pt false B ++ (tp pt { x with b := layL W } :: (E ++ (rdA v [103] :: As)))) := by
  refine cal_i (cOpen_spec (b := genB) (v := v) hs hx hm hC (fun z hz => Sep.rda hz) (by decide)) ?_
  rintro r w1 (⟨h, _⟩ | ⟨_, h, _⟩ | ⟨_, _, _, g, gi, gm, lv, iv, B, E, S, rfl, hS, hB, hD, hs1⟩)
  · rw [hoff] at h; cases h
  · rcases h with h | h
    · exact absurd genB_chk h
    · exact absurd genB_h h
  obtain rfl := hS.uniq hW
  rw [linkT_self hl] at hB hs1
  exact ⟨g, gi, gm, lv, iv, B, E, rfl, hB, hD, hs1⟩
theorem blks_snoc (B : List BV) (x : BV) : blks (B ++ [x]) = blks B ++ [x.1] := by simp
theorem blksLen {B : List BV} {W : List Blk} (h : blks B = genB :: W) : B.length = W.length + 1 := by
  have := congrArg List.length h
  simpa using this
theorem datRd {N : List BV} {E As Bs : List Asn} (h : DatB N E) (hs : Sep w0 w (As ++ (E ++ Bs))) : ∀ x ∈ N, RdB w.heap x.2 x.1.d := fun x hx => by
  obtain ⟨F, hF⟩ := hs.onL (A := ownB x.2 x.1.d) (List.mem_append_right _ (List.mem_append_left _ (h x hx)))
  exact OwnB.rd hF
theorem Blk.kid_of {b : Blk} {d : List UInt8} (hc : b.chk = 0) (hh : b.h ≤ 1000000) (hd : d.length ≤ 200) : b.child d = b.kid d ∧ (b.child d).link b = 0 ∧ (b.child d).h = b.h + 1 ∧ (b.child d).chk = 0 ∧ (b.child d).d = d := by
  have hk : b.kidOk d := ⟨hc, by unfold maxI; omega, hd⟩
  have e : b.child d = b.kid d := by unfold Blk.child; rw [if_pos hk]
  rw [e]
  have h1 := (Blk.link_kid hk).1
  exact ⟨rfl, h1, rfl, (link_chk h1).1, rfl⟩
theorem begun10_spec (hC : Cub w) : cal P f_law10_begun [] w fun v w' => v = .bool true ∧ Fr [] w w' := by
  refine s_law10_begun fun R hR => ?_
  unfold c_law10_begun
  refine cal_i tpNew_spec ?_
  rintro pt w1 hs1
  have hp1 := tp_one hs1
  refine cal_i cFirst_spec ?_
  rintro _ w2 ⟨v1, rfl, hs2⟩
  replace hs2 := hs1.join hs2
  have hg0 : goodB [] := fun b hb => by cases hb
  refine cal_i (cOpenG (W := []) hs2.p1 ⟨by simp, by simp, by simp⟩ rfl hC rfl (scan_all hg0) trivial) ?_
  rintro _ w3 ⟨g, gi, gm, lv, iv, B, E, rfl, hB, hD, hs3⟩
  obtain ⟨A3, hA3⟩ : ∃ A3, A3 = E ++ [rdA v1 [103]] := ⟨_, rfl⟩
  replace hD : DatB B A3 := by rw [hA3]; exact hD.sub fun A hA => List.mem_append_left _ hA
  rw [← hA3] at hs3
  clear hs1 hs2
  obtain ⟨y0, hy0, hy1⟩ := lastOf hB
  have hy1 : y0.1 = genB := hy1
  have hBl : B.length = 1 := by
    have := congrArg List.length hB
    simpa using this
  simp only [nilc_some, fad_mk, pik_true, pik_false, cnd_true, cnd_false, gif_same, gif_tf, gif_ft, gif_undef, bi_add, bi_sub, bi_mul, bi_eql, bi_neq, bi_lss, bi_leq, bi_gtr, bi_geq, notB_bool, cvi_int, lenS_mk, lenT_mk, ext0, ext1, ext2, nilP_mk, nilS_mk, fldv_agg, jn0_k, jn1_k, jn2_k, jn1_and, jn1_or, ex_some, Option.isNone_some, Option.isNone_none, Bool.false_bne, Bool.bne_true, Bool.bne_false, Bool.true_bne, Bool.not_true, Bool.not_false, Bool.and_true, Bool.true_and, Bool.and_false, Bool.false_and, Bool.or_true, Bool.true_or, Bool.or_false, Bool.false_or, cond_true, cond_false, List.getElem?_toArray, List.getElem?_cons_zero, List.getElem?_cons_succ, Nat.zero_add, Nat.add_zero, Nat.reduceAdd, forall_const, show ((0 : Int) != 0) = false from rfl]
  refine jn1_dup ?_
  simp only [nilc_some, fad_mk, pik_true, pik_false, cnd_true, cnd_false, gif_same, gif_tf, gif_ft, gif_undef, bi_add, bi_sub, bi_mul, bi_eql, bi_neq, bi_lss, bi_leq, bi_gtr, bi_geq, notB_bool, cvi_int, lenS_mk, lenT_mk, ext0, ext1, ext2, nilP_mk, nilS_mk, fldv_agg, jn0_k, jn1_k, jn2_k, jn1_and, jn1_or, ex_some, Option.isNone_some, Option.isNone_none, Bool.false_bne, Bool.bne_true, Bool.bne_false, Bool.true_bne, Bool.not_true, Bool.not_false, Bool.and_true, Bool.true_and, Bool.and_false, Bool.false_and, Bool.or_true, Bool.true_or, Bool.or_false, Bool.false_or, cond_true, cond_false, List.getElem?_toArray, List.getElem?_cons_zero, List.getElem?_cons_succ, Nat.zero_add, Nat.add_zero, Nat.reduceAdd, forall_const]
  rw [tp_nilP (Sep.pick hs3 [5] 6)]
  simp only [nilc_some, fad_mk, pik_true, pik_false, cnd_true, cnd_false, gif_same, gif_tf, gif_ft, gif_undef, bi_add, bi_sub, bi_mul, bi_eql, bi_neq, bi_lss, bi_leq, bi_gtr, bi_geq, notB_bool, cvi_int, lenS_mk, lenT_mk, ext0, ext1, ext2, nilP_mk, nilS_mk, fldv_agg, jn0_k, jn1_k, jn2_k, jn1_and, jn1_or, ex_some, Option.isNone_some, Option.isNone_none, Bool.false_bne, Bool.bne_true, Bool.bne_false, Bool.true_bne, Bool.not_true, Bool.not_false, Bool.and_true, Bool.true_and, Bool.and_false, Bool.false_and, Bool.or_true, Bool.true_or, Bool.or_false, Bool.false_or, cond_true, cond_false, List.getElem?_toArray, List.getElem?_cons_zero, List.getElem?_cons_succ, Nat.zero_add, Nat.add_zero, Nat.reduceAdd, forall_const]
  refine cal_i cFirst_spec ?_
  rintro _ w4 ⟨v2, rfl, hs4⟩
  replace hs4 := hs3.join hs4
  refine lit_s (l := [97]) hs4 U_sl_uint8 U_uint8 rfl (lit1 97 w4) fun g5 w5 hs5 => ?_
  refine cal_i (cChild_spec (b := genB) (v := v2) (d := [97]) (Sep.rda hs5.p1) (Sep.rda hs5) (Sep.rdaCap hs5) (by decide) (by simp)) ?_
  rintro _ w6 ⟨v', rfl, hs6⟩
  replace hs6 := hs5.join hs6
  obtain ⟨k1, k2, k3, k4, k5⟩ := Blk.kid_of (b := genB) (d := ([97] : List UInt8).take 200) genB_chk (by decide) (by simp)
  obtain ⟨b1, hb1⟩ : ∃ b1, b1 = genB.child (([97] : List UInt8).take 200) := ⟨_, rfl⟩
  rw [← hb1] at hs6 k2 k3 k4 k5 ⊢
  have hb1h : b1.h = 1 := k3
  have hb1d : b1.d.length = 1 := by rw [k5]; rfl
  refine alloc_s hs6 (A_api_Block w6) fun g4 w7 hs7 => ?_
  refine St_api_Block (b := (b1.p, b1.h, v')) hs7 (one_api_Block (Sep.one hs7.p1)) fun w8 hs8 => ?_
  simp only [L_api_Block hs8.blk, L_api_Block__Parent hs8.blk, L_api_Block__Height hs8.blk, L_api_Block__Data hs8.blk]
  have hr1 : b1.rcd.length = 67 := by rw [Blk.rec_len, hb1d]
  refine cal_i (cAccept_spec (b := b1) (v := v') (y := y0) (x := ⟨[], -1, false, true⟩) (As := blk g4 (Rdr.cells Q_api_Block (b1.p, b1.h, v')).toArray T_api_Block :: ownB v' b1.d :: A3) (Sep.pick hs8 [4, 5, 6, 7, 8, 9, 0, 1] 10) ⟨by simp, by simp, by simp⟩ rfl hC (fun z hz => Sep.rd hz.tail)
    (hD.sub fun A hA => List.mem_cons_of_mem _ (List.mem_cons_of_mem _ hA)) (by rw [hb1h]; decide) hy0 (by rw [hy1]; decide) (by omega)) ?_
  obtain ⟨k, hk, hk2⟩ := Tp.app_room (x := ⟨[], -1, false, true⟩) (a := b1.rcd) rfl rfl (by simp; omega) (.inl rfl)
  have hk3 := hk2 (by simp)
  obtain rfl : k = -1 := by simp only at hk3; omega
  rw [hk, hy1]
  rintro _ w9 (⟨h, _⟩ | ⟨_, _, h, _⟩ | ⟨_, _, _, _, rfl, lv', iv', vd, hs9⟩ | ⟨_, _, _, h, _⟩)
  · rcases h with h | h <;> cases h
  · exact absurd k2 h
  case inr.inr.inr => exact absurd rfl h
  clear hs3 hs4 hs5 hs6 hs7 hs8
  rw [List.nil_append] at hs9
  -- chain 0-4 · tp 5 · vd 6 · t4 7 · v' 8 · A3
  simp only [nilc_some, fad_mk, pik_true, pik_false, cnd_true, cnd_false, gif_same, gif_tf, gif_ft, gif_undef, bi_add, bi_sub, bi_mul, bi_eql, bi_neq, bi_lss, bi_leq, bi_gtr, bi_geq, notB_bool, cvi_int, lenS_mk, lenT_mk, ext0, ext1, ext2, nilP_mk, nilS_mk, fldv_agg, jn0_k, jn1_k, jn2_k, jn1_and, jn1_or, ex_some, Option.isNone_some, Option.isNone_none, Bool.false_bne, Bool.bne_true, Bool.bne_false, Bool.true_bne, Bool.not_true, Bool.not_false, Bool.and_true, Bool.true_and, Bool.and_false, Bool.false_and, Bool.or_true, Bool.true_or, Bool.or_false, Bool.false_or, cond_true, cond_false, List.getElem?_toArray, List.getElem?_cons_zero, List.getElem?_cons_succ, Nat.zero_add, Nat.add_zero, Nat.reduceAdd, forall_const, show ((0 : Int) != 0) = false from rfl]
  refine jn1_dup ?_
  refine cal_i (tpArm_spec (n := 10) (Sep.pick hs9 [5, 0, 1, 2, 3, 4, 6, 7, 8] 9)) ?_
  rintro _ w10 ⟨rfl, hs10⟩
  have e3 : (⟨b1.rcd, -1, false, true⟩ : Tp).arm 10 = (⟨b1.rcd, 10, false, true⟩, 0) := rfl
  rw [e3] at hs10 ⊢
  simp only [nilc_some, fad_mk, pik_true, pik_false, cnd_true, cnd_false, gif_same, gif_tf, gif_ft, gif_undef, bi_add, bi_sub, bi_mul, bi_eql, bi_neq, bi_lss, bi_leq, bi_gtr, bi_geq, notB_bool, cvi_int, lenS_mk, lenT_mk, ext0, ext1, ext2, nilP_mk, nilS_mk, fldv_agg, jn0_k, jn1_k, jn2_k, jn1_and, jn1_or, ex_some, Option.isNone_some, Option.isNone_none, Bool.false_bne, Bool.bne_true, Bool.bne_false, Bool.true_bne, Bool.not_true, Bool.not_false, Bool.and_true, Bool.true_and, Bool.and_false, Bool.false_and, Bool.or_true, Bool.true_or, Bool.or_false, Bool.false_or, cond_true, cond_false, List.getElem?_toArray, List.getElem?_cons_zero, List.getElem?_cons_succ, Nat.zero_add, Nat.add_zero, Nat.reduceAdd, forall_const, show ((0 : Int) != 0) = false from rfl]
  try intro _
  refine jn1_dup ?_
  simp only [nilc_some, fad_mk, pik_true, pik_false, cnd_true, cnd_false, gif_same, gif_tf, gif_ft, gif_undef, bi_add, bi_sub, bi_mul, bi_eql, bi_neq, bi_lss, bi_leq, bi_gtr, bi_geq, notB_bool, cvi_int, lenS_mk, lenT_mk, ext0, ext1, ext2, nilP_mk, nilS_mk, fldv_agg, jn0_k, jn1_k, jn2_k, jn1_and, jn1_or, ex_some, Option.isNone_some, Option.isNone_none, Bool.false_bne, Bool.bne_true, Bool.bne_false, Bool.true_bne, Bool.not_true, Bool.not_false, Bool.and_true, Bool.true_and, Bool.and_false, Bool.false_and, Bool.or_true, Bool.true_or, Bool.or_false, Bool.false_or, cond_true, cond_false, List.getElem?_toArray, List.getElem?_cons_zero, List.getElem?_cons_succ, Nat.zero_add, Nat.add_zero, Nat.reduceAdd, forall_const, L_api_Block (Sep.blk (Sep.pick hs10 [7] 8)), L_api_Block__Parent (Sep.blk (Sep.pick hs10 [7] 8)), L_api_Block__Height (Sep.blk (Sep.pick hs10 [7] 8)), L_api_Block__Data (Sep.blk (Sep.pick hs10 [7] 8))]
  refine cal_i (cChild_spec (b := b1) (v := v') (u := .slice none 0 0) (d := []) (Sep.rd (Sep.pick hs10 [8] 9)) (RdB.nil _ 0) (fun a n c h => by cases h; omega) (by rw [hb1h]; decide) (by simp)) ?_
  rintro _ w11 ⟨v3, rfl, hs11⟩
  replace hs11 := hs10.join hs11
  obtain ⟨m1, m2, m3, m4, m5⟩ := Blk.kid_of (b := b1) (d := ([] : List UInt8).take 200) k4 (by rw [hb1h]; decide) (by simp)
  obtain ⟨b2, hb2⟩ : ∃ b2, b2 = b1.child (([] : List UInt8).take 200) := ⟨_, rfl⟩
  rw [← hb2] at hs11 m2 m3 m4 m5 ⊢
  have hb2h : b2.h = 2 := by rw [m3, hb1h]; rfl
  have hr2 : b2.rcd.length = 66 := by rw [Blk.rec_len, m5]; rfl
  -- v3 0 · tp 1 · chain 2-6 · vd 7 · t4 8 · v' 9 · A3
  refine cal_i (cAccept_spec (b := b2) (v := v3) (y := (b1, vd)) (x := ⟨b1.rcd, 10, false, true⟩) (B := B ++ [(b1, vd)]) (As := ownB v3 b2.d :: ownB vd b1.d :: blk g4 (Rdr.cells Q_api_Block (b1.p, b1.h, v')).toArray T_api_Block :: ownB v' b1.d :: A3) (Sep.pick hs11 [2, 3, 4, 5, 6, 1, 0, 7, 8, 9] 10) ⟨by simp only; omega, by simp, by simp⟩ rfl hC (fun z hz => Sep.rd hz)
    (fun q hq => by
      rcases List.mem_append.1 hq with hq | hq
      · exact List.mem_cons_of_mem _ (List.mem_cons_of_mem _ (List.mem_cons_of_mem _ (List.mem_cons_of_mem _ (hD q hq))))
      · rw [List.mem_singleton.1 hq]; exact List.mem_cons_of_mem _ (List.mem_cons_self ..)) (by rw [hb2h]; decide) (by simp) (by show b1.h ≤ _; rw [hb1h]; decide) (by simp; omega)) ?_
  have e4 : (⟨b1.rcd, 10, false, true⟩ : Tp).append b2.rcd = (⟨b1.rcd ++ b2.rcd.take 10, -1, true, true⟩, 5) := by
    unfold Tp.append
    rw [if_neg (by simp [Tp.may]), if_neg (by simp only; omega), if_neg (by simp), if_neg (by simp only; omega)]
    rfl
  rw [e4]
  rintro _ w12 (⟨h, _⟩ | ⟨_, _, h, _⟩ | ⟨_, _, _, h, _⟩ | ⟨_, _, _, _, rfl, hs12⟩)
  · rcases h with h | h <;> cases h
  · exact absurd m2 h
  · cases h
  -- chain 0-4 · tp 5 · v3 6 · vd 7 · t4 8 · v' 9
  simp only [nilc_some, fad_mk, pik_true, pik_false, cnd_true, cnd_false, gif_same, gif_tf, gif_ft, gif_undef, bi_add, bi_sub, bi_mul, bi_eql, bi_neq, bi_lss, bi_leq, bi_gtr, bi_geq, notB_bool, cvi_int, lenS_mk, lenT_mk, ext0, ext1, ext2, nilP_mk, nilS_mk, fldv_agg, jn0_k, jn1_k, jn2_k, jn1_and, jn1_or, ex_some, Option.isNone_some, Option.isNone_none, Bool.false_bne, Bool.bne_true, Bool.bne_false, Bool.true_bne, Bool.not_true, Bool.not_false, Bool.and_true, Bool.true_and, Bool.and_false, Bool.false_and, Bool.or_true, Bool.true_or, Bool.or_false, Bool.false_or, cond_true, cond_false, List.getElem?_toArray, List.getElem?_cons_zero, List.getElem?_cons_succ, Nat.zero_add, Nat.add_zero, Nat.reduceAdd, forall_const, show ((5 : Int) != 5) = false from rfl]
  try intro _
  refine jn1_dup ?_
  refine cal_i (tpRestart_spec (Sep.pick hs12 [5, 8, 9] 10)) ?_
  rintro _ w13 ⟨rfl, hs13⟩
  have e5 : (⟨b1.rcd ++ b2.rcd.take 10, -1, true, true⟩ : Tp).restart = (⟨b1.rcd ++ b2.rcd.take 10, -1, false, true⟩, 0) := rfl
  simp only [e5] at hs13 ⊢
  simp only [nilc_some, fad_mk, pik_true, pik_false, cnd_true, cnd_false, gif_same, gif_tf, gif_ft, gif_undef, bi_add, bi_sub, bi_mul, bi_eql, bi_neq, bi_lss, bi_leq, bi_gtr, bi_geq, notB_bool, cvi_int, lenS_mk, lenT_mk, ext0, ext1, ext2, nilP_mk, nilS_mk, fldv_agg, jn0_k, jn1_k, jn2_k, jn1_and, jn1_or, ex_some, Option.isNone_some, Option.isNone_none, Bool.false_bne, Bool.bne_true, Bool.bne_false, Bool.true_bne, Bool.not_true, Bool.not_false, Bool.and_true, Bool.true_and, Bool.and_false, Bool.false_and, Bool.or_true, Bool.true_or, Bool.or_false, Bool.false_or, cond_true, cond_false, List.getElem?_toArray, List.getElem?_cons_zero, List.getElem?_cons_succ, Nat.zero_add, Nat.add_zero, Nat.reduceAdd, forall_const, show ((0 : Int) != 0) = false from rfl]
  refine cal_i cFirst_spec ?_
  rintro _ w14 ⟨v4, rfl, hs14⟩
  replace hs14 := hs13.join hs14
  have hg1 : goodB [b1] := fun b hb => by
    rw [List.mem_singleton.1 hb]
    exact ⟨k4, by rw [hb1h]; decide⟩
  have hl1 : layL [b1] = b1.rcd := by rw [layL_cons]; simp [layL]
  have hsc : IsScan (b1.rcd ++ b2.rcd.take 10) [b1] := by
    have := scan_part hg1 (b := b2) m4 (j := 10) (by omega)
    rwa [hl1] at this
  have hx13 : (⟨b1.rcd ++ b2.rcd.take 10, -1, false, true⟩ : Tp).Ok := ⟨by simp only [List.length_append, List.length_take]; omega, by simp, by simp⟩
  refine cal_i (cOpenG (W := [b1]) (Sep.pick hs14 [1, 0, 2, 3] 4) hx13 rfl hC rfl hsc ⟨k2, trivial⟩) ?_
  rintro _ w15 ⟨g2, gi2, gm2, lv2, iv2, B2, E2, rfl, hB2, hD2, hs15⟩
  obtain ⟨y2, hy2, hy3⟩ := lastOf hB2
  have hy3 : y2.1 = b1 := hy3
  have hBl2 : B2.length = 2 := by
    have := congrArg List.length hB2
    simpa using this
  simp only [nilc_some, fad_mk, pik_true, pik_false, cnd_true, cnd_false, gif_same, gif_tf, gif_ft, gif_undef, bi_add, bi_sub, bi_mul, bi_eql, bi_neq, bi_lss, bi_leq, bi_gtr, bi_geq, notB_bool, cvi_int, lenS_mk, lenT_mk, ext0, ext1, ext2, nilP_mk, nilS_mk, fldv_agg, jn0_k, jn1_k, jn2_k, jn1_and, jn1_or, ex_some, Option.isNone_some, Option.isNone_none, Bool.false_bne, Bool.bne_true, Bool.bne_false, Bool.true_bne, Bool.not_true, Bool.not_false, Bool.and_true, Bool.true_and, Bool.and_false, Bool.false_and, Bool.or_true, Bool.true_or, Bool.or_false, Bool.false_or, cond_true, cond_false, List.getElem?_toArray, List.getElem?_cons_zero, List.getElem?_cons_succ, Nat.zero_add, Nat.add_zero, Nat.reduceAdd, forall_const, show ((0 : Int) != 0) = false from rfl]
  refine cal_i (cLastId_spec (chH_rd hs15 (hD2.sub fun A hA => List.mem_cons_of_mem _ (List.mem_append_left _ hA))) hy2 (by omega)) ?_
  rintro _ w16 ⟨rfl, hf16⟩
  have hs16 := hs15.old hf16
  rw [hy3, hb1h]
  have hs17 : Sep w w16 (tp pt ⟨layL [b1], -1, false, true⟩ :: blk g4 (Rdr.cells Q_api_Block (b1.p, b1.h, v')).toArray T_api_Block :: ownB v' b1.d :: (A3 ++ E2)) := by
    have h1 := hs16.dropL
    have h2 := Sep.rot (As := _ :: E2) h1
    have h3 := Sep.pick h2 [1, 2] 3
    exact Sep.mid (As := _ :: _ :: A3) h3
  simp only [nilc_some, fad_mk, pik_true, pik_false, cnd_true, cnd_false, gif_same, gif_tf, gif_ft, gif_undef, bi_add, bi_sub, bi_mul, bi_eql, bi_neq, bi_lss, bi_leq, bi_gtr, bi_geq, notB_bool, cvi_int, lenS_mk, lenT_mk, ext0, ext1, ext2, nilP_mk, nilS_mk, fldv_agg, jn0_k, jn1_k, jn2_k, jn1_and, jn1_or, ex_some, Option.isNone_some, Option.isNone_none, Bool.false_bne, Bool.bne_true, Bool.bne_false, Bool.true_bne, Bool.not_true, Bool.not_false, Bool.and_true, Bool.true_and, Bool.and_false, Bool.false_and, Bool.or_true, Bool.true_or, Bool.or_false, Bool.false_or, cond_true, cond_false, List.getElem?_toArray, List.getElem?_cons_zero, List.getElem?_cons_succ, Nat.zero_add, Nat.add_zero, Nat.reduceAdd, forall_const]
  refine alloc_s hs17 (A_api_ID w16) fun g6 w17 hs18 => ?_
  refine St_api_ID (b := b1.id) hs18 fun w18 hs19 => ?_
  refine drH_S hs19 fun w19 hs20 _ => ?_
  -- id 0 · tp 1 · t4 2 · v' 3
  simp only [nilc_some, fad_mk, pik_true, pik_false, cnd_true, cnd_false, gif_same, gif_tf, gif_ft, gif_undef, bi_add, bi_sub, bi_mul, bi_eql, bi_neq, bi_lss, bi_leq, bi_gtr, bi_geq, notB_bool, cvi_int, lenS_mk, lenT_mk, ext0, ext1, ext2, nilP_mk, nilS_mk, fldv_agg, jn0_k, jn1_k, jn2_k, jn1_and, jn1_or, ex_some, Option.isNone_some, Option.isNone_none, Bool.false_bne, Bool.bne_true, Bool.bne_false, Bool.true_bne, Bool.not_true, Bool.not_false, Bool.and_true, Bool.true_and, Bool.and_false, Bool.false_and, Bool.or_true, Bool.true_or, Bool.or_false, Bool.false_or, cond_true, cond_false, List.getElem?_toArray, List.getElem?_cons_zero, List.getElem?_cons_succ, Nat.zero_add, Nat.add_zero, Nat.reduceAdd, forall_const, show ((1 : Int) == 1) = true from rfl]
  refine jn1_dup ?_
  simp only [nilc_some, fad_mk, pik_true, pik_false, cnd_true, cnd_false, gif_same, gif_tf, gif_ft, gif_undef, bi_add, bi_sub, bi_mul, bi_eql, bi_neq, bi_lss, bi_leq, bi_gtr, bi_geq, notB_bool, cvi_int, lenS_mk, lenT_mk, ext0, ext1, ext2, nilP_mk, nilS_mk, fldv_agg, jn0_k, jn1_k, jn2_k, jn1_and, jn1_or, ex_some, Option.isNone_some, Option.isNone_none, Bool.false_bne, Bool.bne_true, Bool.bne_false, Bool.true_bne, Bool.not_true, Bool.not_false, Bool.and_true, Bool.true_and, Bool.and_false, Bool.false_and, Bool.or_true, Bool.true_or, Bool.or_false, Bool.false_or, cond_true, cond_false, List.getElem?_toArray, List.getElem?_cons_zero, List.getElem?_cons_succ, Nat.zero_add, Nat.add_zero, Nat.reduceAdd, forall_const]
  refine ⟨bq b1 v', fun u hu => (L_api_Block (Sep.blk hu.p2) _).mpr rfl, ?_⟩
  refine efS_i (cal_i (tpLen_spec hs20.p1 rfl) ?_)
  rintro _ _ ⟨rfl, rfl⟩
  refine ⟨hs20, ?_⟩
  refine efS_i (cal_i (rRecSize_spec (b := b1) (v := v') (Sep.rd hs20.p3) (by rw [hb1h]; decide)) ?_)
  rintro _ w20 ⟨rfl, hf20⟩
  have hs21 := hs20.old hf20
  refine ⟨hs21, ?_⟩
  have hro : b1.recO = b1.rcd := if_pos k4
  have he : ((layL [b1]).length : Int) = (b1.recO.length : Int) := by rw [hl1, hro]
  simp only [nilc_some, fad_mk, pik_true, pik_false, cnd_true, cnd_false, gif_same, gif_tf, gif_ft, gif_undef, bi_add, bi_sub, bi_mul, bi_eql, bi_neq, bi_lss, bi_leq, bi_gtr, bi_geq, notB_bool, cvi_int, lenS_mk, lenT_mk, ext0, ext1, ext2, nilP_mk, nilS_mk, fldv_agg, jn0_k, jn1_k, jn2_k, jn1_and, jn1_or, ex_some, Option.isNone_some, Option.isNone_none, Bool.false_bne, Bool.bne_true, Bool.bne_false, Bool.true_bne, Bool.not_true, Bool.not_false, Bool.and_true, Bool.true_and, Bool.and_false, Bool.false_and, Bool.or_true, Bool.true_or, Bool.or_false, Bool.false_or, cond_true, cond_false, List.getElem?_toArray, List.getElem?_cons_zero, List.getElem?_cons_succ, Nat.zero_add, Nat.add_zero, Nat.reduceAdd, forall_const, he]
  try intro _
  refine hR _ _ ⟨by simp, hs21.fr0⟩
end
end Go.Fx
set_option linter.unusedVariables false
set_option linter.unusedSimpArgs false
namespace Go.Fx
section
variable {w0 w w' : World} {As : List Asn} {g gi gm : Nat} {lv iv m pt : Value} {over : Bool} {B : List BV} {x : Tp}
theorem hasPrefix_spec {x y : Value} {a b : List UInt8} (hx : RdB w.heap x a) (hc : capOk x) (hy : RdB w.heap y b) : cal P f_bytes_HasPrefix [x, y] w fun v w' => v = .bool (decide (b.length ≤ a.length) && a.take b.length == b) ∧ w = w' := by
  refine s_bytes_HasPrefix fun R hR => ?_
  unfold c_bytes_HasPrefix
  simp only [nilc_some, fad_mk, pik_true, pik_false, cnd_true, cnd_false, gif_same, gif_tf, gif_ft, gif_undef, bi_add, bi_sub, bi_mul, bi_eql, bi_neq, bi_lss, bi_leq, bi_gtr, bi_geq, notB_bool, cvi_int, lenS_mk, lenT_mk, ext0, ext1, ext2, nilP_mk, nilS_mk, fldv_agg, jn0_k, jn1_k, jn2_k, jn1_and, jn1_or, ex_some, Option.isNone_some, Option.isNone_none, Bool.false_bne, Bool.bne_true, Bool.bne_false, Bool.true_bne, Bool.not_true, Bool.not_false, Bool.and_true, Bool.true_and, Bool.and_false, Bool.false_and, Bool.or_true, Bool.true_or, Bool.or_false, Bool.false_or, cond_true, cond_false, List.getElem?_toArray, List.getElem?_cons_zero, List.getElem?_cons_succ, Nat.zero_add, Nat.add_zero, Nat.reduceAdd, forall_const, hx.len, hy.len]
  obtain ⟨ax, cx, rfl⟩ := hx.form
  have hcap := hc _ _ _ rfl
  by_cases h : b.length ≤ a.length
  · have h' : decide ((b.length : Int) ≤ a.length) = true := by simp; omega
    simp only [nilc_some, fad_mk, pik_true, pik_false, cnd_true, cnd_false, gif_same, gif_tf, gif_ft, gif_undef, bi_add, bi_sub, bi_mul, bi_eql, bi_neq, bi_lss, bi_leq, bi_gtr, bi_geq, notB_bool, cvi_int, lenS_mk, lenT_mk, ext0, ext1, ext2, nilP_mk, nilS_mk, fldv_agg, jn0_k, jn1_k, jn2_k, jn1_and, jn1_or, ex_some, Option.isNone_some, Option.isNone_none, Bool.false_bne, Bool.bne_true, Bool.bne_false, Bool.true_bne, Bool.not_true, Bool.not_false, Bool.and_true, Bool.true_and, Bool.and_false, Bool.false_and, Bool.or_true, Bool.true_or, Bool.or_false, Bool.false_or, cond_true, cond_false, List.getElem?_toArray, List.getElem?_cons_zero, List.getElem?_cons_succ, Nat.zero_add, Nat.add_zero, Nat.reduceAdd, forall_const, h']
    refine jn1_dup ?_
    rw [slc_to (by omega)]
    refine cal_i (tpEqual_spec (hx.take h cx) hy) ?_
    rintro _ _ ⟨rfl, rfl⟩
    simp only [nilc_some, fad_mk, pik_true, pik_false, cnd_true, cnd_false, gif_same, gif_tf, gif_ft, gif_undef, bi_add, bi_sub, bi_mul, bi_eql, bi_neq, bi_lss, bi_leq, bi_gtr, bi_geq, notB_bool, cvi_int, lenS_mk, lenT_mk, ext0, ext1, ext2, nilP_mk, nilS_mk, fldv_agg, jn0_k, jn1_k, jn2_k, jn1_and, jn1_or, ex_some, Option.isNone_some, Option.isNone_none, Bool.false_bne, Bool.bne_true, Bool.bne_false, Bool.true_bne, Bool.not_true, Bool.not_false, Bool.and_true, Bool.true_and, Bool.and_false, Bool.false_and, Bool.or_true, Bool.true_or, Bool.or_false, Bool.false_or, cond_true, cond_false, List.getElem?_toArray, List.getElem?_cons_zero, List.getElem?_cons_succ, Nat.zero_add, Nat.add_zero, Nat.reduceAdd, forall_const]
    exact hR _ _ ⟨by simp [h], rfl⟩
  · have h' : decide ((b.length : Int) ≤ a.length) = false := by simp; omega
    simp only [nilc_some, fad_mk, pik_true, pik_false, cnd_true, cnd_false, gif_same, gif_tf, gif_ft, gif_undef, bi_add, bi_sub, bi_mul, bi_eql, bi_neq, bi_lss, bi_leq, bi_gtr, bi_geq, notB_bool, cvi_int, lenS_mk, lenT_mk, ext0, ext1, ext2, nilP_mk, nilS_mk, fldv_agg, jn0_k, jn1_k, jn2_k, jn1_and, jn1_or, ex_some, Option.isNone_some, Option.isNone_none, Bool.false_bne, Bool.bne_true, Bool.bne_false, Bool.true_bne, Bool.not_true, Bool.not_false, Bool.and_true, Bool.true_and, Bool.and_false, Bool.false_and, Bool.or_true, Bool.true_or, Bool.or_false, Bool.false_or, cond_true, cond_false, List.getElem?_toArray, List.getElem?_cons_zero, List.getElem?_cons_succ, Nat.zero_add, Nat.add_zero, Nat.reduceAdd, forall_const, h']
    exact hR _ _ ⟨by simp [h], rfl⟩
def atE (over : Bool) (L : List Blk) (n : Int) : Int := if over = true then 5 else if n < 0 ∨ (L.length : Int) ≤ n then 4 else 0
def atB (over : Bool) (L : List Blk) (n : Int) : Blk := if atE over L n = 0 then L.getD n.toNat Blk.none else Blk.none
theorem atE_ok {L : List Blk} {i : Nat} (h : i < L.length) : atE false L i = 0 := by
  unfold atE
  rw [if_neg (by decide), if_neg (by omega)]
theorem atB_ok {L : List Blk} {i : Nat} {b : Blk} (h : L[i]? = some b) : atB false L i = b := by
  have hl := (List.getElem?_eq_some_iff.1 h).1
  unfold atB
  rw [if_pos (atE_ok hl), Int.toNat_natCast, List.getD_eq_getElem?_getD, h]
  rfl
theorem B_none {w : World} (K : Value → Prop) : rdP P (Instr.build T_api_Block #[]) w K = K (bq Blk.none (.slice none 0 0)) := rd_build (by kernel_rfl) K
theorem cAt_spec {n : Int} (hr : ChR w.heap g gi lv iv m pt over B) (hdl : ∀ x ∈ B, x.1.d.length ≤ 100000) :
    cal P f_chain_Chain_At [.pointer (some ⟨g, 0, none⟩), .int .i64 n] w fun r w' => ∃ vd, r = .tuple #[bq (atB over (blks B) n) vd, .int .i64 (atE over (blks B) n)] ∧ Sep w w' [ownB vd (atB over (blks B) n).d] := by
  refine s_chain_Chain_At fun R hR => ?_
  unfold c_chain_Chain_At
  refine alloc_s (Sep.start w) (A_api_Block w) fun g4 w1 hs1 => ?_
  refine cal_i (cMay_spec (hs1.ch hr)) ?_
  rintro _ _ ⟨rfl, rfl⟩
  have hl : (blks B).length = B.length := by simp
  have bad : ∀ e : Int, e = atE over (blks B) n → e ≠ 0 → rdP P (Instr.build T_api_Block #[]) w1 fun t11 => stN 34 (.pointer (some ⟨g4, 0, none⟩)) t11 w1 fun w => ldN 34 (.pointer (some ⟨g4, 0, none⟩)) w.heap fun r0 => R (.tuple #[r0, .int .i64 e]) w := fun e he h0 => by
    rw [B_none]
    have hb : atB over (blks B) n = Blk.none := by unfold atB; rw [if_neg (by rw [← he]; exact h0)]
    refine St_api_Block (b := (Blk.none.p, Blk.none.h, .slice none 0 0)) hs1 (one_api_Block rfl) fun w2 hs2 => ?_
    simp only [L_api_Block hs2.blk, L_api_Block__Parent hs2.blk, L_api_Block__Height hs2.blk, L_api_Block__Data hs2.blk]
    refine hR _ _ ⟨.slice none 0 0, by rw [hb, ← he], ?_⟩
    rw [hb]
    exact Sep.pick hs2.nil [0] 2
  cases over with
  | true =>
    rw [if_pos rfl]
    simp only [nilc_some, fad_mk, pik_true, pik_false, cnd_true, cnd_false, gif_same, gif_tf, gif_ft, gif_undef, bi_add, bi_sub, bi_mul, bi_eql, bi_neq, bi_lss, bi_leq, bi_gtr, bi_geq, notB_bool, cvi_int, lenS_mk, lenT_mk, ext0, ext1, ext2, nilP_mk, nilS_mk, fldv_agg, jn0_k, jn1_k, jn2_k, jn1_and, jn1_or, ex_some, Option.isNone_some, Option.isNone_none, Bool.false_bne, Bool.bne_true, Bool.bne_false, Bool.true_bne, Bool.not_true, Bool.not_false, Bool.and_true, Bool.true_and, Bool.and_false, Bool.false_and, Bool.or_true, Bool.true_or, Bool.or_false, Bool.false_or, cond_true, cond_false, List.getElem?_toArray, List.getElem?_cons_zero, List.getElem?_cons_succ, Nat.zero_add, Nat.add_zero, Nat.reduceAdd, forall_const, show ((5 : Int) != 0) = true from rfl]
    exact bad 5 (by unfold atE; rw [if_pos rfl]) (by decide)
  | false =>
  rw [if_neg (by decide)]
  obtain ⟨T, fr, hc⟩ := (hs1.ch hr).cell
  simp only [nilc_some, fad_mk, pik_true, pik_false, cnd_true, cnd_false, gif_same, gif_tf, gif_ft, gif_undef, bi_add, bi_sub, bi_mul, bi_eql, bi_neq, bi_lss, bi_leq, bi_gtr, bi_geq, notB_bool, cvi_int, lenS_mk, lenT_mk, ext0, ext1, ext2, nilP_mk, nilS_mk, fldv_agg, jn0_k, jn1_k, jn2_k, jn1_and, jn1_or, ex_some, Option.isNone_some, Option.isNone_none, Bool.false_bne, Bool.bne_true, Bool.bne_false, Bool.true_bne, Bool.not_true, Bool.not_false, Bool.and_true, Bool.true_and, Bool.and_false, Bool.false_and, Bool.or_true, Bool.true_or, Bool.or_false, Bool.false_or, cond_true, cond_false, List.getElem?_toArray, List.getElem?_cons_zero, List.getElem?_cons_succ, Nat.zero_add, Nat.add_zero, Nat.reduceAdd, forall_const, show ((0 : Int) != 0) = false from rfl, L_chain_Chain hc, L_chain_Chain__in hc, L_chain_Chain__l hc, L_chain_Chain__ids hc, L_chain_Chain__at hc, L_chain_Chain__over hc, (hs1.ch hr).bw.len]
  rw [cnd_bool]
  refine ⟨fun h => ?_, fun h => ?_⟩
  · have h : n < 0 ∨ (B.length : Int) ≤ n := by simpa using h
    exact bad 4 (by unfold atE; rw [if_neg (by decide), if_pos (by rw [hl]; exact h)]) (by decide)
  have h : ¬ (n < 0 ∨ (B.length : Int) ≤ n) := by simpa using h
  obtain ⟨i, rfl⟩ : ∃ i : Nat, n = i := ⟨n.toNat, by omega⟩
  have hi : i < B.length := by omega
  obtain ⟨y, hy⟩ : ∃ y, B[i]? = some y := ⟨_, List.getElem?_eq_getElem hi⟩
  have hy2 : (blks B)[i]? = some y.1 := by rw [List.getElem?_map, hy]; rfl
  refine BRows.ld (hs1.ch hr).bw hy .i64 ?_
  refine cal_i (bkClone_spec (b := y.1) (v := y.2) ((hs1.ch hr).bw.2 y (List.mem_of_getElem? hy)) (by have := hdl y (List.mem_of_getElem? hy); omega)) ?_
  rintro _ w2 ⟨vd, rfl, hs2⟩
  replace hs2 := hs1.join hs2
  refine St_api_Block (b := (y.1.p, y.1.h, vd)) hs2.p1 (one_api_Block (Sep.one hs2)) fun w3 hs3 => ?_
  simp only [L_api_Block hs3.blk, L_api_Block__Parent hs3.blk, L_api_Block__Height hs3.blk, L_api_Block__Data hs3.blk]
  refine hR _ _ ⟨vd, by rw [atB_ok hy2, atE_ok (by rw [hl]; exact hi)], ?_⟩
  rw [atB_ok hy2]
  exact Sep.pick hs3 [1] 2
/-- A row's block, read in a region that draws. -/
theorem rdS_nmB {S : World → Prop} {w : World} {v : Value} {N : List BV} {j : Nat} {a : BV} {K : Value → Prop} (hw : S w) (hS : ∀ u, S u → Rows' Q_flurrylaw10_named u.heap v (N.map nmd)) (hj : N[j]? = some a) (k : IntKind) (h : K (bq a.1 a.2)) :
    ixs 66 v (.int k (j : Int)) fun t => fad 32 t fun t' => rdS S (fun w => ldN 34 t' w.heap) K := by
  have hj' : (N.map nmd)[j]? = some (nmd a) := by rw [List.getElem?_map, hj]; rfl
  obtain ⟨g, o, c, rfl⟩ := (hS w hw).form (by decide) hj'
  have hlt := (List.getElem?_eq_some_iff.1 hj').1
  rw [show (66 : Nat) = (Q_flurrylaw10_named).size from rfl, ixs_mk _ _ _ _ _ _ _ _ (by omega) (by omega), Int.toNat_natCast]
  simp only [nilc_some, fad_mk, pik_true, pik_false, cnd_true, cnd_false, gif_same, gif_tf, gif_ft, gif_undef, bi_add, bi_sub, bi_mul, bi_eql, bi_neq, bi_lss, bi_leq, bi_gtr, bi_geq, notB_bool, cvi_int, lenS_mk, lenT_mk, ext0, ext1, ext2, nilP_mk, nilS_mk, fldv_agg, jn0_k, jn1_k, jn2_k, jn1_and, jn1_or, ex_some, Option.isNone_some, Option.isNone_none, Bool.false_bne, Bool.bne_true, Bool.bne_false, Bool.true_bne, Bool.not_true, Bool.not_false, Bool.and_true, Bool.true_and, Bool.and_false, Bool.false_and, Bool.or_true, Bool.true_or, Bool.or_false, Bool.false_or, cond_true, cond_false, List.getElem?_toArray, List.getElem?_cons_zero, List.getElem?_cons_succ, Nat.zero_add, Nat.add_zero, Nat.reduceAdd, forall_const]
  refine ⟨bq a.1 a.2, fun z hz => ?_, h⟩
  exact (LA_flurrylaw10_named__b (At.of (by decide) (hS z hz) hj') _).mpr rfl
theorem rdS_nmI {S : World → Prop} {w : World} {v : Value} {N : List BV} {j : Nat} {a : BV} {K : Value → Prop} (hw : S w) (hS : ∀ u, S u → Rows' Q_flurrylaw10_named u.heap v (N.map nmd)) (hj : N[j]? = some a) (k : IntKind) (h : K (kv a.1.id)) :
    ixs 66 v (.int k (j : Int)) fun t => fad 0 t fun t' => rdS S (fun w => ldN 32 t' w.heap) K := by
  have hj' : (N.map nmd)[j]? = some (nmd a) := by rw [List.getElem?_map, hj]; rfl
  obtain ⟨g, o, c, rfl⟩ := (hS w hw).form (by decide) hj'
  have hlt := (List.getElem?_eq_some_iff.1 hj').1
  rw [show (66 : Nat) = (Q_flurrylaw10_named).size from rfl, ixs_mk _ _ _ _ _ _ _ _ (by omega) (by omega), Int.toNat_natCast]
  simp only [nilc_some, fad_mk, pik_true, pik_false, cnd_true, cnd_false, gif_same, gif_tf, gif_ft, gif_undef, bi_add, bi_sub, bi_mul, bi_eql, bi_neq, bi_lss, bi_leq, bi_gtr, bi_geq, notB_bool, cvi_int, lenS_mk, lenT_mk, ext0, ext1, ext2, nilP_mk, nilS_mk, fldv_agg, jn0_k, jn1_k, jn2_k, jn1_and, jn1_or, ex_some, Option.isNone_some, Option.isNone_none, Bool.false_bne, Bool.bne_true, Bool.bne_false, Bool.true_bne, Bool.not_true, Bool.not_false, Bool.and_true, Bool.true_and, Bool.and_false, Bool.false_and, Bool.or_true, Bool.true_or, Bool.or_false, Bool.false_or, cond_true, cond_false, List.getElem?_toArray, List.getElem?_cons_zero, List.getElem?_cons_succ, Nat.zero_add, Nat.add_zero, Nat.reduceAdd, forall_const]
  refine ⟨kv a.1.id, fun z hz => ?_, h⟩
  exact (LA_flurrylaw10_named__id (At.of (by decide) (hS z hz) hj') _).mpr rfl
end
/-- The heights are the places. -/
theorem linked_h : ∀ {a : Blk} {W : List Blk} {i : Nat} {b : Blk}, linked a W → (a :: W)[i]? = some b → b.h = a.h + i
  | a, W, 0, b, _, h => by
    simp only [List.getElem?_cons_zero, Option.some.injEq] at h
    rw [h]; simp
  | a, [], i + 1, b, _, h => by simp at h
  | a, c :: W, i + 1, b, hl, h => by
    have h1 := linked_h (i := i) hl.2 (by simpa using h)
    rw [h1, (link_chk hl.1).2.2.2]
    omega
theorem linked_at : ∀ {a : Blk} {W : List Blk} {i : Nat} {b c : Blk}, linked a W → (a :: W)[i]? = some b → (a :: W)[i + 1]? = some c → c.link b = 0
  | a, [], i, b, c, _, _, h => by simp at h
  | a, d :: W, 0, b, c, hl, hb, hc => by
    simp only [List.getElem?_cons_zero, List.getElem?_cons_succ, Option.some.injEq] at hb hc
    rw [← hb, ← hc]
    exact hl.1
  | a, d :: W, i + 1, b, c, hl, hb, hc => linked_at (i := i) hl.2 (by simpa using hb) (by simpa using hc)
end Go.Fx
set_option linter.unusedVariables false
set_option linter.unusedSimpArgs false
namespace Go.Fx
/-- A chain that no call made. -/
def NC (p : Value) (w : World) : Prop := p.oneCell' = true ∧ ∀ z, Fr [] w z → cal P f_chain_Chain_none [p] z fun r w' => r = .bool true ∧ z = w'
theorem ldVq {w : World} {v : Value} {l : List Value} {j : Nat} {a : Value} (hr : Rows' qv w.heap v l) (hj : l[j]? = some a) (k : IntKind) {K : Value → Prop} (h : K a) : ixs 1 v (.int k (j : Int)) fun t => Go.Fx.ld1 t w.heap K := by
  obtain ⟨g, o, c, rfl⟩ := hr.form (by decide) hj
  have hlt := (List.getElem?_eq_some_iff.1 hj).1
  rw [ixs_mk _ _ _ _ _ _ _ _ (by omega) (by omega), Int.toNat_natCast]
  have hat := At.of (q := qv) (by decide) hr hj
  exact (Fld.ld1A (r := qv) Fld.self hat K).mpr h
section
variable {w0 w w' : World} {As : List Asn} {p : Value}
theorem NC.fr (h : NC p w) (hf : Fr [] w w') : NC p w' := ⟨h.1, fun z hz => h.2 z (hf.trans hz (by simp) (by simp))⟩
theorem NC.nil (w : World) : NC (.pointer none) w := ⟨rfl, fun z _ => by
  refine s_chain_Chain_none fun R hR => ?_
  unfold c_chain_Chain_none
  simp only [nilc_some, fad_mk, pik_true, pik_false, cnd_true, cnd_false, gif_same, gif_tf, gif_ft, gif_undef, bi_add, bi_sub, bi_mul, bi_eql, bi_neq, bi_lss, bi_leq, bi_gtr, bi_geq, notB_bool, cvi_int, lenS_mk, lenT_mk, ext0, ext1, ext2, nilP_mk, nilS_mk, fldv_agg, jn0_k, jn1_k, jn2_k, jn1_and, jn1_or, ex_some, Option.isNone_some, Option.isNone_none, Bool.false_bne, Bool.bne_true, Bool.bne_false, Bool.true_bne, Bool.not_true, Bool.not_false, Bool.and_true, Bool.true_and, Bool.and_false, Bool.false_and, Bool.or_true, Bool.true_or, Bool.or_false, Bool.false_or, cond_true, cond_false, List.getElem?_toArray, List.getElem?_cons_zero, List.getElem?_cons_succ, Nat.zero_add, Nat.add_zero, Nat.reduceAdd, forall_const, Option.isNone_none]
  exact hR _ _ ⟨rfl, rfl⟩⟩
theorem NC.zero {g : Nat} {b1 b2 b3 : Value} {b4 : Bool} (hs : Sep w0 w (blk g (Rdr.cells Q_chain_Chain (.pointer none, b1, b2, b3, b4)).toArray T_chain_Chain :: As)) : NC (.pointer (some ⟨g, 0, none⟩)) w := ⟨rfl, fun z hz => by
  refine s_chain_Chain_none fun R hR => ?_
  unfold c_chain_Chain_none
  simp only [nilc_some, fad_mk, pik_true, pik_false, cnd_true, cnd_false, gif_same, gif_tf, gif_ft, gif_undef, bi_add, bi_sub, bi_mul, bi_eql, bi_neq, bi_lss, bi_leq, bi_gtr, bi_geq, notB_bool, cvi_int, lenS_mk, lenT_mk, ext0, ext1, ext2, nilP_mk, nilS_mk, fldv_agg, jn0_k, jn1_k, jn2_k, jn1_and, jn1_or, ex_some, Option.isNone_some, Option.isNone_none, Bool.false_bne, Bool.bne_true, Bool.bne_false, Bool.true_bne, Bool.not_true, Bool.not_false, Bool.and_true, Bool.true_and, Bool.and_false, Bool.false_and, Bool.or_true, Bool.true_or, Bool.or_false, Bool.false_or, cond_true, cond_false, List.getElem?_toArray, List.getElem?_cons_zero, List.getElem?_cons_succ, Nat.zero_add, Nat.add_zero, Nat.reduceAdd, forall_const, Option.isNone_some, Option.isNone_none, L_chain_Chain (Sep.blk (hs.old hz)), L_chain_Chain__in (Sep.blk (hs.old hz)), L_chain_Chain__l (Sep.blk (hs.old hz)), L_chain_Chain__ids (Sep.blk (hs.old hz)), L_chain_Chain__at (Sep.blk (hs.old hz)), L_chain_Chain__over (Sep.blk (hs.old hz))]
  exact hR _ _ ⟨rfl, rfl⟩⟩
variable (hp : NC p w)
include hp
theorem ncMay : cal P f_chain_Chain_may [p] w fun r w' => r = .int .i64 2 ∧ w = w' := by
  refine s_chain_Chain_may fun R hR => ?_
  unfold c_chain_Chain_may
  refine cal_i (hp.2 _ (Fr.refl _ _)) ?_
  rintro _ _ ⟨rfl, rfl⟩
  simp only [nilc_some, fad_mk, pik_true, pik_false, cnd_true, cnd_false, gif_same, gif_tf, gif_ft, gif_undef, bi_add, bi_sub, bi_mul, bi_eql, bi_neq, bi_lss, bi_leq, bi_gtr, bi_geq, notB_bool, cvi_int, lenS_mk, lenT_mk, ext0, ext1, ext2, nilP_mk, nilS_mk, fldv_agg, jn0_k, jn1_k, jn2_k, jn1_and, jn1_or, ex_some, Option.isNone_some, Option.isNone_none, Bool.false_bne, Bool.bne_true, Bool.bne_false, Bool.true_bne, Bool.not_true, Bool.not_false, Bool.and_true, Bool.true_and, Bool.and_false, Bool.false_and, Bool.or_true, Bool.true_or, Bool.or_false, Bool.false_or, cond_true, cond_false, List.getElem?_toArray, List.getElem?_cons_zero, List.getElem?_cons_succ, Nat.zero_add, Nat.add_zero, Nat.reduceAdd, forall_const]
  exact hR _ _ ⟨rfl, rfl⟩
theorem ncAt (n : Int) : cal P f_chain_Chain_At [p, .int .i64 n] w fun r w' => r = .tuple #[bq Blk.none (.slice none 0 0), .int .i64 2] ∧ Fr [] w w' := by
  refine s_chain_Chain_At fun R hR => ?_
  unfold c_chain_Chain_At
  refine alloc_s (Sep.start w) (A_api_Block w) fun g4 w2 hs2 => ?_
  refine cal_i (ncMay (hp.fr hs2.fr0)) ?_
  rintro _ _ ⟨rfl, rfl⟩
  simp only [nilc_some, fad_mk, pik_true, pik_false, cnd_true, cnd_false, gif_same, gif_tf, gif_ft, gif_undef, bi_add, bi_sub, bi_mul, bi_eql, bi_neq, bi_lss, bi_leq, bi_gtr, bi_geq, notB_bool, cvi_int, lenS_mk, lenT_mk, ext0, ext1, ext2, nilP_mk, nilS_mk, fldv_agg, jn0_k, jn1_k, jn2_k, jn1_and, jn1_or, ex_some, Option.isNone_some, Option.isNone_none, Bool.false_bne, Bool.bne_true, Bool.bne_false, Bool.true_bne, Bool.not_true, Bool.not_false, Bool.and_true, Bool.true_and, Bool.and_false, Bool.false_and, Bool.or_true, Bool.true_or, Bool.or_false, Bool.false_or, cond_true, cond_false, List.getElem?_toArray, List.getElem?_cons_zero, List.getElem?_cons_succ, Nat.zero_add, Nat.add_zero, Nat.reduceAdd, forall_const, show ((2 : Int) != 0) = true from rfl]
  rw [B_none]
  refine St_api_Block (b := (Blk.none.p, Blk.none.h, .slice none 0 0)) hs2 (one_api_Block rfl) fun w3 hs3 => ?_
  simp only [L_api_Block hs3.blk, L_api_Block__Parent hs3.blk, L_api_Block__Height hs3.blk, L_api_Block__Data hs3.blk]
  exact hR _ _ ⟨rfl, hs3.fr0⟩
theorem ncGet (k : Vec 32) : cal P f_chain_Chain_Get [p, kv k] w fun r w' => r = .tuple #[bq Blk.none (.slice none 0 0), .int .i64 2] ∧ Fr [] w w' := by
  refine s_chain_Chain_Get fun R hR => ?_
  unfold c_chain_Chain_Get
  refine bxQ (Sep.start w) fun g3 w1 hs1 => ?_
  refine alloc_s hs1 (A_api_Block w1) fun g4 w2 hs2 => ?_
  refine cal_i (ncMay (hp.fr hs2.fr0)) ?_
  rintro _ _ ⟨rfl, rfl⟩
  simp only [nilc_some, fad_mk, pik_true, pik_false, cnd_true, cnd_false, gif_same, gif_tf, gif_ft, gif_undef, bi_add, bi_sub, bi_mul, bi_eql, bi_neq, bi_lss, bi_leq, bi_gtr, bi_geq, notB_bool, cvi_int, lenS_mk, lenT_mk, ext0, ext1, ext2, nilP_mk, nilS_mk, fldv_agg, jn0_k, jn1_k, jn2_k, jn1_and, jn1_or, ex_some, Option.isNone_some, Option.isNone_none, Bool.false_bne, Bool.bne_true, Bool.bne_false, Bool.true_bne, Bool.not_true, Bool.not_false, Bool.and_true, Bool.true_and, Bool.and_false, Bool.false_and, Bool.or_true, Bool.true_or, Bool.or_false, Bool.false_or, cond_true, cond_false, List.getElem?_toArray, List.getElem?_cons_zero, List.getElem?_cons_succ, Nat.zero_add, Nat.add_zero, Nat.reduceAdd, forall_const, show ((2 : Int) != 0) = true from rfl]
  rw [B_none]
  refine St_api_Block (b := (Blk.none.p, Blk.none.h, .slice none 0 0)) hs2 (one_api_Block rfl) fun w3 hs3 => ?_
  simp only [L_api_Block hs3.blk, L_api_Block__Parent hs3.blk, L_api_Block__Height hs3.blk, L_api_Block__Data hs3.blk]
  exact hR _ _ ⟨rfl, hs3.fr0⟩
theorem ncAnc (k : Vec 32) (n : Int) : cal P f_chain_Chain_Ancestors [p, kv k, .int .i64 n] w fun r w' => r = .tuple #[.slice none 0 0, .int .i64 2] ∧ Fr [] w w' := by
  refine s_chain_Chain_Ancestors fun R hR => ?_
  unfold c_chain_Chain_Ancestors
  refine bxQ (Sep.start w) fun g3 w1 hs1 => ?_
  refine cal_i (ncMay (hp.fr hs1.fr0)) ?_
  rintro _ _ ⟨rfl, rfl⟩
  simp only [nilc_some, fad_mk, pik_true, pik_false, cnd_true, cnd_false, gif_same, gif_tf, gif_ft, gif_undef, bi_add, bi_sub, bi_mul, bi_eql, bi_neq, bi_lss, bi_leq, bi_gtr, bi_geq, notB_bool, cvi_int, lenS_mk, lenT_mk, ext0, ext1, ext2, nilP_mk, nilS_mk, fldv_agg, jn0_k, jn1_k, jn2_k, jn1_and, jn1_or, ex_some, Option.isNone_some, Option.isNone_none, Bool.false_bne, Bool.bne_true, Bool.bne_false, Bool.true_bne, Bool.not_true, Bool.not_false, Bool.and_true, Bool.true_and, Bool.and_false, Bool.false_and, Bool.or_true, Bool.true_or, Bool.or_false, Bool.false_or, cond_true, cond_false, List.getElem?_toArray, List.getElem?_cons_zero, List.getElem?_cons_succ, Nat.zero_add, Nat.add_zero, Nat.reduceAdd, forall_const, show ((2 : Int) != 0) = true from rfl]
  exact hR _ _ ⟨rfl, hs1.fr0⟩
theorem ncLast : cal P f_chain_Chain_Last [p] w fun r w' => r = .tuple #[kv (vz 32), .int .i64 0] ∧ Fr [] w w' := by
  refine s_chain_Chain_Last fun R hR => ?_
  unfold c_chain_Chain_Last
  refine alloc_s (Sep.start w) (A_api_ID w) fun g4 w2 hs2 => ?_
  refine cal_i (hp.2 _ hs2.fr0) ?_
  rintro _ _ ⟨rfl, rfl⟩
  simp only [nilc_some, fad_mk, pik_true, pik_false, cnd_true, cnd_false, gif_same, gif_tf, gif_ft, gif_undef, bi_add, bi_sub, bi_mul, bi_eql, bi_neq, bi_lss, bi_leq, bi_gtr, bi_geq, notB_bool, cvi_int, lenS_mk, lenT_mk, ext0, ext1, ext2, nilP_mk, nilS_mk, fldv_agg, jn0_k, jn1_k, jn2_k, jn1_and, jn1_or, ex_some, Option.isNone_some, Option.isNone_none, Bool.false_bne, Bool.bne_true, Bool.bne_false, Bool.true_bne, Bool.not_true, Bool.not_false, Bool.and_true, Bool.true_and, Bool.and_false, Bool.false_and, Bool.or_true, Bool.true_or, Bool.or_false, Bool.false_or, cond_true, cond_false, List.getElem?_toArray, List.getElem?_cons_zero, List.getElem?_cons_succ, Nat.zero_add, Nat.add_zero, Nat.reduceAdd, forall_const]
  rw [B_ID0]
  refine St_api_ID hs2 fun w3 hs3 => ?_
  simp only [L_api_ID hs3.blk]
  exact hR _ _ ⟨rfl, hs3.fr0⟩
theorem ncAccept (b : Blk) (v : Value) : cal P f_chain_Chain_Accept [p, bq b v] w fun r w' => r = .int .i64 2 ∧ Fr [] w w' := by
  refine s_chain_Chain_Accept fun R hR => ?_
  unfold c_chain_Chain_Accept
  refine bxQ (Sep.start w) fun g3 w1 hs1 => ?_
  refine cal_i (ncMay (hp.fr hs1.fr0)) ?_
  rintro _ _ ⟨rfl, rfl⟩
  simp only [nilc_some, fad_mk, pik_true, pik_false, cnd_true, cnd_false, gif_same, gif_tf, gif_ft, gif_undef, bi_add, bi_sub, bi_mul, bi_eql, bi_neq, bi_lss, bi_leq, bi_gtr, bi_geq, notB_bool, cvi_int, lenS_mk, lenT_mk, ext0, ext1, ext2, nilP_mk, nilS_mk, fldv_agg, jn0_k, jn1_k, jn2_k, jn1_and, jn1_or, ex_some, Option.isNone_some, Option.isNone_none, Bool.false_bne, Bool.bne_true, Bool.bne_false, Bool.true_bne, Bool.not_true, Bool.not_false, Bool.and_true, Bool.true_and, Bool.and_false, Bool.false_and, Bool.or_true, Bool.true_or, Bool.or_false, Bool.false_or, cond_true, cond_false, List.getElem?_toArray, List.getElem?_cons_zero, List.getElem?_cons_succ, Nat.zero_add, Nat.add_zero, Nat.reduceAdd, forall_const, show ((2 : Int) != 0) = true from rfl]
  exact hR _ _ ⟨rfl, hs1.fr0⟩
theorem ncHas (k : Vec 32) : cal P f_chain_Chain_Has [p, kv k] w fun r w' => r = .bool false ∧ Fr [] w w' := by
  refine s_chain_Chain_Has fun R hR => ?_
  unfold c_chain_Chain_Has
  refine bxQ (Sep.start w) fun g3 w1 hs1 => ?_
  refine cal_i (hp.2 _ hs1.fr0) ?_
  rintro _ _ ⟨rfl, rfl⟩
  simp only [nilc_some, fad_mk, pik_true, pik_false, cnd_true, cnd_false, gif_same, gif_tf, gif_ft, gif_undef, bi_add, bi_sub, bi_mul, bi_eql, bi_neq, bi_lss, bi_leq, bi_gtr, bi_geq, notB_bool, cvi_int, lenS_mk, lenT_mk, ext0, ext1, ext2, nilP_mk, nilS_mk, fldv_agg, jn0_k, jn1_k, jn2_k, jn1_and, jn1_or, ex_some, Option.isNone_some, Option.isNone_none, Bool.false_bne, Bool.bne_true, Bool.bne_false, Bool.true_bne, Bool.not_true, Bool.not_false, Bool.and_true, Bool.true_and, Bool.and_false, Bool.false_and, Bool.or_true, Bool.true_or, Bool.or_false, Bool.false_or, cond_true, cond_false, List.getElem?_toArray, List.getElem?_cons_zero, List.getElem?_cons_succ, Nat.zero_add, Nat.add_zero, Nat.reduceAdd, forall_const]
  exact hR _ _ ⟨rfl, hs1.fr0⟩
theorem ncTape : cal P f_chain_Chain_Tape [p] w fun r w' => r = .pointer none ∧ w = w' := by
  refine s_chain_Chain_Tape fun R hR => ?_
  unfold c_chain_Chain_Tape
  refine cal_i (hp.2 _ (Fr.refl _ _)) ?_
  rintro _ _ ⟨rfl, rfl⟩
  simp only [nilc_some, fad_mk, pik_true, pik_false, cnd_true, cnd_false, gif_same, gif_tf, gif_ft, gif_undef, bi_add, bi_sub, bi_mul, bi_eql, bi_neq, bi_lss, bi_leq, bi_gtr, bi_geq, notB_bool, cvi_int, lenS_mk, lenT_mk, ext0, ext1, ext2, nilP_mk, nilS_mk, fldv_agg, jn0_k, jn1_k, jn2_k, jn1_and, jn1_or, ex_some, Option.isNone_some, Option.isNone_none, Bool.false_bne, Bool.bne_true, Bool.bne_false, Bool.true_bne, Bool.not_true, Bool.not_false, Bool.and_true, Bool.true_and, Bool.and_false, Bool.false_and, Bool.or_true, Bool.true_or, Bool.or_false, Bool.false_or, cond_true, cond_false, List.getElem?_toArray, List.getElem?_cons_zero, List.getElem?_cons_succ, Nat.zero_add, Nat.add_zero, Nat.reduceAdd, forall_const]
  exact hR _ _ ⟨rfl, rfl⟩
theorem ncBlock : cal P f_chain_Chain_Block [p] w fun r w' => r = bq Blk.none (.slice none 0 0) ∧ Fr [] w w' := by
  refine s_chain_Chain_Block fun R hR => ?_
  unfold c_chain_Chain_Block
  refine alloc_s (Sep.start w) (A_api_Block w) fun g2 w1 hs1 => ?_
  refine cal_i (hp.2 _ hs1.fr0) ?_
  rintro _ _ ⟨rfl, rfl⟩
  simp only [nilc_some, fad_mk, pik_true, pik_false, cnd_true, cnd_false, gif_same, gif_tf, gif_ft, gif_undef, bi_add, bi_sub, bi_mul, bi_eql, bi_neq, bi_lss, bi_leq, bi_gtr, bi_geq, notB_bool, cvi_int, lenS_mk, lenT_mk, ext0, ext1, ext2, nilP_mk, nilS_mk, fldv_agg, jn0_k, jn1_k, jn2_k, jn1_and, jn1_or, ex_some, Option.isNone_some, Option.isNone_none, Bool.false_bne, Bool.bne_true, Bool.bne_false, Bool.true_bne, Bool.not_true, Bool.not_false, Bool.and_true, Bool.true_and, Bool.and_false, Bool.false_and, Bool.or_true, Bool.true_or, Bool.or_false, Bool.false_or, cond_true, cond_false, List.getElem?_toArray, List.getElem?_cons_zero, List.getElem?_cons_succ, Nat.zero_add, Nat.add_zero, Nat.reduceAdd, forall_const]
  rw [B_none]
  refine St_api_Block (b := (Blk.none.p, Blk.none.h, .slice none 0 0)) hs1 (one_api_Block rfl) fun w3 hs3 => ?_
  simp only [L_api_Block hs3.blk, L_api_Block__Parent hs3.blk, L_api_Block__Height hs3.blk, L_api_Block__Data hs3.blk]
  exact hR _ _ ⟨rfl, hs3.fr0⟩
theorem ncAll : cal P f_chain_Chain_All [p] w fun r w' => ∃ (g3 g4 : Nat) (u y : Value), r = .func (.func f_chain_Chain_All_1) #[] #[.pointer (some ⟨g3, 0, none⟩), .pointer (some ⟨g4, 0, none⟩)] ∧
    Sep w w' [blk g3 #[u] T_sl_api_Block, blk g4 #[y] T_sl_api_ID, rows Q_api_Block u (([] : List BV).map BV.t), rows (rVec 32) y (([] : List BV).map (·.1.id))] := by
  refine s_chain_Chain_All fun R hR => ?_
  unfold c_chain_Chain_All
  refine alloc_s (Sep.start w) (al_slB w) fun g3 w1 hs1 => ?_
  refine alloc_s hs1 (al_slI w1) fun g4 w2 hs2 => ?_
  refine ⟨fun z => Sep w z [blk g4 #[.slice none 0 0] T_sl_api_ID, blk g3 #[.slice none 0 0] T_sl_api_Block], ?_, fun z hz _ => hR _ _ ⟨g3, g4, _, _, rfl, Sep.pick (Sep.nilR (q := rVec 32) (Sep.nilR (q := Q_api_Block) hz)) [3, 2, 1, 0] 4⟩⟩
  refine cal_i (hp.2 _ hs2.fr0) ?_
  rintro _ _ ⟨rfl, rfl⟩
  simp only [nilc_some, fad_mk, pik_true, pik_false, cnd_true, cnd_false, gif_same, gif_tf, gif_ft, gif_undef, bi_add, bi_sub, bi_mul, bi_eql, bi_neq, bi_lss, bi_leq, bi_gtr, bi_geq, notB_bool, cvi_int, lenS_mk, lenT_mk, ext0, ext1, ext2, nilP_mk, nilS_mk, fldv_agg, jn0_k, jn1_k, jn2_k, jn1_and, jn1_or, ex_some, Option.isNone_some, Option.isNone_none, Bool.false_bne, Bool.bne_true, Bool.bne_false, Bool.true_bne, Bool.not_true, Bool.not_false, Bool.and_true, Bool.true_and, Bool.and_false, Bool.false_and, Bool.or_true, Bool.true_or, Bool.or_false, Bool.false_or, cond_true, cond_false, List.getElem?_toArray, List.getElem?_cons_zero, List.getElem?_cons_succ, Nat.zero_add, Nat.add_zero, Nat.reduceAdd, forall_const]
  exact hs2
theorem ncTold {most : Nat} (hm : most ≤ 2000000) : cal P f_law10_told [p, .int .i64 most] w fun r w' => (∀ K, lenS r K = K (.int .i64 ((0 : Nat) : Int))) ∧ Fr [] w w' := by
  refine cal_i (told10_gen (B := []) (fun z hz => ncAll (hp.fr hz)) (fun x hx => by cases hx) (by simp) (fun x hx => by cases hx) hm) ?_
  rintro r w1 ⟨N, E, hN, _, hs⟩
  have hN0 : N = [] := by
    have := congrArg List.length hN
    simp only [List.length_map, List.map_nil, List.take_nil, List.length_nil] at this
    exact List.eq_nil_of_length_eq_zero this
  subst hN0
  exact ⟨fun K => (Sep.rows hs).len K, hs.fr0⟩
end
section
variable {w : World}
theorem wChainNone {x : Vec 32 × Int × Sl UInt8} {k : Vec 32} {n : Int} (hc : Cub w) (hx : Rdr.ok R_api_Block w.heap x) : cal P f_law10_ChainNone [.agg (Rdr.cells R_api_Block x).toArray, kv k, .int .i64 n] w fun r w' => r = .bool true ∧ Fr [] w w' := by
  obtain ⟨b, hbb⟩ : ∃ a, a = ab x := ⟨_, rfl⟩
  have hb := ab_rd hx
  have hbh := ab_h hx
  have hbl := ab_len hx
  rw [← hbb] at hb hbh hbl
  have ea : Value.agg (Rdr.cells R_api_Block x).toArray = bq b x.2.2.v := by rw [hbb]; rfl
  rw [ea]
  generalize x.2.2.v = y at *
  clear ea hbb hx
  refine s_law10_ChainNone fun R hR => ?_
  unfold c_law10_ChainNone
  refine bxQ (Sep.start w) fun g2 w1 hs1 => ?_
  refine bxQ hs1 fun g3 w2 hs2 => ?_
  have lv : ∀ {z : World}, Fr [] w z → cal P f_law10_begun [] z R := fun {z} hf => cal_i (begun10_spec (hc.fr hf)) fun r w' hr => hR _ _ ⟨hr.1, hf.trans hr.2 (by simp) (by simp)⟩
  refine cal_i (begun10_spec (hc.fr hs2.fr0)) ?_
  rintro _ w3 ⟨rfl, hf3⟩
  have hs3 := hs2.old hf3
  have l1 : ∀ K, lenS (b.p, b.h, y).2.2 K = K (.int .i64 b.d.length) := hb.len
  simp only [nilc_some, fad_mk, pik_true, pik_false, cnd_true, cnd_false, gif_same, gif_tf, gif_ft, gif_undef, bi_add, bi_sub, bi_mul, bi_eql, bi_neq, bi_lss, bi_leq, bi_gtr, bi_geq, notB_bool, cvi_int, lenS_mk, lenT_mk, ext0, ext1, ext2, nilP_mk, nilS_mk, fldv_agg, jn0_k, jn1_k, jn2_k, jn1_and, jn1_or, ex_some, Option.isNone_some, Option.isNone_none, Bool.false_bne, Bool.bne_true, Bool.bne_false, Bool.true_bne, Bool.not_true, Bool.not_false, Bool.and_true, Bool.true_and, Bool.and_false, Bool.false_and, Bool.or_true, Bool.true_or, Bool.or_false, Bool.false_or, cond_true, cond_false, List.getElem?_toArray, List.getElem?_cons_zero, List.getElem?_cons_succ, Nat.zero_add, Nat.add_zero, Nat.reduceAdd, forall_const, L_api_Block (Sep.p1 hs3).blk, L_api_Block__Parent (Sep.p1 hs3).blk, L_api_Block__Height (Sep.p1 hs3).blk, L_api_Block__Data (Sep.p1 hs3).blk, l1]
  rw [cnd_bool]
  refine ⟨fun h => lv hs3.fr0, fun h => ?_⟩
  clear h lv
  rw [B_chain_Chain]
  refine bxQ hs3 fun g25 w4 hs4 => ?_
  refine rows_lit (q := qv) hs4 S_sl_p_chain_Chain (l := [.pointer none, .pointer (some ⟨g25, 0, none⟩)]) (V := fun a => if a.oneCell' then a else .agg #[a]) (fun a => by
    by_cases h : a.oneCell' = true
    · rw [if_pos h]; cases a <;> simp_all [Value.cells, Value.oneCell', qv]
    · rw [if_neg h]; rfl) rfl rfl (by decide) (by decide) fun g26 w5 hs5 => ?_
  obtain ⟨L, hL⟩ : ∃ L, L = [rows qv (.slice (some ⟨g26, 0, none⟩) 2 2) [.pointer none, .pointer (some ⟨g25, 0, none⟩)], blk g25 (Rdr.cells Q_chain_Chain (.pointer none, .slice none 0 0, .slice none 0 0, .map none, false)).toArray T_chain_Chain, blk g3 (Rdr.cells (rVec 32) k).toArray T_api_ID, blk g2 (Rdr.cells Q_api_Block (b.p, b.h, y)).toArray T_api_Block] := ⟨_, rfl⟩
  replace hs5 : Sep w w5 L := by rw [hL]; exact hs5
  have hnt : ∀ {z : World}, Sep w z L → ∀ (i : Nat) a, ([.pointer none, .pointer (some ⟨g25, 0, none⟩)] : List Value)[i]? = some a → NC a z := fun {z} hz i a ha => by
    rw [hL] at hz
    match i, ha with
    | 0, ha => cases ha; exact NC.nil z
    | 1, ha => cases ha; exact NC.zero hz.p1
  have frw : ∀ {z : World}, Sep w z L → Rows' qv z.heap (.slice (some ⟨g26, 0, none⟩) 2 2) [.pointer none, .pointer (some ⟨g25, 0, none⟩)] := fun {z} hz => by
    rw [hL] at hz
    exact Sep.rows hz
  have f3 : ∀ {z : World}, Sep w z L → ∀ K, ldN 32 (.pointer (some ⟨g3, 0, none⟩)) z.heap K = K (kv k) := fun {z} hz K => by
    rw [hL] at hz
    exact L_api_ID (Sep.blk hz.p2) K
  have f2 : ∀ {z : World}, Sep w z L → ∀ K, ldN 34 (.pointer (some ⟨g2, 0, none⟩)) z.heap K = K (bq b y) := fun {z} hz K => by
    rw [hL] at hz
    exact L_api_Block (Sep.blk hz.p3) K
  clear hL hs4 hs3 hs2 hs1
  have hlen : ∀ K, lenS (.slice (some ⟨g26, 0, none⟩) 2 2) K = K (.int .i64 ((2 : Nat) : Int)) := fun K => (frw hs5).len K
  rw [hlen]
  refine ⟨fun y z => ∃ i : Nat, y = .int .i64 i ∧ i ≤ 2 ∧ Sep w z L, fun y _ => (2 - RowKit.intOf y).toNat, ⟨0, rfl, by omega, hs5⟩, ?_⟩
  rintro _ w6 ⟨i, rfl, hi, hs6⟩ -
  simp only [nilc_some, fad_mk, pik_true, pik_false, cnd_true, cnd_false, gif_same, gif_tf, gif_ft, gif_undef, bi_add, bi_sub, bi_mul, bi_eql, bi_neq, bi_lss, bi_leq, bi_gtr, bi_geq, notB_bool, cvi_int, lenS_mk, lenT_mk, ext0, ext1, ext2, nilP_mk, nilS_mk, fldv_agg, jn0_k, jn1_k, jn2_k, jn1_and, jn1_or, ex_some, Option.isNone_some, Option.isNone_none, Bool.false_bne, Bool.bne_true, Bool.bne_false, Bool.true_bne, Bool.not_true, Bool.not_false, Bool.and_true, Bool.true_and, Bool.and_false, Bool.false_and, Bool.or_true, Bool.true_or, Bool.or_false, Bool.false_or, cond_true, cond_false, List.getElem?_toArray, List.getElem?_cons_zero, List.getElem?_cons_succ, Nat.zero_add, Nat.add_zero, Nat.reduceAdd, forall_const]
  rw [cnd_bool]
  refine ⟨fun h => ?_, fun h => ?_⟩
  case refine_2 => exact hR _ _ ⟨rfl, hs6.fr0⟩
  have hlt : i < 2 := by simp at h; omega
  obtain ⟨p, hpi⟩ : ∃ p, ([.pointer none, .pointer (some ⟨g25, 0, none⟩)] : List Value)[i]? = some p := ⟨_, List.getElem?_eq_getElem hlt⟩
  change ixs 1 _ _ _
  refine ldVq (frw hs6) hpi .i64 ?_
  have NCp : ∀ {z : World}, Sep w z L → NC p z := fun hz => hnt hz i p hpi
  clear hpi
  refine cal_i (ncAt (NCp hs6) n) ?_
  rintro _ w7 ⟨rfl, hf7⟩
  have hs7 := hs6.old hf7
  simp only [nilc_some, fad_mk, pik_true, pik_false, cnd_true, cnd_false, gif_same, gif_tf, gif_ft, gif_undef, bi_add, bi_sub, bi_mul, bi_eql, bi_neq, bi_lss, bi_leq, bi_gtr, bi_geq, notB_bool, cvi_int, lenS_mk, lenT_mk, ext0, ext1, ext2, nilP_mk, nilS_mk, fldv_agg, jn0_k, jn1_k, jn2_k, jn1_and, jn1_or, ex_some, Option.isNone_some, Option.isNone_none, Bool.false_bne, Bool.bne_true, Bool.bne_false, Bool.true_bne, Bool.not_true, Bool.not_false, Bool.and_true, Bool.true_and, Bool.and_false, Bool.false_and, Bool.or_true, Bool.true_or, Bool.or_false, Bool.false_or, cond_true, cond_false, List.getElem?_toArray, List.getElem?_cons_zero, List.getElem?_cons_succ, Nat.zero_add, Nat.add_zero, Nat.reduceAdd, forall_const]
  refine alloc_s hs7 (A_api_Block w7) fun g9 w8 hs8 => ?_
  refine St_api_Block (b := (Blk.none.p, Blk.none.h, .slice none 0 0)) hs8 (one_api_Block rfl) fun w9 hs9 => ?_
  rw [f3 hs9.tail]
  refine cal_i (ncGet (NCp hs9.tail) k) ?_
  rintro _ w10 ⟨rfl, hf10⟩
  have hs10 := hs9.old hf10
  simp only [nilc_some, fad_mk, pik_true, pik_false, cnd_true, cnd_false, gif_same, gif_tf, gif_ft, gif_undef, bi_add, bi_sub, bi_mul, bi_eql, bi_neq, bi_lss, bi_leq, bi_gtr, bi_geq, notB_bool, cvi_int, lenS_mk, lenT_mk, ext0, ext1, ext2, nilP_mk, nilS_mk, fldv_agg, jn0_k, jn1_k, jn2_k, jn1_and, jn1_or, ex_some, Option.isNone_some, Option.isNone_none, Bool.false_bne, Bool.bne_true, Bool.bne_false, Bool.true_bne, Bool.not_true, Bool.not_false, Bool.and_true, Bool.true_and, Bool.and_false, Bool.false_and, Bool.or_true, Bool.true_or, Bool.or_false, Bool.false_or, cond_true, cond_false, List.getElem?_toArray, List.getElem?_cons_zero, List.getElem?_cons_succ, Nat.zero_add, Nat.add_zero, Nat.reduceAdd, forall_const]
  refine alloc_s hs10 (A_api_Block w10) fun g11 w11 hs11 => ?_
  refine St_api_Block (b := (Blk.none.p, Blk.none.h, .slice none 0 0)) hs11 (one_api_Block rfl) fun w12 hs12 => ?_
  rw [f3 hs12.tail.tail]
  refine cal_i (ncAnc (NCp hs12.tail.tail) k n) ?_
  rintro _ w13 ⟨rfl, hf13⟩
  have hs13 := hs12.old hf13
  simp only [nilc_some, fad_mk, pik_true, pik_false, cnd_true, cnd_false, gif_same, gif_tf, gif_ft, gif_undef, bi_add, bi_sub, bi_mul, bi_eql, bi_neq, bi_lss, bi_leq, bi_gtr, bi_geq, notB_bool, cvi_int, lenS_mk, lenT_mk, ext0, ext1, ext2, nilP_mk, nilS_mk, fldv_agg, jn0_k, jn1_k, jn2_k, jn1_and, jn1_or, ex_some, Option.isNone_some, Option.isNone_none, Bool.false_bne, Bool.bne_true, Bool.bne_false, Bool.true_bne, Bool.not_true, Bool.not_false, Bool.and_true, Bool.true_and, Bool.and_false, Bool.false_and, Bool.or_true, Bool.true_or, Bool.or_false, Bool.false_or, cond_true, cond_false, List.getElem?_toArray, List.getElem?_cons_zero, List.getElem?_cons_succ, Nat.zero_add, Nat.add_zero, Nat.reduceAdd, forall_const]
  refine cal_i (ncLast (NCp hs13.tail.tail)) ?_
  rintro _ w14 ⟨rfl, hf14⟩
  have hs14 := hs13.old hf14
  simp only [nilc_some, fad_mk, pik_true, pik_false, cnd_true, cnd_false, gif_same, gif_tf, gif_ft, gif_undef, bi_add, bi_sub, bi_mul, bi_eql, bi_neq, bi_lss, bi_leq, bi_gtr, bi_geq, notB_bool, cvi_int, lenS_mk, lenT_mk, ext0, ext1, ext2, nilP_mk, nilS_mk, fldv_agg, jn0_k, jn1_k, jn2_k, jn1_and, jn1_or, ex_some, Option.isNone_some, Option.isNone_none, Bool.false_bne, Bool.bne_true, Bool.bne_false, Bool.true_bne, Bool.not_true, Bool.not_false, Bool.and_true, Bool.true_and, Bool.and_false, Bool.false_and, Bool.or_true, Bool.true_or, Bool.or_false, Bool.false_or, cond_true, cond_false, List.getElem?_toArray, List.getElem?_cons_zero, List.getElem?_cons_succ, Nat.zero_add, Nat.add_zero, Nat.reduceAdd, forall_const]
  refine alloc_s hs14 (A_api_ID w14) fun g15 w15 hs15 => ?_
  refine St_api_ID (b := vz 32) hs15 fun w16 hs16 => ?_
  rw [f2 hs16.tail.tail.tail]
  refine cal_i (ncAccept (NCp hs16.tail.tail.tail) b y) ?_
  rintro _ w17 ⟨rfl, hf17⟩
  have hs17 := hs16.old hf17
  have rdN : ∀ z : World, RdB z.heap (.slice none 0 0) Blk.none.d := fun z => RdB.nil _ 0
  have l0 : ∀ K, lenS (.slice none 0 0) K = K (.int .i64 ((0 : Nat) : Int)) := fun K => (RdB.nil w.heap 0).len K
  simp only [nilc_some, fad_mk, pik_true, pik_false, cnd_true, cnd_false, gif_same, gif_tf, gif_ft, gif_undef, bi_add, bi_sub, bi_mul, bi_eql, bi_neq, bi_lss, bi_leq, bi_gtr, bi_geq, notB_bool, cvi_int, lenS_mk, lenT_mk, ext0, ext1, ext2, nilP_mk, nilS_mk, fldv_agg, jn0_k, jn1_k, jn2_k, jn1_and, jn1_or, ex_some, Option.isNone_some, Option.isNone_none, Bool.false_bne, Bool.bne_true, Bool.bne_false, Bool.true_bne, Bool.not_true, Bool.not_false, Bool.and_true, Bool.true_and, Bool.and_false, Bool.false_and, Bool.or_true, Bool.true_or, Bool.or_false, Bool.false_or, cond_true, cond_false, List.getElem?_toArray, List.getElem?_cons_zero, List.getElem?_cons_succ, Nat.zero_add, Nat.add_zero, Nat.reduceAdd, forall_const, show ((2 : Int) != 2) = false from rfl, show ((0 : Int) != 0) = false from rfl]
  refine jn1_dup ?_
  simp only [L_api_ID hs17.blk, B_ID0, ne_api_ID, decide_true, nilc_some, fad_mk, pik_true, pik_false, cnd_true, cnd_false, gif_same, gif_tf, gif_ft, gif_undef, bi_add, bi_sub, bi_mul, bi_eql, bi_neq, bi_lss, bi_leq, bi_gtr, bi_geq, notB_bool, cvi_int, lenS_mk, lenT_mk, ext0, ext1, ext2, nilP_mk, nilS_mk, fldv_agg, jn0_k, jn1_k, jn2_k, jn1_and, jn1_or, ex_some, Option.isNone_some, Option.isNone_none, Bool.false_bne, Bool.bne_true, Bool.bne_false, Bool.true_bne, Bool.not_true, Bool.not_false, Bool.and_true, Bool.true_and, Bool.and_false, Bool.false_and, Bool.or_true, Bool.true_or, Bool.or_false, Bool.false_or, cond_true, cond_false, List.getElem?_toArray, List.getElem?_cons_zero, List.getElem?_cons_succ, Nat.zero_add, Nat.add_zero, Nat.reduceAdd, forall_const, l0, show (((0 : Nat) : Int) != 0) = false from rfl]
  refine jn1_dup ?_
  rw [f3 hs17.tail.tail.tail]
  refine cal_i (ncHas (NCp hs17.tail.tail.tail) k) ?_
  rintro _ w18 ⟨rfl, hf18⟩
  have hs18 := hs17.old hf18
  simp only [nilc_some, fad_mk, pik_true, pik_false, cnd_true, cnd_false, gif_same, gif_tf, gif_ft, gif_undef, bi_add, bi_sub, bi_mul, bi_eql, bi_neq, bi_lss, bi_leq, bi_gtr, bi_geq, notB_bool, cvi_int, lenS_mk, lenT_mk, ext0, ext1, ext2, nilP_mk, nilS_mk, fldv_agg, jn0_k, jn1_k, jn2_k, jn1_and, jn1_or, ex_some, Option.isNone_some, Option.isNone_none, Bool.false_bne, Bool.bne_true, Bool.bne_false, Bool.true_bne, Bool.not_true, Bool.not_false, Bool.and_true, Bool.true_and, Bool.and_false, Bool.false_and, Bool.or_true, Bool.true_or, Bool.or_false, Bool.false_or, cond_true, cond_false, List.getElem?_toArray, List.getElem?_cons_zero, List.getElem?_cons_succ, Nat.zero_add, Nat.add_zero, Nat.reduceAdd, forall_const]
  refine jn1_dup ?_
  refine cal_i (ncTape (NCp hs18.tail.tail.tail)) ?_
  rintro _ _ ⟨rfl, rfl⟩
  simp only [nilc_some, fad_mk, pik_true, pik_false, cnd_true, cnd_false, gif_same, gif_tf, gif_ft, gif_undef, bi_add, bi_sub, bi_mul, bi_eql, bi_neq, bi_lss, bi_leq, bi_gtr, bi_geq, notB_bool, cvi_int, lenS_mk, lenT_mk, ext0, ext1, ext2, nilP_mk, nilS_mk, fldv_agg, jn0_k, jn1_k, jn2_k, jn1_and, jn1_or, ex_some, Option.isNone_some, Option.isNone_none, Bool.false_bne, Bool.bne_true, Bool.bne_false, Bool.true_bne, Bool.not_true, Bool.not_false, Bool.and_true, Bool.true_and, Bool.and_false, Bool.false_and, Bool.or_true, Bool.true_or, Bool.or_false, Bool.false_or, cond_true, cond_false, List.getElem?_toArray, List.getElem?_cons_zero, List.getElem?_cons_succ, Nat.zero_add, Nat.add_zero, Nat.reduceAdd, forall_const, Option.isNone_none]
  refine jn1_dup ?_
  refine cal_i (ncTold (most := 9) (NCp hs18.tail.tail.tail) (by omega)) ?_
  rintro r w19 ⟨hr, hf19⟩
  have hs19 := hs18.old hf19
  simp only [nilc_some, fad_mk, pik_true, pik_false, cnd_true, cnd_false, gif_same, gif_tf, gif_ft, gif_undef, bi_add, bi_sub, bi_mul, bi_eql, bi_neq, bi_lss, bi_leq, bi_gtr, bi_geq, notB_bool, cvi_int, lenS_mk, lenT_mk, ext0, ext1, ext2, nilP_mk, nilS_mk, fldv_agg, jn0_k, jn1_k, jn2_k, jn1_and, jn1_or, ex_some, Option.isNone_some, Option.isNone_none, Bool.false_bne, Bool.bne_true, Bool.bne_false, Bool.true_bne, Bool.not_true, Bool.not_false, Bool.and_true, Bool.true_and, Bool.and_false, Bool.false_and, Bool.or_true, Bool.true_or, Bool.or_false, Bool.false_or, cond_true, cond_false, List.getElem?_toArray, List.getElem?_cons_zero, List.getElem?_cons_succ, Nat.zero_add, Nat.add_zero, Nat.reduceAdd, forall_const, hr, show (((0 : Nat) : Int) != 0) = false from rfl]
  refine jn1_dup ?_
  simp only [L_api_Block (Sep.blk hs19.p1), L_api_Block__Parent (Sep.blk hs19.p1), L_api_Block__Height (Sep.blk hs19.p1), L_api_Block__Data (Sep.blk hs19.p1), L_api_Block (Sep.blk hs19.p2), L_api_Block__Parent (Sep.blk hs19.p2), L_api_Block__Height (Sep.blk hs19.p2), L_api_Block__Data (Sep.blk hs19.p2)]
  refine cal_i (rSame_spec (a := Blk.none) (b := Blk.none) (u := .slice none 0 0) (v := .slice none 0 0) (rdN _) (rdN _)) ?_
  rintro _ w20 ⟨rfl, hf20⟩
  have hs20 := hs19.old hf20
  simp only [nilc_some, fad_mk, pik_true, pik_false, cnd_true, cnd_false, gif_same, gif_tf, gif_ft, gif_undef, bi_add, bi_sub, bi_mul, bi_eql, bi_neq, bi_lss, bi_leq, bi_gtr, bi_geq, notB_bool, cvi_int, lenS_mk, lenT_mk, ext0, ext1, ext2, nilP_mk, nilS_mk, fldv_agg, jn0_k, jn1_k, jn2_k, jn1_and, jn1_or, ex_some, Option.isNone_some, Option.isNone_none, Bool.false_bne, Bool.bne_true, Bool.bne_false, Bool.true_bne, Bool.not_true, Bool.not_false, Bool.and_true, Bool.true_and, Bool.and_false, Bool.false_and, Bool.or_true, Bool.true_or, Bool.or_false, Bool.false_or, cond_true, cond_false, List.getElem?_toArray, List.getElem?_cons_zero, List.getElem?_cons_succ, Nat.zero_add, Nat.add_zero, Nat.reduceAdd, forall_const, decide_true]
  refine jn1_dup ?_
  refine cal_i (ncBlock (NCp hs20.tail.tail.tail)) ?_
  rintro _ w21 ⟨rfl, hf21⟩
  have hs21 := hs20.old hf21
  rw [B_none]
  refine cal_i (rSame_spec (a := Blk.none) (b := Blk.none) (u := .slice none 0 0) (v := .slice none 0 0) (rdN _) (rdN _)) ?_
  rintro _ w22 ⟨rfl, hf22⟩
  have hs22 := hs21.old hf22
  simp only [nilc_some, fad_mk, pik_true, pik_false, cnd_true, cnd_false, gif_same, gif_tf, gif_ft, gif_undef, bi_add, bi_sub, bi_mul, bi_eql, bi_neq, bi_lss, bi_leq, bi_gtr, bi_geq, notB_bool, cvi_int, lenS_mk, lenT_mk, ext0, ext1, ext2, nilP_mk, nilS_mk, fldv_agg, jn0_k, jn1_k, jn2_k, jn1_and, jn1_or, ex_some, Option.isNone_some, Option.isNone_none, Bool.false_bne, Bool.bne_true, Bool.bne_false, Bool.true_bne, Bool.not_true, Bool.not_false, Bool.and_true, Bool.true_and, Bool.and_false, Bool.false_and, Bool.or_true, Bool.true_or, Bool.or_false, Bool.false_or, cond_true, cond_false, List.getElem?_toArray, List.getElem?_cons_zero, List.getElem?_cons_succ, Nat.zero_add, Nat.add_zero, Nat.reduceAdd, forall_const, decide_true]
  rw [wi64 (by omega) (by omega)]
  exact ⟨⟨i + 1, by simp, by omega, hs22.tail.tail.tail⟩, by simp [RowKit.intOf] <;> omega⟩
end
end Go.Fx
namespace Go.Fx
theorem okWide_arr {P : Program} {w : World} {r : Reach} {base n : Nat} {t e : TypeId} {v : Value} (ht : P.underlying t = some (.array n e)) (h : Value.okWide P w r base t v) : ∃ cs, v = .agg cs ∧ cs.size = P.cellsOf t := by
  simp only [Value.okWide, ht] at h
  obtain ⟨cs, h1, h2, _⟩ := h
  exact ⟨cs, h1, h2⟩
end Go.Fx
namespace Go.Proofs.YtcnpediagjjnbaaGreatDoor
open Go.ChangeShapes Go.WideShapes Go.ChangeAt Go.RowKit
theorem own : ownKnob Tryz.prog.godebug = none := by kernel_rfl
theorem laidOut : laidOutB Tryz.prog = true := by kernel_rfl
end Go.Proofs.YtcnpediagjjnbaaGreatDoor
namespace Go.Proofs.YtcnpediagjjnbaaGreatDoor
open Go.ChangeShapes Go.WideShapes Go.ChangeAt Go.RowKit
abbrev laidL : List (String × DataW Unit) := [("flurry/sha.cubes", Rows.laid_flurry_sha_cubes)]
theorem gCubes : Tryz.prog.globalNamed "flurry/sha.cubes" = some 0 := by kernel_rfl
theorem tCubes : (Tryz.prog.globals[0]?).map (·.type) = some Go.Fx.T_a64_uint32 := by kernel_rfl
theorem door_met (os : Os) (args : Array Value) : laidMetH Tryz.prog laidL ((World.doorLaid Tryz.prog 400 os).forCall (fun _ _ => 0) ⟨#[], args, []⟩).memory :=
  laidMetH_of_parts3 (fuel := 8) (laidMet_of_run' 8 (by kernel_rfl) (by kernel_rfl)) (by kernel_rfl) (by kernel_rfl)
theorem cub_of_laid {W : World} (h : laidMetH Tryz.prog laidL W) : Go.Fx.Cub W := by
  rw [MakeChecks.laidMetH_plain _ _ _ (by kernel_rfl)] at h
  obtain ⟨ps, ⟨g0, t0, cs0, f0, p0, q0, hg0, ht0, hv0, hd0, _, _⟩, _, _⟩ := h
  obtain rfl := Option.some.inj (gCubes.symm.trans hg0)
  obtain rfl := Option.some.inj (tCubes.symm.trans ht0)
  have hcs : cs0.toList = Go.Fx.wvs Go.Fx.cubesL := by
    obtain ⟨xs, m1, _, hx1, hlen, hn3, hel⟩ := DataW.trod_array Go.Fx.U_a64_uint32 hd0
    have c1 : Tryz.prog.cellsOf Go.Fx.T_uint32 = 1 := by kernel_rfl
    have c64 : Tryz.prog.cellsOf Go.Fx.T_a64_uint32 = 64 := by kernel_rfl
    rw [c64] at hlen
    rw [c1] at hel
    have hd : (Rows.laid_flurry_sha_cubes : DataW Unit) = .agg (Go.Fx.cubesL.map fun x => .lit (.int .u32 x.toNat)) := by kernel_rfl
    rw [hd] at hx1
    simp only [Prod.mk.injEq, DataW.agg.injEq] at hx1
    apply List.ext_getElem?
    intro i
    by_cases hi : i < 64
    · have h1 := hel i hi
      have hx : xs[i]? = some (xs[i]'(by omega)) := List.getElem?_eq_getElem _
      rw [hx] at h1
      generalize xs[i]'(by omega) = y at *
      obtain ⟨k, e1, e2, _⟩ := DataW.trod_int Go.Fx.U_uint32 h1
      have h2 := congrArg (·[i]?) hx1.1
      simp only [List.getElem?_map, hx, e2, Option.map_some] at h2
      have h3 : cs0.toList[i]? = some (.int .u32 k) := by
        have : ((cs0.toList.drop (i * 1)).take 1)[0]? = some (.int .u32 k) := by rw [e1]; rfl
        rw [List.getElem?_take_of_lt (by omega), List.getElem?_drop, Nat.mul_one, Nat.add_zero] at this
        exact this
      rw [h3, Go.Fx.wvs, List.getElem?_map]
      cases hc : Go.Fx.cubesL[i]? with
      | none => rw [hc] at h2; cases h2
      | some z =>
        rw [hc] at h2
        simp only [Option.map_some, Option.some.injEq, DataW.lit.injEq, Lit.int.injEq, true_and] at h2
        rw [Option.map_some, ← h2]
        rfl
    · rw [List.getElem?_eq_none (by omega), List.getElem?_eq_none (by rw [Go.Fx.wvs, List.length_map]; show 64 ≤ i; omega)]
  have hv1 := hv0
  unfold World.var? at hv1
  rw [hg0] at hv1
  simp only [Option.bind_some] at hv1
  cases hh : W.heap[0]? with
  | none => rw [hh] at hv1; cases hv1
  | some o =>
    rw [hh] at hv1
    cases o with
    | cells cs t fr =>
      simp only [Option.some.injEq] at hv1
      subst hv1
      refine ⟨t, fr, ?_⟩
      rw [hh]
      have : cs = (Go.Fx.wvs Go.Fx.cubesL).toArray := by apply Array.ext'; simpa using hcs
      rw [this]
    | _ => cases hv1
end Go.Proofs.YtcnpediagjjnbaaGreatDoor
set_option linter.unusedVariables false
set_option linter.unusedSimpArgs false
namespace Go.Proofs.YtcnpediagjjnbaaGreatDoor
open Go.ChangeShapes Go.WideShapes Go.ChangeAt Go.RowKit
set_option maxRecDepth 100000 in
theorem liftedChainNone (os : Os) (started : os.Started) (H : Type) (enc : TypeId × Value → H) :
    ReturnsInHanded {} Tryz.checked os 5 .any (fun w args => (Rows.chainNoneSpec.pre enc Tryz.prog Tryz.f5 [] false w args ∧ laidMetH Tryz.prog laidL w) ∧ sizedMet enc Tryz.prog Tryz.f5 (OpenSpec.ofChange Rows.chainNoneSpec) false w args) (Rows.chainNoneSpec.post enc Tryz.prog Tryz.f5 false true false false) := by
  refine returnsInHanded_of_change_and (C := Tryz.checked) (X := fun w _ => laidMetH Tryz.prog laidL w) (fun _ _ _ hh h => h.of_heap hh) own started (by kernel_rfl) Tryz.func5
    (ChangeSpec.witness_shaped (enc := enc) (C := Tryz.checked) (os := os) (X := fun w _ => laidMetH Tryz.prog laidL w) false (World.doorLaid Tryz.prog 400 os) #[((Value.agg ((List.replicate 32 (Value.int IntKind.u8 0) ++ [(Value.int IntKind.i64 0)] ++ [(Value.slice none 0 0)] : List Value).toArray))), ((Value.agg ((List.replicate 32 (Value.int IntKind.u8 0) : List Value).toArray))), .int .i64 0] 8 rfl (World.shaped_of_RefB (by kernel_rfl) (by kernel_rfl)) (by kernel_rfl) (by kernel_rfl) (by kernel_rfl) (door_met os _)) ?_
  intro W base args ds gs before hval0 hW _ _ hL _
  have hcub : Go.Fx.Cub W := cub_of_laid hL
  have hval : ∀ (j : Nat) t v, Tryz.f5.params[j]? = some t → args[j]? = some v → Value.okWide Tryz.prog W .any base t v := hval0
  have hW' := hW
  obtain ⟨p, q, hA0, hV, rfl, hfz, hnd⟩ := hW
  have hA : DataW.TrodAll enc Tryz.prog W 0 (fun _ => true) true Tryz.f5.params.toList args.toList ds p := hA0
  rw [Tryz.params5] at hA hval
  obtain ⟨v0, vs0, d0, ds0, p0, q0, hargs, rfl, rfl, h0, r0⟩ := trodAll_cons hA
  obtain ⟨v1, vs1, d1, ds1, p1, q1, rfl, rfl, rfl, h1, r1⟩ := trodAll_cons r0
  obtain ⟨v2, vs2, d2, ds2, p2, q2, rfl, rfl, rfl, h2, r2⟩ := trodAll_cons r1
  obtain ⟨rfl, rfl, rfl⟩ := trodAll_nil r2
  obtain rfl : args = #[v0, v1, v2] := by cases args; simp_all
  obtain ⟨rfl, rfl⟩ := trodVars_none hV
  obtain ⟨cs0, rfl, sz0⟩ := okWide_struct Tryz.underlying34 (hval 0 34 v0 rfl rfl)
  have k0 := h0
  have lt0 : ∀ x ∈ p0, x.block < W.heap.size := by obtain ⟨m, hm⟩ := k0; exact DataW.trod_lt m _ _ _ hm
  obtain ⟨f0, hf0⟩ := h0
  have hx0 := Go.Fx.O_api_Block hf0
  obtain ⟨x0, rfl, rd0⟩ := hx0
  obtain ⟨cs1, rfl, sz1⟩ := Go.Fx.okWide_arr Tryz.underlying32 (hval 1 32 v1 rfl rfl)
  have k1 := h1
  have lt1 : ∀ x ∈ p1, x.block < W.heap.size := by obtain ⟨m, hm⟩ := k1; exact DataW.trod_lt m _ _ _ hm
  obtain ⟨f1, hf1⟩ := h1
  have hx1 := Go.Fx.O_api_ID hf1
  obtain ⟨x1, rfl, rd1⟩ := hx1
  obtain ⟨a2, rfl, rfl, rfl, w2⟩ := open_int Tryz.underlying3 (hval 2 3 v2 rfl rfl) h2
  have b2 := bounds_i64 w2
  clear hA0 hval0
  have hcal := Go.Fx.wChainNone (k := x1) (n := a2) hcub rd0
  refine Calls.mono hcal fun e W' ⟨v, he, hv, hf⟩ => ?_
  subst hv
  subst he
  have bel : Below W.heap.size W W' := hf.below (by simp)
  exact ⟨_, rfl, _, _, _, [], _, [], hW', trodAll_mk1 (shut_bool Tryz.underlying4 _), (trodAll_cons_mk (Below.trod laidOut (by kernel_rfl) (of_decide_eq_true (by kernel_rfl)) k0 bel lt0) (trodAll_cons_mk (Below.trod laidOut (by kernel_rfl) (of_decide_eq_true (by kernel_rfl)) k1 bel lt1) (trodAll_cons_mk (shut_int Tryz.underlying3 w2) trodAll_mk0))), rfl, bel.frame _, fun h => by cases h⟩
theorem chainNone : Rows.ChainNoneSaid :=
  OpenClaim.holds_of_wide 5 Tryz.f5 rfl rfl rfl rfl rfl rfl rfl ⟨rfl, rfl, rfl, rfl, rfl⟩ rfl rfl rfl rfl rfl (by kernel_rfl) Tryz.func5 (by kernel_rfl)
    (of_decide_eq_true (by kernel_rfl)) (by unfold Func.isWrapper; first | (rw [if_pos (by decide +kernel)]; kernel_rfl) | (rw [if_neg (by decide +kernel)]; exact ⟨rfl, rfl⟩))
    (fun os started H enc _ => liftedChainNone os started H enc)
theorem chainNoneCard : Rows.ChainNoneCardSaid :=
  Claim7.holds_tied_plain_at .later [] [.data] true (true, "968bb6806a38c5bec8b2e1b5c5b5ba17cc1d9afb0edfa42e79377c2591f7979e") false
    chainNone (fun _ h => by cases h) (by kernel_rfl) (fun _ h => by cases h) chainNone_row_tie rfl ⟨rfl, rfl⟩ (by kernel_rfl) rfl
    (fun f fn hf hfn => by
      obtain rfl : f = 5 := Option.some.inj ((show Tryz.prog.funcNamed "flurry/flurrylaw10.ChainNone" = some 5 by kernel_rfl).symm.trans hf) |>.symm
      obtain rfl : fn = Tryz.f5 := (Option.some.inj (Tryz.func5.symm.trans hfn)).symm
      exact ⟨by kernel_rfl, fun j t ht => by
        rw [Tryz.params5] at ht
        have hm : t ∈ [34, 32, 3] := by simpa using Array.mem_of_getElem? ht
        have hall : ([34, 32, 3].all fun u => !Tryz.prog.wantsStandIn u) = true := by kernel_rfl
        exact (show Tryz.prog.wantsStandIn t = false by simpa using List.all_eq_true.1 hall t hm)⟩)
    (by kernel_rfl)
#print axioms chainNoneCard
end Go.Proofs.YtcnpediagjjnbaaGreatDoor
