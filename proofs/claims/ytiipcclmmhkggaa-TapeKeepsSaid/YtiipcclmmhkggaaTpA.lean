/-
  Package tape: what a tape is in memory, and its functions' contracts; the reference's tape the same.
-/
import Derived.Test.YtiipcclmmhkggaaTy
set_option linter.unusedVariables false
set_option linter.unusedSimpArgs false
namespace Go.Fx
theorem Equal_spec {w : World} {x y : Value} {a b : List UInt8} (hx : RdB w.heap x a) (hy : RdB w.heap y b) : cal P f_bytes_Equal [x, y] w fun v w' => v = .bool (a == b) ∧ w = w' := by
  refine s_bytes_Equal fun R hR => ?_
  unfold c_bytes_Equal
  rw [rdP_eq (conv_str UT_bytes UT_uint8 UT_string hx), rdP_eq (conv_str UT_bytes UT_uint8 UT_string hy), eqS_str]
  exact hR _ _ ⟨rfl, rfl⟩
structure Tp where
  b : List UInt8
  armed : Int
  off : Bool
  made : Bool
def Tp.may (x : Tp) : Int := if x.made then (if x.off then 5 else 0) else 2
/-- A tape that may be. -/
def Tp.Ok (x : Tp) : Prop := x.b.length ≤ 262144 ∧ -1 ≤ x.armed ∧ x.armed ≤ 9223372036854775807
def tp (p : Value) (x : Tp) : Asn :=
  .ex fun g => .ex fun s => .star (.pr (p = .pointer (some ⟨g, 0, none⟩))) (.star (blk g #[s, .int .i64 x.armed, .bool x.off, .bool x.made] T_tape_Tape) (ownB s x.b))
def Tp.goes (x : Tp) : Tp := { x with off := true, armed := -1 }
def Tp.append (x : Tp) (a : List UInt8) : Tp × Int :=
  if x.may ≠ 0 then (x, x.may) else if 262144 < x.b.length + a.length then (x, 6) else if x.armed = -1 then ({ x with b := x.b ++ a }, 0) else
  if (a.length : Int) ≤ x.armed then ({ x with b := x.b ++ a, armed := x.armed - a.length }, 0) else ({ x with b := x.b ++ a.take x.armed.toNat, off := true, armed := -1 }, 5)
def Tp.truncate (x : Tp) (n : Int) : Tp × Int :=
  if x.may ≠ 0 then (x, x.may) else if n < 0 ∨ (x.b.length : Int) < n then (x, 1) else ({ x with b := x.b.take n.toNat }, 0)
def Tp.arm (x : Tp) (n : Int) : Tp × Int := if x.may ≠ 0 then (x, x.may) else if n < 0 then (x, 1) else ({ x with armed := n }, 0)
def Tp.calm (x : Tp) : Tp × Int := if x.may ≠ 0 then (x, x.may) else ({ x with armed := -1 }, 0)
def Tp.crash (x : Tp) : Tp × Int := if x.may ≠ 0 then (x, x.may) else (x.goes, 0)
def Tp.restart (x : Tp) : Tp × Int := if x.may = 0 then (x, 7) else if x.may = 5 then ({ x with off := false }, 0) else (x, 2)
def joined (l : List (Sl UInt8)) : List UInt8 := l.flatMap (·.l)
theorem joined_take_succ {l : List (Sl UInt8)} {k : Nat} {a : Sl UInt8} (h : l[k]? = some a) : joined (l.take (k + 1)) = joined (l.take k) ++ a.l := by
  rw [List.take_add_one, h]
  simp [joined]
theorem joined_take_le (l : List (Sl UInt8)) (k : Nat) : (joined (l.take k)).length ≤ (joined l).length := by
  conv => rhs; rw [← List.take_append_drop k l]
  unfold joined
  rw [List.flatMap_append, List.length_append]
  omega
section
variable {w0 w : World} {As : List Asn} {p : Value} {x : Tp}
theorem tp_open : Sep w0 w (tp p x :: As) = ∃ g s, p = .pointer (some ⟨g, 0, none⟩) ∧ Sep w0 w (blk g #[s, .int .i64 x.armed, .bool x.off, .bool x.made] T_tape_Tape :: ownB s x.b :: As) := by
  simp only [tp, Sep_ex, Sep_star, Sep_pr]
theorem tp_i {g : Nat} {s : Value} (hs : Sep w0 w (blk g #[s, .int .i64 x.armed, .bool x.off, .bool x.made] T_tape_Tape :: ownB s x.b :: As)) : Sep w0 w (tp (.pointer (some ⟨g, 0, none⟩)) x :: As) := by
  rw [tp_open]; exact ⟨g, s, rfl, hs⟩
theorem tp_nilP (hs : Sep w0 w (tp p x :: As)) (b : Bool) (K : Value → Prop) : nilP b p K = K (.bool b) := by
  rw [tp_open] at hs
  obtain ⟨g, s, rfl, hs⟩ := hs
  rw [nilP_mk]
  cases b <;> rfl
theorem may_spec (hs : Sep w0 w (tp p x :: As)) : cal P f_tape_Tape_may [p] w fun v w' => v = .int .i64 x.may ∧ w = w' := by
  rw [tp_open] at hs
  obtain ⟨g, s, rfl, hs⟩ := hs
  have hg := hs.blk
  refine s_tape_Tape_may fun R hR => ?_
  unfold c_tape_Tape_may
  obtain ⟨b, armed, off, made⟩ := x
  cases made <;> cases off <;> simp only [nilc_some, fad_mk, pik_true, pik_false, cnd_true, cnd_false, gif_same, gif_tf, gif_ft, gif_undef, bi_add, bi_sub, bi_mul, bi_eql, bi_neq, bi_lss, bi_leq, bi_gtr, bi_geq, notB_bool, cvi_int, lenS_mk, lenT_mk, ext0, ext1, ext2, nilP_mk, nilS_mk, fldv_agg, jn0_k, jn1_k, jn2_k, jn1_and, jn1_or, ex_some, Option.isNone_some, Option.isNone_none, Bool.false_bne, Bool.bne_true, Bool.bne_false, Bool.true_bne, Bool.not_true, Bool.not_false, Bool.and_true, Bool.true_and, Bool.and_false, Bool.false_and, Bool.or_true, Bool.true_or, Bool.or_false, Bool.false_or, cond_true, cond_false, List.getElem?_toArray, List.getElem?_cons_zero, List.getElem?_cons_succ, Nat.zero_add, Nat.add_zero, Nat.reduceAdd, forall_const, ld1_eq hg] <;> exact hR _ _ ⟨rfl, rfl⟩
theorem may_nil : cal P f_tape_Tape_may [.pointer none] w fun v w' => v = .int .i64 2 ∧ w = w' := by
  refine s_tape_Tape_may fun R hR => ?_
  unfold c_tape_Tape_may
  simp only [nilc_some, fad_mk, pik_true, pik_false, cnd_true, cnd_false, gif_same, gif_tf, gif_ft, gif_undef, bi_add, bi_sub, bi_mul, bi_eql, bi_neq, bi_lss, bi_leq, bi_gtr, bi_geq, notB_bool, cvi_int, lenS_mk, lenT_mk, ext0, ext1, ext2, nilP_mk, nilS_mk, fldv_agg, jn0_k, jn1_k, jn2_k, jn1_and, jn1_or, ex_some, Option.isNone_some, Option.isNone_none, Bool.false_bne, Bool.bne_true, Bool.bne_false, Bool.true_bne, Bool.not_true, Bool.not_false, Bool.and_true, Bool.true_and, Bool.and_false, Bool.false_and, Bool.or_true, Bool.true_or, Bool.or_false, Bool.false_or, cond_true, cond_false, List.getElem?_toArray, List.getElem?_cons_zero, List.getElem?_cons_succ, Nat.zero_add, Nat.add_zero, Nat.reduceAdd, forall_const]
  exact hR _ _ ⟨rfl, rfl⟩
theorem goes_spec (hs : Sep w0 w (tp p x :: As)) : cal P f_tape_Tape_goes [p] w fun v w' => v = .tuple #[] ∧ Sep w0 w' (tp p x.goes :: As) := by
  rw [tp_open] at hs
  obtain ⟨g, s, rfl, hs⟩ := hs
  refine s_tape_Tape_goes fun R hR => ?_
  unfold c_tape_Tape_goes
  simp only [nilc_some, fad_mk, pik_true, pik_false, cnd_true, cnd_false, gif_same, gif_tf, gif_ft, gif_undef, bi_add, bi_sub, bi_mul, bi_eql, bi_neq, bi_lss, bi_leq, bi_gtr, bi_geq, notB_bool, cvi_int, lenS_mk, lenT_mk, ext0, ext1, ext2, nilP_mk, nilS_mk, fldv_agg, jn0_k, jn1_k, jn2_k, jn1_and, jn1_or, ex_some, Option.isNone_some, Option.isNone_none, Bool.false_bne, Bool.bne_true, Bool.bne_false, Bool.true_bne, Bool.not_true, Bool.not_false, Bool.and_true, Bool.true_and, Bool.and_false, Bool.false_and, Bool.or_true, Bool.true_or, Bool.or_false, Bool.false_or, cond_true, cond_false, List.getElem?_toArray, List.getElem?_cons_zero, List.getElem?_cons_succ, Nat.zero_add, Nat.add_zero, Nat.reduceAdd, forall_const]
  refine st1_s hs (by simp) rfl fun w1 hs => ?_
  refine st1_s hs (by simp) rfl fun w2 hs => ?_
  exact hR _ _ ⟨rfl, tp_i hs⟩
theorem told_spec {v : Value} {l : List UInt8} (hb : RdB w.heap v l) (hl : l.length ≤ 281474976710656) : cal P f_tape_told [v] w fun r w' => Sep w w' [ownB r l] := by
  refine s_tape_told fun R hR => ?_
  unfold c_tape_told
  rw [hb.len]
  refine mkB_s (Sep.start w) ST_bytes ZC_uint8 hl fun g w1 hs => ?_
  refine cpyB_s ST_bytes hs (hs.rdB hb) fun w2 hs => ?_
  have e1 : l.take (List.replicate l.length (0 : UInt8)).length ++ (List.replicate l.length (0 : UInt8)).drop l.length = l := by simp
  rw [e1] at hs
  have e2 : min l.length (List.replicate l.length (0 : UInt8)).length = l.length := by simp
  rw [e2, slc3 UT_bytes ST_bytes.siz (Nat.le_refl _)]
  exact hR _ _ hs
theorem New_spec : cal P f_tape_New [] w fun v w' => Sep w w' [tp v ⟨[], -1, false, true⟩] := by
  refine s_tape_New fun R hR => ?_
  unfold c_tape_New
  have hb : (Instr.build T_tape_Tape #[(1, .int .i64 (-1)), (3, .bool true)]).run P w = .ok (.agg #[.slice none 0 0, .int .i64 (-1), .bool false, .bool true]) w := by kernel_rfl
  rw [rdP_eq hb]
  refine bx_s (Sep.start w) fun g w1 hs => ?_
  exact hR _ _ (tp_i hs.nil.p1)
theorem Of_spec {v : Value} {l : List UInt8} (hb : RdB w.heap v l) : cal P f_tape_Of [v] w fun r w' =>
    (262144 < l.length ∧ r = .tuple #[.pointer none, .int .i64 3] ∧ w = w') ∨ (l.length ≤ 262144 ∧ ∃ p, r = .tuple #[p, .int .i64 0] ∧ Sep w w' [tp p ⟨l, -1, false, true⟩]) := by
  refine s_tape_Of fun R hR => ?_
  unfold c_tape_Of
  simp only [nilc_some, fad_mk, pik_true, pik_false, cnd_true, cnd_false, gif_same, gif_tf, gif_ft, gif_undef, bi_add, bi_sub, bi_mul, bi_eql, bi_neq, bi_lss, bi_leq, bi_gtr, bi_geq, notB_bool, cvi_int, lenS_mk, lenT_mk, ext0, ext1, ext2, nilP_mk, nilS_mk, fldv_agg, jn0_k, jn1_k, jn2_k, jn1_and, jn1_or, ex_some, Option.isNone_some, Option.isNone_none, Bool.false_bne, Bool.bne_true, Bool.bne_false, Bool.true_bne, Bool.not_true, Bool.not_false, Bool.and_true, Bool.true_and, Bool.and_false, Bool.false_and, Bool.or_true, Bool.true_or, Bool.or_false, Bool.false_or, cond_true, cond_false, List.getElem?_toArray, List.getElem?_cons_zero, List.getElem?_cons_succ, Nat.zero_add, Nat.add_zero, Nat.reduceAdd, forall_const, hb.len]
  rw [cnd_bool]
  refine ⟨fun h => ?_, fun h => ?_⟩
  · exact hR _ _ (.inl ⟨by simp at h; omega, rfl, rfl⟩)
  · have h : l.length ≤ 262144 := by simp at h; omega
    refine cal_i New_spec ?_
    rintro p w1 hs
    refine cal_i (told_spec (hs.rdB hb) (by omega)) ?_
    rintro r w2 hs2
    replace hs := (hs.join hs2).p1
    clear hs2
    rw [tp_open] at hs
    obtain ⟨g, s, rfl, hs⟩ := hs
    simp only [nilc_some, fad_mk, pik_true, pik_false, cnd_true, cnd_false, gif_same, gif_tf, gif_ft, gif_undef, bi_add, bi_sub, bi_mul, bi_eql, bi_neq, bi_lss, bi_leq, bi_gtr, bi_geq, notB_bool, cvi_int, lenS_mk, lenT_mk, ext0, ext1, ext2, nilP_mk, nilS_mk, fldv_agg, jn0_k, jn1_k, jn2_k, jn1_and, jn1_or, ex_some, Option.isNone_some, Option.isNone_none, Bool.false_bne, Bool.bne_true, Bool.bne_false, Bool.true_bne, Bool.not_true, Bool.not_false, Bool.and_true, Bool.true_and, Bool.and_false, Bool.false_and, Bool.or_true, Bool.true_or, Bool.or_false, Bool.false_or, cond_true, cond_false, List.getElem?_toArray, List.getElem?_cons_zero, List.getElem?_cons_succ, Nat.zero_add, Nat.add_zero, Nat.reduceAdd, forall_const]
    refine st1_s hs (by simp) hs.p2.one fun w3 hs => ?_
    exact hR _ _ (.inr ⟨h, _, rfl, tp_i hs.d1⟩)
theorem Append_spec {s : Sl (Sl UInt8)} (hs : Sep w0 w (tp p x :: As)) (hx : x.Ok) (hv : ∀ w', Sep w0 w' As → R_sl_sl_uint8.ok w'.heap s) :
    cal P f_tape_Tape_Append [p, s.v] w fun v w' => v = .int .i64 (x.append (joined s.l)).2 ∧ Sep w0 w' (tp p (x.append (joined s.l)).1 :: As) := by
  refine s_tape_Tape_Append fun R hR => ?_
  unfold c_tape_Tape_Append
  refine cal_i (may_spec hs) ?_
  rintro _ _ ⟨rfl, rfl⟩
  simp only [nilc_some, fad_mk, pik_true, pik_false, cnd_true, cnd_false, gif_same, gif_tf, gif_ft, gif_undef, bi_add, bi_sub, bi_mul, bi_eql, bi_neq, bi_lss, bi_leq, bi_gtr, bi_geq, notB_bool, cvi_int, lenS_mk, lenT_mk, ext0, ext1, ext2, nilP_mk, nilS_mk, fldv_agg, jn0_k, jn1_k, jn2_k, jn1_and, jn1_or, ex_some, Option.isNone_some, Option.isNone_none, Bool.false_bne, Bool.bne_true, Bool.bne_false, Bool.true_bne, Bool.not_true, Bool.not_false, Bool.and_true, Bool.true_and, Bool.and_false, Bool.false_and, Bool.or_true, Bool.true_or, Bool.or_false, Bool.false_or, cond_true, cond_false, List.getElem?_toArray, List.getElem?_cons_zero, List.getElem?_cons_succ, Nat.zero_add, Nat.add_zero, Nat.reduceAdd, forall_const]
  rw [cnd_bool]
  refine ⟨fun h => ?_, fun h => ?_⟩
  · have h : x.may ≠ 0 := by simpa using h
    exact hR _ _ ⟨by simp [Tp.append, h], by simpa [Tp.append, h] using hs⟩
  have hmay : x.may = 0 := by simpa using h
  obtain ⟨xb, armed, off, made⟩ := x
  obtain ⟨rfl, rfl⟩ : made = true ∧ off = false := by cases made <;> cases off <;> simp [Tp.may] at hmay ⊢
  obtain ⟨hx1, hx2, hx3⟩ := hx
  simp only at hx1 hx2 hx3
  have hok := hv w hs.tail
  have hlen := hok.2.1
  rw [tp_open] at hs
  obtain ⟨g, sv, rfl, hs⟩ := hs
  have hg := hs.blk
  simp only [nilc_some, fad_mk, pik_true, pik_false, cnd_true, cnd_false, gif_same, gif_tf, gif_ft, gif_undef, bi_add, bi_sub, bi_mul, bi_eql, bi_neq, bi_lss, bi_leq, bi_gtr, bi_geq, notB_bool, cvi_int, lenS_mk, lenT_mk, ext0, ext1, ext2, nilP_mk, nilS_mk, fldv_agg, jn0_k, jn1_k, jn2_k, jn1_and, jn1_or, ex_some, Option.isNone_some, Option.isNone_none, Bool.false_bne, Bool.bne_true, Bool.bne_false, Bool.true_bne, Bool.not_true, Bool.not_false, Bool.and_true, Bool.true_and, Bool.and_false, Bool.false_and, Bool.or_true, Bool.true_or, Bool.or_false, Bool.false_or, cond_true, cond_false, List.getElem?_toArray, List.getElem?_cons_zero, List.getElem?_cons_succ, Nat.zero_add, Nat.add_zero, Nat.reduceAdd, forall_const, ld1_eq hg, hs.p1.rd.len, rSl_len hok]
  rw [wi64 (by omega) (by omega)]
  refine ⟨fun y i w' => ∃ k : Nat, w' = w ∧ k ≤ s.l.length ∧ i = .int .i64 k ∧ y = .int .i64 (262144 - xb.length - (joined (s.l.take k)).length) ∧ xb.length + (joined (s.l.take k)).length ≤ 262144,
    fun _ i _ => (s.l.length - RowKit.intOf i).toNat, ⟨0, rfl, by omega, rfl, by simp [joined], by simp [joined]; omega⟩, ?_⟩
  rintro _ _ _ ⟨k, rfl, hk, rfl, rfl, hsum⟩ -
  simp only [nilc_some, fad_mk, pik_true, pik_false, cnd_true, cnd_false, gif_same, gif_tf, gif_ft, gif_undef, bi_add, bi_sub, bi_mul, bi_eql, bi_neq, bi_lss, bi_leq, bi_gtr, bi_geq, notB_bool, cvi_int, lenS_mk, lenT_mk, ext0, ext1, ext2, nilP_mk, nilS_mk, fldv_agg, jn0_k, jn1_k, jn2_k, jn1_and, jn1_or, ex_some, Option.isNone_some, Option.isNone_none, Bool.false_bne, Bool.bne_true, Bool.bne_false, Bool.true_bne, Bool.not_true, Bool.not_false, Bool.and_true, Bool.true_and, Bool.and_false, Bool.false_and, Bool.or_true, Bool.true_or, Bool.or_false, Bool.false_or, cond_true, cond_false, List.getElem?_toArray, List.getElem?_cons_zero, List.getElem?_cons_succ, Nat.zero_add, Nat.add_zero, Nat.reduceAdd, forall_const]
  rw [cnd_bool]
  refine ⟨fun h => ?_, fun h => ?_⟩
  · have hlt : k < s.l.length := by simpa using h
    obtain ⟨a, ha⟩ : ∃ a, s.l[k]? = some a := ⟨_, List.getElem?_eq_getElem hlt⟩
    have hak := rSl_ok hok ha
    refine rSl_ld1 hok ha rfl ?_
    simp only [nilc_some, fad_mk, pik_true, pik_false, cnd_true, cnd_false, gif_same, gif_tf, gif_ft, gif_undef, bi_add, bi_sub, bi_mul, bi_eql, bi_neq, bi_lss, bi_leq, bi_gtr, bi_geq, notB_bool, cvi_int, lenS_mk, lenT_mk, ext0, ext1, ext2, nilP_mk, nilS_mk, fldv_agg, jn0_k, jn1_k, jn2_k, jn1_and, jn1_or, ex_some, Option.isNone_some, Option.isNone_none, Bool.false_bne, Bool.bne_true, Bool.bne_false, Bool.true_bne, Bool.not_true, Bool.not_false, Bool.and_true, Bool.true_and, Bool.and_false, Bool.false_and, Bool.or_true, Bool.true_or, Bool.or_false, Bool.false_or, cond_true, cond_false, List.getElem?_toArray, List.getElem?_cons_zero, List.getElem?_cons_succ, Nat.zero_add, Nat.add_zero, Nat.reduceAdd, forall_const, rBytes_len hak]
    have hj := joined_take_succ ha
    have hjl := congrArg List.length hj
    rw [List.length_append] at hjl
    have hal := hak.2.1
    rw [cnd_bool]
    refine ⟨fun h => ?_, fun h => ?_⟩
    · have hle := joined_take_le s.l (k + 1)
      have h6 : 262144 < xb.length + (joined s.l).length := by simp at h; omega
      exact hR _ _ ⟨by simp [Tp.append, Tp.may, h6], by simpa [Tp.append, Tp.may, h6] using tp_i (x := ⟨xb, armed, false, true⟩) hs⟩
    · have h : a.l.length ≤ 262144 - xb.length - (joined (s.l.take k)).length := by simp at h; omega
      rw [wi64 (by omega) (by omega), wi64 (by omega) (by omega)]
      exact ⟨⟨k + 1, by simp, by omega, by simp, by congr 1; omega, by omega⟩, by simp [RowKit.intOf]; omega⟩
  have hkl : k = s.l.length := by simp at h; omega
  subst hkl
  rw [List.take_length] at hsum
  have h6 : ¬ 262144 < xb.length + (joined s.l).length := by omega
  refine ⟨fun i w' => ∃ (k : Nat) (sv : Value) (arm : Int), k ≤ s.l.length ∧ i = .int .i64 k ∧ (armed = -1 → arm = -1) ∧ (armed ≠ -1 → arm = armed - (joined (s.l.take k)).length ∧ 0 ≤ arm) ∧
      Sep w0 w' (blk g #[sv, .int .i64 arm, .bool false, .bool true] T_tape_Tape :: ownB sv (xb ++ joined (s.l.take k)) :: As),
    fun i _ => (s.l.length - RowKit.intOf i).toNat, ⟨0, sv, armed, by omega, rfl, id, fun h => ⟨by simp [joined], by omega⟩, by simpa [joined] using hs⟩, ?_⟩
  rintro _ w1 ⟨k, sv1, arm, hk, rfl, hm1, hm2, hs1⟩ -
  simp only [nilc_some, fad_mk, pik_true, pik_false, cnd_true, cnd_false, gif_same, gif_tf, gif_ft, gif_undef, bi_add, bi_sub, bi_mul, bi_eql, bi_neq, bi_lss, bi_leq, bi_gtr, bi_geq, notB_bool, cvi_int, lenS_mk, lenT_mk, ext0, ext1, ext2, nilP_mk, nilS_mk, fldv_agg, jn0_k, jn1_k, jn2_k, jn1_and, jn1_or, ex_some, Option.isNone_some, Option.isNone_none, Bool.false_bne, Bool.bne_true, Bool.bne_false, Bool.true_bne, Bool.not_true, Bool.not_false, Bool.and_true, Bool.true_and, Bool.and_false, Bool.false_and, Bool.or_true, Bool.true_or, Bool.or_false, Bool.false_or, cond_true, cond_false, List.getElem?_toArray, List.getElem?_cons_zero, List.getElem?_cons_succ, Nat.zero_add, Nat.add_zero, Nat.reduceAdd, forall_const]
  rw [cnd_bool]
  refine ⟨fun h => ?_, fun h => ?_⟩
  · have hlt : k < s.l.length := by simpa using h
    obtain ⟨a, ha⟩ : ∃ a, s.l[k]? = some a := ⟨_, List.getElem?_eq_getElem hlt⟩
    have hok1 := hv w1 hs1.tail.tail
    have hak := rSl_ok hok1 ha
    refine rSl_ld1 hok1 ha rfl ?_
    have hg1 := hs1.blk
    have hj := joined_take_succ ha
    have hle := joined_take_le s.l (k + 1)
    have hjl := congrArg List.length hj
    rw [List.length_append] at hjl
    have hal := hak.2.1
    obtain ⟨ap, ac, hav⟩ := hak.1.form
    have hac := hak.2.2 _ _ _ hav
    simp only [nilc_some, fad_mk, pik_true, pik_false, cnd_true, cnd_false, gif_same, gif_tf, gif_ft, gif_undef, bi_add, bi_sub, bi_mul, bi_eql, bi_neq, bi_lss, bi_leq, bi_gtr, bi_geq, notB_bool, cvi_int, lenS_mk, lenT_mk, ext0, ext1, ext2, nilP_mk, nilS_mk, fldv_agg, jn0_k, jn1_k, jn2_k, jn1_and, jn1_or, ex_some, Option.isNone_some, Option.isNone_none, Bool.false_bne, Bool.bne_true, Bool.bne_false, Bool.true_bne, Bool.not_true, Bool.not_false, Bool.and_true, Bool.true_and, Bool.and_false, Bool.false_and, Bool.or_true, Bool.true_or, Bool.or_false, Bool.false_or, cond_true, cond_false, List.getElem?_toArray, List.getElem?_cons_zero, List.getElem?_cons_succ, Nat.zero_add, Nat.add_zero, Nat.reduceAdd, forall_const, rBytes_len hak, ld1_eq hg1]
    refine ⟨fun y w' => ∃ (n : Nat) (arm' : Int), y = .int .i64 n ∧ n ≤ a.l.length ∧ (armed = -1 → n = a.l.length ∧ arm' = -1) ∧ (armed ≠ -1 → n = min a.l.length arm.toNat ∧ arm' = arm - n) ∧
        Sep w0 w' (blk g #[sv1, .int .i64 arm', .bool false, .bool true] T_tape_Tape :: ownB sv1 (xb ++ joined (s.l.take k)) :: As), ?_, ?_⟩
    · change cnd _ _ _
      rw [cnd_bool]
      refine ⟨fun h => ?_, fun h => ?_⟩
      · have harm : arm ≠ -1 := by simpa using h
        have hne : armed ≠ -1 := fun h => harm (hm1 h)
        obtain ⟨e1, e2⟩ := hm2 hne
        rw [min_int, show min (a.l.length : Int) arm = ((min a.l.length arm.toNat : Nat) : Int) by omega, bi_sub, wi64 (by omega) (by omega)]
        refine st1_s hs1 (by simp) rfl fun w2 hs2 => ?_
        exact ⟨min a.l.length arm.toNat, _, rfl, by omega, fun h => absurd h hne, fun _ => ⟨rfl, rfl⟩, hs2⟩
      · have harm : arm = -1 := by simpa using h
        have hne : armed = -1 := by
          rcases Classical.em (armed = -1) with h | h
          · exact h
          · have := hm2 h; omega
        exact ⟨a.l.length, arm, rfl, by omega, fun _ => ⟨rfl, harm⟩, fun h => absurd hne h, hs1⟩
    · rintro _ w2 ⟨n, arm', rfl, hn, hn1, hn2, hs2⟩ -
      have hs2 := hs2.drew (w2.drawn + 1)
      refine drH_at ?_
      simp only [nilc_some, fad_mk, pik_true, pik_false, cnd_true, cnd_false, gif_same, gif_tf, gif_ft, gif_undef, bi_add, bi_sub, bi_mul, bi_eql, bi_neq, bi_lss, bi_leq, bi_gtr, bi_geq, notB_bool, cvi_int, lenS_mk, lenT_mk, ext0, ext1, ext2, nilP_mk, nilS_mk, fldv_agg, jn0_k, jn1_k, jn2_k, jn1_and, jn1_or, ex_some, Option.isNone_some, Option.isNone_none, Bool.false_bne, Bool.bne_true, Bool.bne_false, Bool.true_bne, Bool.not_true, Bool.not_false, Bool.and_true, Bool.true_and, Bool.and_false, Bool.false_and, Bool.or_true, Bool.true_or, Bool.or_false, Bool.false_or, cond_true, cond_false, List.getElem?_toArray, List.getElem?_cons_zero, List.getElem?_cons_succ, Nat.zero_add, Nat.add_zero, Nat.reduceAdd, forall_const, rdS_ld1, ld1_eq hs2.blk]
      rw [hav, slc_to (by omega)]
      refine efC_efP ?_
      have hok2 := hv _ hs2.tail.tail
      have hak2 := rSl_ok hok2 ha
      have hr2 := hak2.1
      rw [hav] at hr2
      refine appB_s ST_bytes UT_bytes (by simp) hs2.p1 (hr2.take hn ac) (by simp; omega) fun v' w3 hs3 => ?_
      refine efC_st1 (st1_s hs3.p1 (by simp) hs3.one fun w4 hs4 => ?_)
      rw [cnd_bool]
      refine ⟨fun h => ?_, fun h => ?_⟩
      · have hna : n < a.l.length := by simpa using h
        have hne : armed ≠ -1 := fun h => by have := hn1 h; omega
        obtain ⟨e1, e2⟩ := hm2 hne
        obtain ⟨e3, e4⟩ := hn2 hne
        have hs5 := tp_i (x := ⟨xb ++ joined (s.l.take k) ++ a.l.take n, arm', false, true⟩) hs4
        refine cal_i (goes_spec hs5) ?_
        rintro _ w5 ⟨rfl, hs6⟩
        have h7 : ¬ (joined s.l).length ≤ armed := by omega
        have e8 : (joined s.l).take armed.toNat = joined (s.l.take k) ++ a.l.take n := by
          have e9 : joined s.l = joined (s.l.take k) ++ a.l ++ joined (s.l.drop (k + 1)) := by
            rw [← hj]
            unfold joined
            rw [← List.flatMap_append, List.take_append_drop]
          rw [e9, show armed.toNat = (joined (s.l.take k)).length + n by omega, List.append_assoc, List.take_append, List.take_of_length_le (by omega), Nat.add_sub_cancel_left, List.take_append_of_le_length (by omega)]
        refine hR _ _ ⟨by simp [Tp.append, Tp.may, h6, hne, h7], ?_⟩
        simpa [Tp.append, Tp.may, h6, hne, h7, e8, Tp.goes] using hs6
      · have hna : n = a.l.length := by simp at h; omega
        rw [wi64 (by omega) (by omega)]
        refine ⟨⟨k + 1, v', arm', by omega, by simp, fun h => (hn1 h).2, fun h => ?_, ?_⟩, by simp [RowKit.intOf]; omega⟩
        · have e1 := hm2 h
          have e2 := hn2 h
          omega
        · rw [hj, ← List.append_assoc]
          rw [hna, List.take_length] at hs4
          exact hs4
  · have hkl : k = s.l.length := by simp at h; omega
    subst hkl
    rw [List.take_length] at hs1 hm2
    by_cases hne : armed = -1
    · have e1 := hm1 hne
      subst e1
      exact hR _ _ ⟨by simp [Tp.append, Tp.may, h6, hne], by simpa [Tp.append, Tp.may, h6, hne] using tp_i (x := ⟨xb ++ joined s.l, -1, false, true⟩) hs1⟩
    · obtain ⟨e1, e2⟩ := hm2 hne
      have h7 : (joined s.l).length ≤ armed := by omega
      exact hR _ _ ⟨by simp [Tp.append, Tp.may, h6, hne, h7], by simpa [Tp.append, Tp.may, h6, hne, h7, e1] using tp_i (x := ⟨xb ++ joined s.l, arm, false, true⟩) hs1⟩
end
end Go.Fx
