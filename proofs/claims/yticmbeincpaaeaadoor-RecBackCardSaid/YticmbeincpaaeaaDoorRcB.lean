/-
  What stands at a place: the plain law; the program's and the document's.
-/
import Derived.Test.YticmbeincpaaeaaDoorRcA
set_option linter.unusedVariables false
set_option linter.unusedSimpArgs false
namespace Go.Fx
def gpay (r : List UInt8) (n : Nat) : List UInt8 := (r.drop 12).take n
def goodR (r : List UInt8) (n : Nat) : Prop := okP (gpay r n) ∧ (parB (gpay r n)).rcd = r.take (20 + n)
instance (r : List UInt8) (n : Nat) : Decidable (goodR r n) := by unfold goodR; infer_instance
/-- What stands at the beginning of r, and how many bytes it has; its error. -/
def takeR (r : List UInt8) : Blk × Nat × Int :=
  if r.length < 12 then (Blk.none, 0, 11)
  else if 246 < ofBe (r.take 4) then (Blk.none, 0, 90)
  else if r.length < 20 + ofBe (r.take 4) then (Blk.none, 0, 11)
  else if goodR r (ofBe (r.take 4)) then (parB (gpay r (ofBe (r.take 4))), 20 + ofBe (r.take 4), 0) else (Blk.none, 0, 90)
def takeX (l : List UInt8) (a : Int) : Blk × Int × Int :=
  if a < 0 ∨ (l.length : Int) < a then (Blk.none, 0, 1)
  else ((takeR (l.drop a.toNat)).1, (if (takeR (l.drop a.toNat)).2.2 = 0 then a + (takeR (l.drop a.toNat)).2.1 else 0), (takeR (l.drop a.toNat)).2.2)
theorem cut_rec {r : List UInt8} {n : Nat} : r.take (20 + n) = r.take 4 ++ (r.drop 4).take 8 ++ gpay r n ++ (r.drop (12 + n)).take 8 := by
  have h1 : r.take (20 + n) = r.take 4 ++ (r.drop 4).take (8 + (n + 8)) := by rw [← List.take_add]; congr 1; omega
  have h2 : (r.drop 4).take (8 + (n + 8)) = (r.drop 4).take 8 ++ (r.drop 12).take (n + 8) := by rw [List.take_add, List.drop_drop]
  have h3 : (r.drop 12).take (n + 8) = gpay r n ++ (r.drop (12 + n)).take 8 := by rw [List.take_add, List.drop_drop]; rfl
  rw [h1, h2, h3]
  simp only [List.append_assoc]
theorem cut_hd {r : List UInt8} {n : Nat} : r.take (12 + n) = r.take 4 ++ (r.drop 4).take 8 ++ gpay r n := by
  have h1 : r.take (12 + n) = r.take 4 ++ (r.drop 4).take (8 + n) := by rw [← List.take_add]; congr 1; omega
  have h2 : (r.drop 4).take (8 + n) = (r.drop 4).take 8 ++ (r.drop 12).take n := by rw [List.take_add, List.drop_drop]
  rw [h1, h2]
  simp only [gpay, List.append_assoc]
theorem good_iff {r : List UInt8} (hl : 20 + ofBe (r.take 4) ≤ r.length) (hok : okP (gpay r (ofBe (r.take 4)))) :
    (parB (gpay r (ofBe (r.take 4)))).rcd = r.take (20 + ofBe (r.take 4)) ↔ (parB (gpay r (ofBe (r.take 4)))).h.toNat = ofBe ((r.drop 4).take 8) ∧ tail8 (r.take (12 + ofBe (r.take 4))) = (r.drop (12 + ofBe (r.take 4))).take 8 := by
  have h4 : (r.take 4).length = 4 := by simp; omega
  have h8 : ((r.drop 4).take 8).length = 8 := by simp; omega
  have hb4 := be_ofBe (r.take 4)
  have hb8 := be_ofBe ((r.drop 4).take 8)
  rw [h4] at hb4
  rw [h8] at hb8
  generalize hn : ofBe (r.take 4) = n at *
  have hp : (gpay r n).length = n := by simp [gpay]; omega
  have hx : (parB (gpay r n)).bytes = gpay r n := hok.2.2.2
  have hh : (parB (gpay r n)).h ≤ maxI := hok.2.1
  generalize parB (gpay r n) = x at *
  have hhd : x.hd = r.take 4 ++ be 8 x.h.toNat ++ gpay r n := by unfold Blk.hd; rw [hx, hp, hb4]
  unfold Blk.rcd
  rw [hhd, cut_rec, cut_hd]
  constructor
  · intro h
    have h1 := List.append_inj h (by simp only [List.length_append, be_length, h8])
    have h2 := List.append_inj h1.1 (by simp only [List.length_append, be_length, h8])
    have h3 := (List.append_inj h2.1 rfl).2
    refine ⟨?_, ?_⟩
    · have := congrArg ofBe h3
      rw [ofBe_b8 (by unfold maxI at hh; omega)] at this
      exact this
    · rw [← h3]; exact h1.2
  · rintro ⟨h1, h2⟩
    have h3 : be 8 x.h.toNat = (r.drop 4).take 8 := by rw [h1, hb8]
    rw [h3, h2]
theorem goodR_iff {r : List UInt8} (hl : 20 + ofBe (r.take 4) ≤ r.length) : goodR r (ofBe (r.take 4)) ↔ okP (gpay r (ofBe (r.take 4))) ∧ (parB (gpay r (ofBe (r.take 4)))).h.toNat = ofBe ((r.drop 4).take 8) ∧ tail8 (r.take (12 + ofBe (r.take 4))) = (r.drop (12 + ofBe (r.take 4))).take 8 := by
  constructor
  · rintro ⟨h1, h2⟩
    exact ⟨h1, (good_iff hl h1).1 h2⟩
  · rintro ⟨h1, h2⟩
    exact ⟨h1, (good_iff hl h1).2 h2⟩
section
variable {w0 w : World} {As : List Asn} {v : Value} {l : List UInt8} {a : Int}
abbrev nb (g : Nat) : Asn := blk g (Rdr.cells Q_api_Block (vz 32, (0 : Int), Value.slice Option.none 0 0)).toArray T_api_Block
theorem recTake_spec (hc : Cub w) (hb : RdB w.heap v l) (hcap : capOk v) (hl : l.length ≤ 9223372036854775807) (ha : -9223372036854775808 ≤ a ∧ a ≤ 9223372036854775807) : cal P f_rec_Take [v, .int .i64 a] w fun r w' =>
    ∃ v', r = .tuple #[bq (takeX l a).1 v', .int .i64 (takeX l a).2.1, .int .i64 (takeX l a).2.2] ∧ Sep w w' [ownB v' (takeX l a).1.d] := by
  refine s_rec_Take fun R hR => ?_
  unfold c_rec_Take
  refine alloc_s (Sep.start w) (A_api_Block w) fun g2 w1 hs1 => ?_
  have bad : ∀ {z : World} {Bs : List Asn} {c : Int}, Sep w z (nb g2 :: Bs) → takeX l a = (Blk.none, 0, c) → rdP P (Instr.build T_api_Block #[]) z fun t52 => stN 34 (.pointer (some ⟨g2, 0, none⟩)) t52 z fun w => ldN 34 (.pointer (some ⟨g2, 0, none⟩)) w.heap fun r1 => R (.tuple #[r1, .int .i64 0, .int .i64 c]) w := fun {z Bs c} h hp => by
    rw [B_api_Block]
    refine St_api_Block h (one_api_Block rfl) fun w10 hs10 => ?_
    simp only [L_api_Block hs10.blk, L_api_Block__Parent hs10.blk, L_api_Block__Height hs10.blk, L_api_Block__Data hs10.blk]
    rw [hp] at hR
    exact hR _ _ ⟨.slice none 0 0, rfl, ((Sep.start w).old hs10.fr0).nil⟩
  simp only [nilc_some, fad_mk, pik_true, pik_false, cnd_true, cnd_false, gif_same, gif_tf, gif_ft, gif_undef, bi_add, bi_sub, bi_mul, bi_eql, bi_neq, bi_lss, bi_leq, bi_gtr, bi_geq, notB_bool, cvi_int, lenS_mk, lenT_mk, ext0, ext1, ext2, nilP_mk, nilS_mk, fldv_agg, jn0_k, jn1_k, jn2_k, jn1_and, jn1_or, ex_some, Option.isNone_some, Option.isNone_none, Bool.false_bne, Bool.bne_true, Bool.bne_false, Bool.true_bne, Bool.not_true, Bool.not_false, Bool.and_true, Bool.true_and, Bool.and_false, Bool.false_and, Bool.or_true, Bool.true_or, Bool.or_false, Bool.false_or, cond_true, cond_false, List.getElem?_toArray, List.getElem?_cons_zero, List.getElem?_cons_succ, Nat.zero_add, Nat.add_zero, Nat.reduceAdd, forall_const, hb.len]
  rw [cnd_bool]
  refine ⟨fun h => ?_, fun h => ?_⟩
  · simp only [Bool.or_eq_true, decide_eq_true_eq] at h
    refine bad hs1 ?_
    unfold takeX
    rw [if_pos (by omega)]
  simp only [Bool.or_eq_false_iff, decide_eq_false_iff_not] at h
  obtain ⟨i, rfl⟩ := Int.eq_ofNat_of_zero_le (show 0 ≤ a by omega)
  have hx : takeX l (i : Int) = ((takeR (l.drop i)).1, (if (takeR (l.drop i)).2.2 = 0 then (i : Int) + (takeR (l.drop i)).2.1 else 0), (takeR (l.drop i)).2.2) := by unfold takeX; rw [if_neg (by omega)]; rfl
  have hil : i ≤ l.length := by omega
  obtain ⟨av, cv, rfl⟩ := hb.form
  have hcv : l.length ≤ cv := hcap _ _ _ rfl
  rw [slc_from hil]
  have hr0 : ∀ {z : World} {Bs : List Asn}, Sep w z Bs → RdB z.heap (.slice (if cv = i then av else av.map (·.add (i * 1))) (l.length - i) (cv - i)) (l.drop i) := fun {z Bs} hz => (hz.rdB hb).drop (k := i) hil hcv (cv - i)
  generalize (if cv = i then av else av.map (·.add (i * 1))) = ar at *
  have hrl : l.length - i = (l.drop i).length := by simp
  rw [hrl] at hr0 ⊢
  obtain ⟨rc, hrc⟩ : ∃ rc, rc = cv - i := ⟨_, rfl⟩
  rw [← hrc] at hr0 ⊢
  have hrcl : (l.drop i).length ≤ rc := by simp; omega
  have hrm : i + (l.drop i).length ≤ 9223372036854775807 := by simp; omega
  generalize l.drop i = r at *
  clear hrl hrc
  simp only [nilc_some, fad_mk, pik_true, pik_false, cnd_true, cnd_false, gif_same, gif_tf, gif_ft, gif_undef, bi_add, bi_sub, bi_mul, bi_eql, bi_neq, bi_lss, bi_leq, bi_gtr, bi_geq, notB_bool, cvi_int, lenS_mk, lenT_mk, ext0, ext1, ext2, nilP_mk, nilS_mk, fldv_agg, jn0_k, jn1_k, jn2_k, jn1_and, jn1_or, ex_some, Option.isNone_some, Option.isNone_none, Bool.false_bne, Bool.bne_true, Bool.bne_false, Bool.true_bne, Bool.not_true, Bool.not_false, Bool.and_true, Bool.true_and, Bool.and_false, Bool.false_and, Bool.or_true, Bool.true_or, Bool.or_false, Bool.false_or, cond_true, cond_false, List.getElem?_toArray, List.getElem?_cons_zero, List.getElem?_cons_succ, Nat.zero_add, Nat.add_zero, Nat.reduceAdd, forall_const]
  rw [cnd_bool]
  refine ⟨fun h => ?_, fun h12 => ?_⟩
  · refine bad hs1 ?_
    have : r.length < 12 := by simp at h; omega
    rw [hx]; unfold takeR; rw [if_pos this]; rfl
  have h12 : ¬ r.length < 12 := by simp at h12; omega
  rw [show (Value.int .i64 4) = .int .i64 ((4 : Nat) : Int) from rfl, slc_to (by omega)]
  have h4 : (r.take 4).length = 4 := by simp; omega
  refine cal_i (ReadS ((hr0 hs1).take (k := 4) (by omega) rc) (by omega)) ?_
  rintro _ w2 ⟨gu, s2, rfl, hs2⟩
  replace hs2 := hs1.join hs2
  refine cal_i (uIntS hs2) ?_
  rintro _ w3 ⟨rfl, s3, hs3⟩
  have hs3 : Sep w w3 [nb g2] := hs3.tail.tail
  have et : (tk 4 (r.take 4) 0).1 = r.take 4 := by unfold tk; rw [if_pos rfl, if_neg (by omega)]; exact List.take_of_length_le (Nat.le_of_eq h4)
  rw [et]
  have hn4 := ofBe_lt (r.take 4)
  rw [h4] at hn4
  obtain ⟨n, hn⟩ : ∃ n, n = ofBe (r.take 4) := ⟨_, rfl⟩
  rw [← hn] at hn4 ⊢
  have hR4 : takeR r = if 246 < n then (Blk.none, 0, 90) else if r.length < 20 + n then (Blk.none, 0, 11) else if goodR r n then (parB (gpay r n), 20 + n, 0) else (Blk.none, 0, 90) := by unfold takeR; rw [if_neg h12, ← hn]
  simp only [nilc_some, fad_mk, pik_true, pik_false, cnd_true, cnd_false, gif_same, gif_tf, gif_ft, gif_undef, bi_add, bi_sub, bi_mul, bi_eql, bi_neq, bi_lss, bi_leq, bi_gtr, bi_geq, notB_bool, cvi_int, lenS_mk, lenT_mk, ext0, ext1, ext2, nilP_mk, nilS_mk, fldv_agg, jn0_k, jn1_k, jn2_k, jn1_and, jn1_or, ex_some, Option.isNone_some, Option.isNone_none, Bool.false_bne, Bool.bne_true, Bool.bne_false, Bool.true_bne, Bool.not_true, Bool.not_false, Bool.and_true, Bool.true_and, Bool.and_false, Bool.false_and, Bool.or_true, Bool.true_or, Bool.or_false, Bool.false_or, cond_true, cond_false, List.getElem?_toArray, List.getElem?_cons_zero, List.getElem?_cons_succ, Nat.zero_add, Nat.add_zero, Nat.reduceAdd, forall_const]
  rw [cnd_bool]
  refine ⟨fun h => ?_, fun h246 => ?_⟩
  · refine bad hs3 ?_
    have : 246 < n := by simp at h; omega
    rw [hx, hR4, if_pos this]; rfl
  have h246 : ¬ 246 < n := by simp at h246; omega
  rw [if_neg h246] at hR4
  have e1 : IntKind.i64.wrap (12 + IntKind.i64.wrap (n : Int)) = ((12 + n : Nat) : Int) := by rw [wi64 (x := (n : Int)) (by omega) (by omega), wi64 (by omega) (by omega)]; omega
  have e2 : IntKind.i64.wrap (((12 + n : Nat) : Int) + 8) = ((20 + n : Nat) : Int) := by rw [wi64 (by omega) (by omega)]; omega
  simp only [e1, e2, nilc_some, fad_mk, pik_true, pik_false, cnd_true, cnd_false, gif_same, gif_tf, gif_ft, gif_undef, bi_add, bi_sub, bi_mul, bi_eql, bi_neq, bi_lss, bi_leq, bi_gtr, bi_geq, notB_bool, cvi_int, lenS_mk, lenT_mk, ext0, ext1, ext2, nilP_mk, nilS_mk, fldv_agg, jn0_k, jn1_k, jn2_k, jn1_and, jn1_or, ex_some, Option.isNone_some, Option.isNone_none, Bool.false_bne, Bool.bne_true, Bool.bne_false, Bool.true_bne, Bool.not_true, Bool.not_false, Bool.and_true, Bool.true_and, Bool.and_false, Bool.false_and, Bool.or_true, Bool.true_or, Bool.or_false, Bool.false_or, cond_true, cond_false, List.getElem?_toArray, List.getElem?_cons_zero, List.getElem?_cons_succ, Nat.zero_add, Nat.add_zero, Nat.reduceAdd, forall_const]
  rw [cnd_bool]
  refine ⟨fun h => ?_, fun h20 => ?_⟩
  · refine bad hs3 ?_
    have : r.length < 20 + n := by simp at h; omega
    rw [hx, hR4, if_pos this]; rfl
  have h20 : ¬ r.length < 20 + n := by simp at h20; omega
  rw [if_neg h20] at hR4
  rw [show (Value.int .i64 12) = .int .i64 ((12 : Nat) : Int) from rfl, slc_mid (by omega) (by omega)]
  have hpay : ∀ {z : World} {Bs : List Asn}, Sep w z Bs → RdB z.heap (.slice (if rc = 12 then ar else ar.map (·.add (12 * 1))) (12 + n - 12) (rc - 12)) (gpay r n) := fun {z Bs} hz => by
    have := RdB.mid (i := 12) (j := 12 + n) (hr0 hz) hrcl (by omega) (by omega)
    rw [Nat.add_sub_cancel_left] at this
    rw [Nat.add_sub_cancel_left]
    exact this
  refine cal_i (Parse_spec (hpay hs3)) ?_
  rintro _ w4 ⟨v4, rfl, hs4⟩
  replace hs4 := hs3.join hs4
  simp only [nilc_some, fad_mk, pik_true, pik_false, cnd_true, cnd_false, gif_same, gif_tf, gif_ft, gif_undef, bi_add, bi_sub, bi_mul, bi_eql, bi_neq, bi_lss, bi_leq, bi_gtr, bi_geq, notB_bool, cvi_int, lenS_mk, lenT_mk, ext0, ext1, ext2, nilP_mk, nilS_mk, fldv_agg, jn0_k, jn1_k, jn2_k, jn1_and, jn1_or, ex_some, Option.isNone_some, Option.isNone_none, Bool.false_bne, Bool.bne_true, Bool.bne_false, Bool.true_bne, Bool.not_true, Bool.not_false, Bool.and_true, Bool.true_and, Bool.and_false, Bool.false_and, Bool.or_true, Bool.true_or, Bool.or_false, Bool.false_or, cond_true, cond_false, List.getElem?_toArray, List.getElem?_cons_zero, List.getElem?_cons_succ, Nat.zero_add, Nat.add_zero, Nat.reduceAdd, forall_const]
  refine alloc_s hs4 (A_api_Block w4) fun g5 w5 hs5 => ?_
  refine St_api_Block hs5 (one_api_Block (Sep.one hs5.p1)) fun w6 hs6 => ?_
  rw [slc_to (by omega)]
  refine cal_i (shaSum_spec (hc.fr hs6.fr0) ((hr0 hs6).take (k := 12 + n) (by omega) rc) (by simp; omega)) ?_
  rintro _ w7 ⟨rfl, hf7⟩
  have hs7 := hs6.old hf7
  refine alloc_s hs7 (A_api_ID w7) fun g8 w8 hs8 => ?_
  refine St_api_ID hs8 fun w9 hs9 => ?_
  have gI := goodR_iff (r := r) (by rw [← hn]; omega)
  rw [← hn] at gI
  have e3 : IntKind.i64.wrap (IntKind.i64.wrap ((i : Int) + ((12 + n : Nat) : Int)) + 8) = (i : Int) + ((20 + n : Nat) : Int) := by
    rw [wi64 (x := (i : Int) + ((12 + n : Nat) : Int)) (by omega) (by omega), wi64 (by omega) (by omega)]; omega
  have hng : ¬ goodR r n → takeX l (i : Int) = (Blk.none, 0, 90) := fun hg => by rw [hx, hR4, if_neg hg]; rfl
  replace hs9 : Sep w w9 [blk g8 (Rdr.cells (rVec 32) (shaM (r.take (12 + n)))).toArray T_api_ID, bb g5 (parse (gpay r n)) v4, ownB v4 (parse (gpay r n)).d, nb g2] := hs9
  refine drH_S hs9 fun w10 hs10 _ => ?_
  by_cases hok : okP (gpay r n)
  case neg =>
    have he : parseE (gpay r n) = 30 := if_neg hok
    simp only [he, nilc_some, fad_mk, pik_true, pik_false, cnd_true, cnd_false, gif_same, gif_tf, gif_ft, gif_undef, bi_add, bi_sub, bi_mul, bi_eql, bi_neq, bi_lss, bi_leq, bi_gtr, bi_geq, notB_bool, cvi_int, lenS_mk, lenT_mk, ext0, ext1, ext2, nilP_mk, nilS_mk, fldv_agg, jn0_k, jn1_k, jn2_k, jn1_and, jn1_or, ex_some, Option.isNone_some, Option.isNone_none, Bool.false_bne, Bool.bne_true, Bool.bne_false, Bool.true_bne, Bool.not_true, Bool.not_false, Bool.and_true, Bool.true_and, Bool.and_false, Bool.false_and, Bool.or_true, Bool.true_or, Bool.or_false, Bool.false_or, cond_true, cond_false, List.getElem?_toArray, List.getElem?_cons_zero, List.getElem?_cons_succ, Nat.zero_add, Nat.add_zero, Nat.reduceAdd, forall_const, show ((30 : Int) != 0) = true from rfl]
    exact bad hs10.p3 (hng fun hg => hok hg.1)
  have hp : parse (gpay r n) = parB (gpay r n) := if_pos hok
  have he : parseE (gpay r n) = 0 := if_pos hok
  have hck := Blk.chk_ok hok.2.2.1
  have hh := hok.2.1
  rw [hp] at hs10
  simp only [hp, he, nilc_some, fad_mk, pik_true, pik_false, cnd_true, cnd_false, gif_same, gif_tf, gif_ft, gif_undef, bi_add, bi_sub, bi_mul, bi_eql, bi_neq, bi_lss, bi_leq, bi_gtr, bi_geq, notB_bool, cvi_int, lenS_mk, lenT_mk, ext0, ext1, ext2, nilP_mk, nilS_mk, fldv_agg, jn0_k, jn1_k, jn2_k, jn1_and, jn1_or, ex_some, Option.isNone_some, Option.isNone_none, Bool.false_bne, Bool.bne_true, Bool.bne_false, Bool.true_bne, Bool.not_true, Bool.not_false, Bool.and_true, Bool.true_and, Bool.and_false, Bool.false_and, Bool.or_true, Bool.true_or, Bool.or_false, Bool.false_or, cond_true, cond_false, List.getElem?_toArray, List.getElem?_cons_zero, List.getElem?_cons_succ, Nat.zero_add, Nat.add_zero, Nat.reduceAdd, forall_const, show ((0 : Int) != 0) = false from rfl]
  obtain ⟨x, hxx⟩ : ∃ x, x = parB (gpay r n) := ⟨_, rfl⟩
  rw [← hxx] at hs10 gI hck hh hR4
  rw [← hxx]
  obtain ⟨As, hAs⟩ : ∃ As, As = [blk g8 (Rdr.cells (rVec 32) (shaM (r.take (12 + n)))).toArray T_api_ID, bb g5 x v4, ownB v4 x.d, nb g2] := ⟨_, rfl⟩
  replace hs10 : Sep w w10 As := by rw [hAs]; exact hs10
  rw [← hAs]
  have h48 : RdB w.heap (.slice ar r.length rc) r := hr0 (Sep.start w)
  refine jn1_dup ?_
  refine rdS_ld (v := .int .i64 x.h) (fun u hu K hk => by rw [hAs] at hu; exact (L_api_Block__Height (Sep.p1 hu).blk K).mpr hk) ?_
  simp only [nilc_some, fad_mk, pik_true, pik_false, cnd_true, cnd_false, gif_same, gif_tf, gif_ft, gif_undef, bi_add, bi_sub, bi_mul, bi_eql, bi_neq, bi_lss, bi_leq, bi_gtr, bi_geq, notB_bool, cvi_int, lenS_mk, lenT_mk, ext0, ext1, ext2, nilP_mk, nilS_mk, fldv_agg, jn0_k, jn1_k, jn2_k, jn1_and, jn1_or, ex_some, Option.isNone_some, Option.isNone_none, Bool.false_bne, Bool.bne_true, Bool.bne_false, Bool.true_bne, Bool.not_true, Bool.not_false, Bool.and_true, Bool.true_and, Bool.and_false, Bool.false_and, Bool.or_true, Bool.true_or, Bool.or_false, Bool.false_or, cond_true, cond_false, List.getElem?_toArray, List.getElem?_cons_zero, List.getElem?_cons_succ, Nat.zero_add, Nat.add_zero, Nat.reduceAdd, forall_const, u64_h hck.1 hh]
  rw [slc_mid (by omega) (by omega)]
  have h8 : ((r.drop 4).take 8).length = 8 := by simp; omega
  refine efS_i (cal_i (ReadS (l := (r.drop 4).take 8) (RdB.mid (i := 4) (j := 12) (hr0 hs10) hrcl (by omega) (by omega)) (by omega)) ?_)
  rintro _ w11 ⟨gu2, s11, rfl, hs11⟩
  replace hs11 := hs10.join hs11
  refine ⟨hs11.tail.tail, ?_⟩
  refine efS_i (cal_i (uLongS hs11) ?_)
  rintro _ w12 ⟨rfl, s12, hs12⟩
  have hs12 : Sep w w12 As := hs12.tail.tail
  refine ⟨hs12, ?_⟩
  have et8 : (tk 8 ((r.drop 4).take 8) 0).1 = (r.drop 4).take 8 := by unfold tk; rw [if_pos rfl, if_neg (by omega)]; exact List.take_of_length_le (Nat.le_of_eq h8)
  rw [et8]
  by_cases hcmp : x.h.toNat = ofBe ((r.drop 4).take 8)
  case neg =>
    have e : (((x.h.toNat : Nat) : Int) != ((ofBe ((r.drop 4).take 8) : Nat) : Int)) = true := by simp only [bne_iff_ne, ne_eq]; omega
    simp only [nilc_some, fad_mk, pik_true, pik_false, cnd_true, cnd_false, gif_same, gif_tf, gif_ft, gif_undef, bi_add, bi_sub, bi_mul, bi_eql, bi_neq, bi_lss, bi_leq, bi_gtr, bi_geq, notB_bool, cvi_int, lenS_mk, lenT_mk, ext0, ext1, ext2, nilP_mk, nilS_mk, fldv_agg, jn0_k, jn1_k, jn2_k, jn1_and, jn1_or, ex_some, Option.isNone_some, Option.isNone_none, Bool.false_bne, Bool.bne_true, Bool.bne_false, Bool.true_bne, Bool.not_true, Bool.not_false, Bool.and_true, Bool.true_and, Bool.and_false, Bool.false_and, Bool.or_true, Bool.true_or, Bool.or_false, Bool.false_or, cond_true, cond_false, List.getElem?_toArray, List.getElem?_cons_zero, List.getElem?_cons_succ, Nat.zero_add, Nat.add_zero, Nat.reduceAdd, forall_const, e]
    rw [hAs] at hs12
    exact bad hs12.p3 (hng fun hg => hcmp (gI.1 hg).2.1)
  have e : (((x.h.toNat : Nat) : Int) != ((ofBe ((r.drop 4).take 8) : Nat) : Int)) = false := by rw [hcmp]; simp
  simp only [nilc_some, fad_mk, pik_true, pik_false, cnd_true, cnd_false, gif_same, gif_tf, gif_ft, gif_undef, bi_add, bi_sub, bi_mul, bi_eql, bi_neq, bi_lss, bi_leq, bi_gtr, bi_geq, notB_bool, cvi_int, lenS_mk, lenT_mk, ext0, ext1, ext2, nilP_mk, nilS_mk, fldv_agg, jn0_k, jn1_k, jn2_k, jn1_and, jn1_or, ex_some, Option.isNone_some, Option.isNone_none, Bool.false_bne, Bool.bne_true, Bool.bne_false, Bool.true_bne, Bool.not_true, Bool.not_false, Bool.and_true, Bool.true_and, Bool.and_false, Bool.false_and, Bool.or_true, Bool.true_or, Bool.or_false, Bool.false_or, cond_true, cond_false, List.getElem?_toArray, List.getElem?_cons_zero, List.getElem?_cons_succ, Nat.zero_add, Nat.add_zero, Nat.reduceAdd, forall_const, e]
  refine jn1_dup ?_
  rw [show (Value.int .i64 8) = .int .i64 ((8 : Nat) : Int) from rfl, sla_to (by omega), slc_mid (by omega) (by omega)]
  have hrs : RdB w12.heap (.slice (some ⟨g8, 0, none⟩) 8 32) (tail8 (r.take (12 + n))) := by
    rw [hAs] at hs12
    exact rd_arr (k := 8) hs12 (by omega)
  have hrt := RdB.mid (i := 12 + n) (j := 20 + n) (hr0 hs12) hrcl (by omega) (by omega)
  have e20 : 20 + n - (12 + n) = 8 := by omega
  rw [e20] at hrt
  rw [e20]
  refine efS_i (cal_i (bEqual_spec hrs hrt) ?_)
  rintro _ _ ⟨rfl, rfl⟩
  refine ⟨hs12, ?_⟩
  simp only [nilc_some, fad_mk, pik_true, pik_false, cnd_true, cnd_false, gif_same, gif_tf, gif_ft, gif_undef, bi_add, bi_sub, bi_mul, bi_eql, bi_neq, bi_lss, bi_leq, bi_gtr, bi_geq, notB_bool, cvi_int, lenS_mk, lenT_mk, ext0, ext1, ext2, nilP_mk, nilS_mk, fldv_agg, jn0_k, jn1_k, jn2_k, jn1_and, jn1_or, ex_some, Option.isNone_some, Option.isNone_none, Bool.false_bne, Bool.bne_true, Bool.bne_false, Bool.true_bne, Bool.not_true, Bool.not_false, Bool.and_true, Bool.true_and, Bool.and_false, Bool.false_and, Bool.or_true, Bool.true_or, Bool.or_false, Bool.false_or, cond_true, cond_false, List.getElem?_toArray, List.getElem?_cons_zero, List.getElem?_cons_succ, Nat.zero_add, Nat.add_zero, Nat.reduceAdd, forall_const]
  rw [cnd_bool]
  rw [hAs] at hs12
  refine ⟨fun h => ?_, fun h => ?_⟩
  · have h : ¬ tail8 (r.take (12 + n)) = (r.drop (12 + n)).take 8 := by simpa using h
    exact bad hs12.p3 (hng fun hg => h (gI.1 hg).2.2)
  · have h : tail8 (r.take (12 + n)) = (r.drop (12 + n)).take 8 := by simpa using h
    have hg : goodR r n := gI.2 ⟨hok, hcmp, h⟩
    rw [if_pos hg] at hR4
    simp only [L_api_Block (Sep.p1 hs12).blk, L_api_Block__Parent (Sep.p1 hs12).blk, L_api_Block__Height (Sep.p1 hs12).blk, L_api_Block__Data (Sep.p1 hs12).blk]
    refine St_api_Block hs12.p3 (one_api_Block (Sep.one (hs12.pick [2] 4))) fun w13 hs13 => ?_
    simp only [L_api_Block hs13.blk, L_api_Block__Parent hs13.blk, L_api_Block__Height hs13.blk, L_api_Block__Data hs13.blk, e3]
    rw [hx, hR4] at hR
    exact hR _ _ ⟨v4, by simp, Sep.dropR (As := [ownB v4 x.d]) hs13.p3⟩
theorem rRecTake_spec (hb : RdB w.heap v l) (hcap : capOk v) (hl : l.length ≤ 9223372036854775807) (ha : -9223372036854775808 ≤ a ∧ a ≤ 9223372036854775807) : cal P f_ref09_Take [v, .int .i64 a] w fun r w' =>
    ∃ v', r = .tuple #[bq (takeX l a).1 v', .int .i64 (takeX l a).2.1, .int .i64 (takeX l a).2.2] ∧ Sep w w' [ownB v' (takeX l a).1.d] := by
  refine s_ref09_Take fun R hR => ?_
  unfold c_ref09_Take
  refine alloc_s (Sep.start w) (A_api_Block w) fun g2 w1 hs1 => ?_
  have bad : ∀ {z : World} {Bs : List Asn} {c : Int}, Sep w z (nb g2 :: Bs) → takeX l a = (Blk.none, 0, c) → rdP P (Instr.build T_api_Block #[]) z fun t52 => stN 34 (.pointer (some ⟨g2, 0, none⟩)) t52 z fun w => ldN 34 (.pointer (some ⟨g2, 0, none⟩)) w.heap fun r1 => R (.tuple #[r1, .int .i64 0, .int .i64 c]) w := fun {z Bs c} h hp => by
    rw [B_api_Block]
    refine St_api_Block h (one_api_Block rfl) fun w10 hs10 => ?_
    simp only [L_api_Block hs10.blk, L_api_Block__Parent hs10.blk, L_api_Block__Height hs10.blk, L_api_Block__Data hs10.blk]
    rw [hp] at hR
    exact hR _ _ ⟨.slice none 0 0, rfl, ((Sep.start w).old hs10.fr0).nil⟩
  simp only [nilc_some, fad_mk, pik_true, pik_false, cnd_true, cnd_false, gif_same, gif_tf, gif_ft, gif_undef, bi_add, bi_sub, bi_mul, bi_eql, bi_neq, bi_lss, bi_leq, bi_gtr, bi_geq, notB_bool, cvi_int, lenS_mk, lenT_mk, ext0, ext1, ext2, nilP_mk, nilS_mk, fldv_agg, jn0_k, jn1_k, jn2_k, jn1_and, jn1_or, ex_some, Option.isNone_some, Option.isNone_none, Bool.false_bne, Bool.bne_true, Bool.bne_false, Bool.true_bne, Bool.not_true, Bool.not_false, Bool.and_true, Bool.true_and, Bool.and_false, Bool.false_and, Bool.or_true, Bool.true_or, Bool.or_false, Bool.false_or, cond_true, cond_false, List.getElem?_toArray, List.getElem?_cons_zero, List.getElem?_cons_succ, Nat.zero_add, Nat.add_zero, Nat.reduceAdd, forall_const, hb.len]
  rw [cnd_bool]
  refine ⟨fun h => ?_, fun h => ?_⟩
  · simp only [Bool.or_eq_true, decide_eq_true_eq] at h
    refine bad hs1 ?_
    unfold takeX
    rw [if_pos (by omega)]
  simp only [Bool.or_eq_false_iff, decide_eq_false_iff_not] at h
  obtain ⟨i, rfl⟩ := Int.eq_ofNat_of_zero_le (show 0 ≤ a by omega)
  have hx : takeX l (i : Int) = ((takeR (l.drop i)).1, (if (takeR (l.drop i)).2.2 = 0 then (i : Int) + (takeR (l.drop i)).2.1 else 0), (takeR (l.drop i)).2.2) := by unfold takeX; rw [if_neg (by omega)]; rfl
  have hil : i ≤ l.length := by omega
  obtain ⟨av, cv, rfl⟩ := hb.form
  have hcv : l.length ≤ cv := hcap _ _ _ rfl
  rw [slc_from hil]
  have hr0 : ∀ {z : World} {Bs : List Asn}, Sep w z Bs → RdB z.heap (.slice (if cv = i then av else av.map (·.add (i * 1))) (l.length - i) (cv - i)) (l.drop i) := fun {z Bs} hz => (hz.rdB hb).drop (k := i) hil hcv (cv - i)
  generalize (if cv = i then av else av.map (·.add (i * 1))) = ar at *
  have hrl : l.length - i = (l.drop i).length := by simp
  rw [hrl] at hr0 ⊢
  obtain ⟨rc, hrc⟩ : ∃ rc, rc = cv - i := ⟨_, rfl⟩
  rw [← hrc] at hr0 ⊢
  have hrcl : (l.drop i).length ≤ rc := by simp; omega
  have hrm : i + (l.drop i).length ≤ 9223372036854775807 := by simp; omega
  generalize l.drop i = r at *
  clear hrl hrc
  simp only [nilc_some, fad_mk, pik_true, pik_false, cnd_true, cnd_false, gif_same, gif_tf, gif_ft, gif_undef, bi_add, bi_sub, bi_mul, bi_eql, bi_neq, bi_lss, bi_leq, bi_gtr, bi_geq, notB_bool, cvi_int, lenS_mk, lenT_mk, ext0, ext1, ext2, nilP_mk, nilS_mk, fldv_agg, jn0_k, jn1_k, jn2_k, jn1_and, jn1_or, ex_some, Option.isNone_some, Option.isNone_none, Bool.false_bne, Bool.bne_true, Bool.bne_false, Bool.true_bne, Bool.not_true, Bool.not_false, Bool.and_true, Bool.true_and, Bool.and_false, Bool.false_and, Bool.or_true, Bool.true_or, Bool.or_false, Bool.false_or, cond_true, cond_false, List.getElem?_toArray, List.getElem?_cons_zero, List.getElem?_cons_succ, Nat.zero_add, Nat.add_zero, Nat.reduceAdd, forall_const]
  rw [cnd_bool]
  refine ⟨fun h => ?_, fun h12 => ?_⟩
  · refine bad hs1 ?_
    have : r.length < 12 := by simp at h; omega
    rw [hx]; unfold takeR; rw [if_pos this]; rfl
  have h12 : ¬ r.length < 12 := by simp at h12; omega
  rw [show (Value.int .i64 4) = .int .i64 ((4 : Nat) : Int) from rfl, slc_to (by omega)]
  have h4 : (r.take 4).length = 4 := by simp; omega
  refine cal_i (rVal_spec ((hr0 hs1).take (k := 4) (by omega) rc) (by omega)) ?_
  rintro _ _ ⟨rfl, rfl⟩
  have hn4 := ofBe_lt (r.take 4)
  rw [h4] at hn4
  obtain ⟨n, hn⟩ : ∃ n, n = ofBe (r.take 4) := ⟨_, rfl⟩
  rw [← hn] at hn4 ⊢
  have hR4 : takeR r = if 246 < n then (Blk.none, 0, 90) else if r.length < 20 + n then (Blk.none, 0, 11) else if goodR r n then (parB (gpay r n), 20 + n, 0) else (Blk.none, 0, 90) := by unfold takeR; rw [if_neg h12, ← hn]
  simp only [nilc_some, fad_mk, pik_true, pik_false, cnd_true, cnd_false, gif_same, gif_tf, gif_ft, gif_undef, bi_add, bi_sub, bi_mul, bi_eql, bi_neq, bi_lss, bi_leq, bi_gtr, bi_geq, notB_bool, cvi_int, lenS_mk, lenT_mk, ext0, ext1, ext2, nilP_mk, nilS_mk, fldv_agg, jn0_k, jn1_k, jn2_k, jn1_and, jn1_or, ex_some, Option.isNone_some, Option.isNone_none, Bool.false_bne, Bool.bne_true, Bool.bne_false, Bool.true_bne, Bool.not_true, Bool.not_false, Bool.and_true, Bool.true_and, Bool.and_false, Bool.false_and, Bool.or_true, Bool.true_or, Bool.or_false, Bool.false_or, cond_true, cond_false, List.getElem?_toArray, List.getElem?_cons_zero, List.getElem?_cons_succ, Nat.zero_add, Nat.add_zero, Nat.reduceAdd, forall_const]
  rw [cnd_bool]
  refine ⟨fun h => ?_, fun h246 => ?_⟩
  · refine bad hs1 ?_
    have : 246 < n := by simp at h; omega
    rw [hx, hR4, if_pos this]; rfl
  have h246 : ¬ 246 < n := by simp at h246; omega
  rw [if_neg h246] at hR4
  have e1 : IntKind.i64.wrap (12 + IntKind.i64.wrap (n : Int)) = ((12 + n : Nat) : Int) := by rw [wi64 (x := (n : Int)) (by omega) (by omega), wi64 (by omega) (by omega)]; omega
  have e2 : IntKind.i64.wrap (((12 + n : Nat) : Int) + 8) = ((20 + n : Nat) : Int) := by rw [wi64 (by omega) (by omega)]; omega
  simp only [e1, e2, nilc_some, fad_mk, pik_true, pik_false, cnd_true, cnd_false, gif_same, gif_tf, gif_ft, gif_undef, bi_add, bi_sub, bi_mul, bi_eql, bi_neq, bi_lss, bi_leq, bi_gtr, bi_geq, notB_bool, cvi_int, lenS_mk, lenT_mk, ext0, ext1, ext2, nilP_mk, nilS_mk, fldv_agg, jn0_k, jn1_k, jn2_k, jn1_and, jn1_or, ex_some, Option.isNone_some, Option.isNone_none, Bool.false_bne, Bool.bne_true, Bool.bne_false, Bool.true_bne, Bool.not_true, Bool.not_false, Bool.and_true, Bool.true_and, Bool.and_false, Bool.false_and, Bool.or_true, Bool.true_or, Bool.or_false, Bool.false_or, cond_true, cond_false, List.getElem?_toArray, List.getElem?_cons_zero, List.getElem?_cons_succ, Nat.zero_add, Nat.add_zero, Nat.reduceAdd, forall_const]
  rw [cnd_bool]
  refine ⟨fun h => ?_, fun h20 => ?_⟩
  · refine bad hs1 ?_
    have : r.length < 20 + n := by simp at h; omega
    rw [hx, hR4, if_pos this]; rfl
  have h20 : ¬ r.length < 20 + n := by simp at h20; omega
  rw [if_neg h20] at hR4
  have hng : ¬ goodR r n → takeX l (i : Int) = (Blk.none, 0, 90) := fun hg => by rw [hx, hR4, if_neg hg]; rfl
  rw [show (Value.int .i64 12) = .int .i64 ((12 : Nat) : Int) from rfl, slc_mid (by omega) (by omega)]
  have hpay : ∀ {z : World} {Bs : List Asn}, Sep w z Bs → RdB z.heap (.slice (if rc = 12 then ar else ar.map (·.add (12 * 1))) (12 + n - 12) (rc - 12)) (gpay r n) := fun {z Bs} hz => by
    have := RdB.mid (i := 12) (j := 12 + n) (hr0 hz) hrcl (by omega) (by omega)
    rw [Nat.add_sub_cancel_left] at this
    rw [Nat.add_sub_cancel_left]
    exact this
  have hpl : (gpay r n).length = n := by simp [gpay]; omega
  refine cal_i (rParse_spec (hpay hs1) (fun a' n' c' he => by
    simp only [Value.slice.injEq] at he
    obtain ⟨_, rfl, rfl⟩ := he
    omega) (by omega)) ?_
  rintro _ w4 ⟨v4, rfl, hs4⟩
  replace hs4 := hs1.join hs4
  simp only [nilc_some, fad_mk, pik_true, pik_false, cnd_true, cnd_false, gif_same, gif_tf, gif_ft, gif_undef, bi_add, bi_sub, bi_mul, bi_eql, bi_neq, bi_lss, bi_leq, bi_gtr, bi_geq, notB_bool, cvi_int, lenS_mk, lenT_mk, ext0, ext1, ext2, nilP_mk, nilS_mk, fldv_agg, jn0_k, jn1_k, jn2_k, jn1_and, jn1_or, ex_some, Option.isNone_some, Option.isNone_none, Bool.false_bne, Bool.bne_true, Bool.bne_false, Bool.true_bne, Bool.not_true, Bool.not_false, Bool.and_true, Bool.true_and, Bool.and_false, Bool.false_and, Bool.or_true, Bool.true_or, Bool.or_false, Bool.false_or, cond_true, cond_false, List.getElem?_toArray, List.getElem?_cons_zero, List.getElem?_cons_succ, Nat.zero_add, Nat.add_zero, Nat.reduceAdd, forall_const]
  refine alloc_s hs4 (A_api_Block w4) fun g5 w5 hs5 => ?_
  refine St_api_Block hs5 (one_api_Block (Sep.one hs5.p1)) fun w6 hs6 => ?_
  by_cases hok : okP (gpay r n)
  case neg =>
    have he : parseE (gpay r n) = 30 := if_neg hok
    simp only [he, nilc_some, fad_mk, pik_true, pik_false, cnd_true, cnd_false, gif_same, gif_tf, gif_ft, gif_undef, bi_add, bi_sub, bi_mul, bi_eql, bi_neq, bi_lss, bi_leq, bi_gtr, bi_geq, notB_bool, cvi_int, lenS_mk, lenT_mk, ext0, ext1, ext2, nilP_mk, nilS_mk, fldv_agg, jn0_k, jn1_k, jn2_k, jn1_and, jn1_or, ex_some, Option.isNone_some, Option.isNone_none, Bool.false_bne, Bool.bne_true, Bool.bne_false, Bool.true_bne, Bool.not_true, Bool.not_false, Bool.and_true, Bool.true_and, Bool.and_false, Bool.false_and, Bool.or_true, Bool.true_or, Bool.or_false, Bool.false_or, cond_true, cond_false, List.getElem?_toArray, List.getElem?_cons_zero, List.getElem?_cons_succ, Nat.zero_add, Nat.add_zero, Nat.reduceAdd, forall_const, show ((30 : Int) != 0) = true from rfl]
    exact bad hs6.p2 (hng fun hg => hok hg.1)
  have hp : parse (gpay r n) = parB (gpay r n) := if_pos hok
  have he : parseE (gpay r n) = 0 := if_pos hok
  have hgd : goodR r n ↔ (parB (gpay r n)).rcd = r.take (20 + n) := ⟨fun h => h.2, fun h => ⟨hok, h⟩⟩
  have hck0 := hok.2.2.1
  have hh := hok.2.1
  rw [hp] at hs6
  simp only [hp, he, nilc_some, fad_mk, pik_true, pik_false, cnd_true, cnd_false, gif_same, gif_tf, gif_ft, gif_undef, bi_add, bi_sub, bi_mul, bi_eql, bi_neq, bi_lss, bi_leq, bi_gtr, bi_geq, notB_bool, cvi_int, lenS_mk, lenT_mk, ext0, ext1, ext2, nilP_mk, nilS_mk, fldv_agg, jn0_k, jn1_k, jn2_k, jn1_and, jn1_or, ex_some, Option.isNone_some, Option.isNone_none, Bool.false_bne, Bool.bne_true, Bool.bne_false, Bool.true_bne, Bool.not_true, Bool.not_false, Bool.and_true, Bool.true_and, Bool.and_false, Bool.false_and, Bool.or_true, Bool.true_or, Bool.or_false, Bool.false_or, cond_true, cond_false, List.getElem?_toArray, List.getElem?_cons_zero, List.getElem?_cons_succ, Nat.zero_add, Nat.add_zero, Nat.reduceAdd, forall_const, show ((0 : Int) != 0) = false from rfl]
  obtain ⟨x, hxx⟩ : ∃ x, x = parB (gpay r n) := ⟨_, rfl⟩
  rw [← hxx] at hs6 hgd hh hck0 hR4
  replace hs6 : Sep w w6 [bb g5 x v4, ownB v4 x.d, nb g2] := hs6
  simp only [L_api_Block hs6.blk, L_api_Block__Parent hs6.blk, L_api_Block__Height hs6.blk, L_api_Block__Data hs6.blk]
  refine cal_i (rRecBytes_spec (b := x) (Sep.rd hs6.p1) hh) ?_
  rintro _ w7 ⟨s7, rfl, hs7⟩
  have ho : x.recO = x.rcd := if_pos hck0
  rw [ho] at hs7
  replace hs7 : Sep w w7 [ownB s7 x.rcd, bb g5 x v4, ownB v4 x.d, nb g2] := hs6.join hs7
  simp only [nilc_some, fad_mk, pik_true, pik_false, cnd_true, cnd_false, gif_same, gif_tf, gif_ft, gif_undef, bi_add, bi_sub, bi_mul, bi_eql, bi_neq, bi_lss, bi_leq, bi_gtr, bi_geq, notB_bool, cvi_int, lenS_mk, lenT_mk, ext0, ext1, ext2, nilP_mk, nilS_mk, fldv_agg, jn0_k, jn1_k, jn2_k, jn1_and, jn1_or, ex_some, Option.isNone_some, Option.isNone_none, Bool.false_bne, Bool.bne_true, Bool.bne_false, Bool.true_bne, Bool.not_true, Bool.not_false, Bool.and_true, Bool.true_and, Bool.and_false, Bool.false_and, Bool.or_true, Bool.true_or, Bool.or_false, Bool.false_or, cond_true, cond_false, List.getElem?_toArray, List.getElem?_cons_zero, List.getElem?_cons_succ, Nat.zero_add, Nat.add_zero, Nat.reduceAdd, forall_const]
  refine drw_s hs7 fun w8 hs8 _ => ?_
  rw [rdP_eq (conv_str UT_bytes UT_uint8 UT_string (Sep.rd hs8)), slc_to (by omega), rdP_eq (conv_str UT_bytes UT_uint8 UT_string ((hr0 hs8).take (k := 20 + n) (by omega) rc)), neS_str]
  rw [cnd_bool]
  refine ⟨fun h => ?_, fun h => ?_⟩
  · have h : ¬ x.rcd = r.take (20 + n) := by simpa using h
    exact bad hs8.p3 (hng fun hg => h (hgd.1 hg))
  · have h : x.rcd = r.take (20 + n) := by simpa using h
    have hg : goodR r n := hgd.2 h
    rw [if_pos hg] at hR4
    simp only [L_api_Block (Sep.p1 hs8).blk, L_api_Block__Parent (Sep.p1 hs8).blk, L_api_Block__Height (Sep.p1 hs8).blk, L_api_Block__Data (Sep.p1 hs8).blk]
    refine St_api_Block hs8.p3 (one_api_Block (Sep.one (hs8.pick [2] 4))) fun w13 hs13 => ?_
    have e3 : IntKind.i64.wrap ((i : Int) + ((20 + n : Nat) : Int)) = (i : Int) + ((20 + n : Nat) : Int) := by rw [wi64 (by omega) (by omega)]
    simp only [L_api_Block hs13.blk, L_api_Block__Parent hs13.blk, L_api_Block__Height hs13.blk, L_api_Block__Data hs13.blk, e3]
    rw [hx, hR4] at hR
    exact hR _ _ ⟨v4, by simp, Sep.dropR (As := [ownB v4 x.d]) hs13.p3⟩
end
end Go.Fx
