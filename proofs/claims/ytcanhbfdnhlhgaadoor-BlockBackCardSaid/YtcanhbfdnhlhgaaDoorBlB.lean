/-
  BlockBack, walked.
-/
import Derived.Test.YtcanhbfdnhlhgaaDoorBlA
set_option linter.unusedVariables false
set_option linter.unusedSimpArgs false
namespace Go.Fx
theorem parse_out {a : Blk} (hc : a.chk = 0) (hh : a.h ≤ maxI) : parse a.out = a ∧ parseE a.out = 0 := by
  have hp := parse_bytes hc hh
  have ho : a.out = a.bytes := by rw [Blk.out, if_pos hc]
  rw [ho, parse, parseE, if_pos hp.1, if_pos hp.1]
  exact ⟨hp.2, rfl⟩
theorem out_inj {a b : Blk} (hc : a.chk = 0) (hc' : b.chk = 0) (hh : a.h ≤ maxI) (hh' : b.h ≤ maxI) : (a.out == b.out) = decide (a = b) := by
  rw [Bool.eq_iff_iff]
  simp only [beq_iff_eq, decide_eq_true_eq]
  refine ⟨fun h => ?_, fun h => by rw [h]⟩
  rw [← (parse_out hc hh).1, ← (parse_out hc' hh').1, h]
section
variable {w : World} {v : Value} {l : List UInt8} {x y : Vec 32 × Int × Sl UInt8}
theorem wBack (hc : Cub w) (hx : Rdr.ok R_api_Block w.heap x) (hy : Rdr.ok R_api_Block w.heap y) (hl : rBytes.ok w.heap ⟨v, l⟩) :
    cal P f_law03_BlockBack [.agg (Rdr.cells R_api_Block x).toArray, .agg (Rdr.cells R_api_Block y).toArray, v] w fun r w' => r = .bool true ∧ Fr [] w w' := by
  obtain ⟨a, haa⟩ : ∃ a, a = ab x := ⟨_, rfl⟩
  obtain ⟨b, hbb⟩ : ∃ b, b = ab y := ⟨_, rfl⟩
  have ha := ab_rd hx
  have hb := ab_rd hy
  have hah := ab_h hx
  have hbh := ab_h hy
  rw [← haa] at ha hah
  rw [← hbb] at hb hbh
  have ea : Value.agg (Rdr.cells R_api_Block x).toArray = bq a x.2.2.v := by rw [haa]; rfl
  have eb : Value.agg (Rdr.cells R_api_Block y).toArray = bq b y.2.2.v := by rw [hbb]; rfl
  rw [ea, eb]
  generalize x.2.2.v = va at *
  generalize y.2.2.v = vb at *
  have hrd : RdB w.heap v l := hl.1
  have hll : l.length ≤ 9223372036854775807 := hl.2.1
  clear hx hy hl haa hbb ea eb
  refine s_law03_BlockBack fun R hR => ?_
  unfold c_law03_BlockBack
  refine bxQ (Sep.start w) fun g w1 hs1 => ?_
  refine bxQ hs1 fun g2 w2 hs2 => ?_
  have lv : ∀ {z : World}, Fr [] w z → cal P f_law03_live [] z R := fun {z} hf => cal_i (live_spec (hc.fr hf)) fun r w' hr => hR _ _ ⟨hr.1, hf.trans hr.2 (by simp) (by simp)⟩
  refine cal_i (live_spec (hc.fr hs2.fr0)) ?_
  rintro _ w3 ⟨rfl, hf3⟩
  replace hs2 := hs2.old hf3
  simp only [nilc_some, fad_mk, pik_true, pik_false, cnd_true, cnd_false, gif_same, gif_tf, gif_ft, gif_undef, bi_add, bi_sub, bi_mul, bi_eql, bi_neq, bi_lss, bi_leq, bi_gtr, bi_geq, notB_bool, cvi_int, lenS_mk, lenT_mk, ext0, ext1, ext2, nilP_mk, nilS_mk, fldv_agg, jn0_k, jn1_k, jn2_k, jn1_and, jn1_or, ex_some, Option.isNone_some, Option.isNone_none, Bool.false_bne, Bool.bne_true, Bool.bne_false, Bool.true_bne, Bool.not_true, Bool.not_false, Bool.and_true, Bool.true_and, Bool.and_false, Bool.false_and, Bool.or_true, Bool.true_or, Bool.or_false, Bool.false_or, cond_true, cond_false, List.getElem?_toArray, List.getElem?_cons_zero, List.getElem?_cons_succ, Nat.zero_add, Nat.add_zero, Nat.reduceAdd, forall_const, L_api_Block hs2.blk, L_api_Block__Parent hs2.blk, L_api_Block__Height hs2.blk, L_api_Block__Data hs2.blk, L_api_Block (Sep.p1 hs2).blk, L_api_Block__Parent (Sep.p1 hs2).blk, L_api_Block__Height (Sep.p1 hs2).blk, L_api_Block__Data (Sep.p1 hs2).blk]
  refine jn1_dup ?_
  refine rows_lit hs2 S_sl_api_Block (l := [(a.p, a.h, va), (b.p, b.h, vb)]) (V := fun a => .agg (Rdr.cells Q_api_Block a).toArray) qV rfl rfl (by decide) (by decide) fun g4 w4 hs4 => ?_
  have hbr : BRows w4.heap (.slice (some ⟨g4, 0, none⟩) 2 2) [(a, va), (b, vb)] := ⟨Sep.rows hs4, fun z hz => by
    rcases List.mem_cons.1 hz with rfl | hz
    · exact hs4.rdB ha
    · rcases List.mem_cons.1 hz with rfl | hz
      · exact hs4.rdB hb
      · cases hz⟩
  refine cal_i (short_spec hbr (by simp)) ?_
  rintro _ w5 ⟨hf5, t, rfl, ht⟩
  have hs5 := hs4.tail.old hf5
  simp only [nilc_some, fad_mk, pik_true, pik_false, cnd_true, cnd_false, gif_same, gif_tf, gif_ft, gif_undef, bi_add, bi_sub, bi_mul, bi_eql, bi_neq, bi_lss, bi_leq, bi_gtr, bi_geq, notB_bool, cvi_int, lenS_mk, lenT_mk, ext0, ext1, ext2, nilP_mk, nilS_mk, fldv_agg, jn0_k, jn1_k, jn2_k, jn1_and, jn1_or, ex_some, Option.isNone_some, Option.isNone_none, Bool.false_bne, Bool.bne_true, Bool.bne_false, Bool.true_bne, Bool.not_true, Bool.not_false, Bool.and_true, Bool.true_and, Bool.and_false, Bool.false_and, Bool.or_true, Bool.true_or, Bool.or_false, Bool.false_or, cond_true, cond_false, List.getElem?_toArray, List.getElem?_cons_zero, List.getElem?_cons_succ, Nat.zero_add, Nat.add_zero, Nat.reduceAdd, forall_const]
  cases t with
  | false =>
    simp only [nilc_some, fad_mk, pik_true, pik_false, cnd_true, cnd_false, gif_same, gif_tf, gif_ft, gif_undef, bi_add, bi_sub, bi_mul, bi_eql, bi_neq, bi_lss, bi_leq, bi_gtr, bi_geq, notB_bool, cvi_int, lenS_mk, lenT_mk, ext0, ext1, ext2, nilP_mk, nilS_mk, fldv_agg, jn0_k, jn1_k, jn2_k, jn1_and, jn1_or, ex_some, Option.isNone_some, Option.isNone_none, Bool.false_bne, Bool.bne_true, Bool.bne_false, Bool.true_bne, Bool.not_true, Bool.not_false, Bool.and_true, Bool.true_and, Bool.and_false, Bool.false_and, Bool.or_true, Bool.true_or, Bool.or_false, Bool.false_or, cond_true, cond_false, List.getElem?_toArray, List.getElem?_cons_zero, List.getElem?_cons_succ, Nat.zero_add, Nat.add_zero, Nat.reduceAdd, forall_const]
    exact lv hs5.fr0
  | true =>
    have hal : a.d.length ≤ 3000 := ht rfl (a, va) (by simp)
    have hbl : b.d.length ≤ 3000 := ht rfl (b, vb) (by simp)
    simp only [nilc_some, fad_mk, pik_true, pik_false, cnd_true, cnd_false, gif_same, gif_tf, gif_ft, gif_undef, bi_add, bi_sub, bi_mul, bi_eql, bi_neq, bi_lss, bi_leq, bi_gtr, bi_geq, notB_bool, cvi_int, lenS_mk, lenT_mk, ext0, ext1, ext2, nilP_mk, nilS_mk, fldv_agg, jn0_k, jn1_k, jn2_k, jn1_and, jn1_or, ex_some, Option.isNone_some, Option.isNone_none, Bool.false_bne, Bool.bne_true, Bool.bne_false, Bool.true_bne, Bool.not_true, Bool.not_false, Bool.and_true, Bool.true_and, Bool.and_false, Bool.false_and, Bool.or_true, Bool.true_or, Bool.or_false, Bool.false_or, cond_true, cond_false, List.getElem?_toArray, List.getElem?_cons_zero, List.getElem?_cons_succ, Nat.zero_add, Nat.add_zero, Nat.reduceAdd, forall_const, hrd.len]
    rw [cnd_bool]
    refine ⟨fun h => lv hs5.fr0, fun h => ?_⟩
    simp only [L_api_Block (Sep.p1 hs5).blk, L_api_Block__Parent (Sep.p1 hs5).blk, L_api_Block__Height (Sep.p1 hs5).blk, L_api_Block__Data (Sep.p1 hs5).blk]
    refine cal_i (bkBytes_spec (hs5.rdB ha) hah) ?_
    rintro _ w6 ⟨s6, rfl, hs6⟩
    replace hs6 := hs5.join hs6
    simp only [nilc_some, fad_mk, pik_true, pik_false, cnd_true, cnd_false, gif_same, gif_tf, gif_ft, gif_undef, bi_add, bi_sub, bi_mul, bi_eql, bi_neq, bi_lss, bi_leq, bi_gtr, bi_geq, notB_bool, cvi_int, lenS_mk, lenT_mk, ext0, ext1, ext2, nilP_mk, nilS_mk, fldv_agg, jn0_k, jn1_k, jn2_k, jn1_and, jn1_or, ex_some, Option.isNone_some, Option.isNone_none, Bool.false_bne, Bool.bne_true, Bool.bne_false, Bool.true_bne, Bool.not_true, Bool.not_false, Bool.and_true, Bool.true_and, Bool.and_false, Bool.false_and, Bool.or_true, Bool.true_or, Bool.or_false, Bool.false_or, cond_true, cond_false, List.getElem?_toArray, List.getElem?_cons_zero, List.getElem?_cons_succ, Nat.zero_add, Nat.add_zero, Nat.reduceAdd, forall_const, L_api_Block (Sep.p1 hs6).blk, L_api_Block__Parent (Sep.p1 hs6).blk, L_api_Block__Height (Sep.p1 hs6).blk, L_api_Block__Data (Sep.p1 hs6).blk]
    refine cal_i (bkBytes_spec (hs6.rdB hb) hbh) ?_
    rintro _ w7 ⟨s7, rfl, hs7⟩
    replace hs7 := hs6.join hs7
    simp only [nilc_some, fad_mk, pik_true, pik_false, cnd_true, cnd_false, gif_same, gif_tf, gif_ft, gif_undef, bi_add, bi_sub, bi_mul, bi_eql, bi_neq, bi_lss, bi_leq, bi_gtr, bi_geq, notB_bool, cvi_int, lenS_mk, lenT_mk, ext0, ext1, ext2, nilP_mk, nilS_mk, fldv_agg, jn0_k, jn1_k, jn2_k, jn1_and, jn1_or, ex_some, Option.isNone_some, Option.isNone_none, Bool.false_bne, Bool.bne_true, Bool.bne_false, Bool.true_bne, Bool.not_true, Bool.not_false, Bool.and_true, Bool.true_and, Bool.and_false, Bool.false_and, Bool.or_true, Bool.true_or, Bool.or_false, Bool.false_or, cond_true, cond_false, List.getElem?_toArray, List.getElem?_cons_zero, List.getElem?_cons_succ, Nat.zero_add, Nat.add_zero, Nat.reduceAdd, forall_const]
    replace hs7 : Sep w w7 [ownB s7 b.out, ownB s6 a.out, bb g2 b vb, bb g a va] := hs7
    obtain ⟨As, hAs⟩ : ∃ As, As = [ownB s7 b.out, ownB s6 a.out, bb g2 b vb, bb g a va] := ⟨_, rfl⟩
    have q2 : ∀ {z : World}, Sep w z As → z.heap[g2]? = _ := fun {z} h => Sep.blk (w := z) (by rw [hAs] at h; exact h.pick [2] 4)
    have q1 : ∀ {z : World}, Sep w z As → z.heap[g]? = _ := fun {z} h => Sep.blk (w := z) (by rw [hAs] at h; exact h.pick [3] 4)
    have d6 : ∀ {z : World}, Sep w z As → RdB z.heap s6 a.out := fun {z} h => Sep.rd (w := z) (by rw [hAs] at h; exact h.pick [1] 4)
    have d7 : ∀ {z : World}, Sep w z As → RdB z.heap s7 b.out := fun {z} h => Sep.rd (w := z) (by rw [hAs] at h; exact h.pick [0] 4)
    rw [← hAs] at hs7
    refine ⟨fun w' => Sep w w' As, ?_, ?_⟩
    · change cnd _ _ _
      rw [cnd_bool]
      refine ⟨fun h0 => ?_, fun h0 => hs7⟩
      have h0 : a.chk = 0 := by simpa using h0
      have hck := Blk.chk_ok h0
      refine cal_i (Parse_spec (d6 hs7)) ?_
      rw [(parse_out h0 hah).1, (parse_out h0 hah).2]
      rintro _ w8 ⟨v8, rfl, hs8⟩
      replace hs8 := hs7.join hs8
      simp only [nilc_some, fad_mk, pik_true, pik_false, cnd_true, cnd_false, gif_same, gif_tf, gif_ft, gif_undef, bi_add, bi_sub, bi_mul, bi_eql, bi_neq, bi_lss, bi_leq, bi_gtr, bi_geq, notB_bool, cvi_int, lenS_mk, lenT_mk, ext0, ext1, ext2, nilP_mk, nilS_mk, fldv_agg, jn0_k, jn1_k, jn2_k, jn1_and, jn1_or, ex_some, Option.isNone_some, Option.isNone_none, Bool.false_bne, Bool.bne_true, Bool.bne_false, Bool.true_bne, Bool.not_true, Bool.not_false, Bool.and_true, Bool.true_and, Bool.and_false, Bool.false_and, Bool.or_true, Bool.true_or, Bool.or_false, Bool.false_or, cond_true, cond_false, List.getElem?_toArray, List.getElem?_cons_zero, List.getElem?_cons_succ, Nat.zero_add, Nat.add_zero, Nat.reduceAdd, forall_const]
      refine alloc_s hs8 (A_api_Block w8) fun g9 w9 hs9 => ?_
      refine St_api_Block hs9 (one_api_Block (Sep.one hs9.p1)) fun w10 hs10 => ?_
      have ht := hs10.tail.tail
      simp only [nilc_some, fad_mk, pik_true, pik_false, cnd_true, cnd_false, gif_same, gif_tf, gif_ft, gif_undef, bi_add, bi_sub, bi_mul, bi_eql, bi_neq, bi_lss, bi_leq, bi_gtr, bi_geq, notB_bool, cvi_int, lenS_mk, lenT_mk, ext0, ext1, ext2, nilP_mk, nilS_mk, fldv_agg, jn0_k, jn1_k, jn2_k, jn1_and, jn1_or, ex_some, Option.isNone_some, Option.isNone_none, Bool.false_bne, Bool.bne_true, Bool.bne_false, Bool.true_bne, Bool.not_true, Bool.not_false, Bool.and_true, Bool.true_and, Bool.and_false, Bool.false_and, Bool.or_true, Bool.true_or, Bool.or_false, Bool.false_or, cond_true, cond_false, List.getElem?_toArray, List.getElem?_cons_zero, List.getElem?_cons_succ, Nat.zero_add, Nat.add_zero, Nat.reduceAdd, forall_const, show ((0 : Int) != 0) = false from rfl, L_api_Block hs10.blk, L_api_Block__Parent hs10.blk, L_api_Block__Height hs10.blk, L_api_Block__Data hs10.blk, L_api_Block (q1 ht), L_api_Block__Parent (q1 ht), L_api_Block__Height (q1 ht), L_api_Block__Data (q1 ht)]
      refine jn1_dup ?_
      refine cal_i (Same_spec (a := a) (b := a) (Sep.rd hs10.p1) (ht.rdB ha)) ?_
      rintro _ w11 ⟨rfl, hf11⟩
      have hs11 := ht.old hf11
      have el : a.out.length = 46 + a.d.length := by rw [Blk.out, if_pos h0, Blk.bytes_len]
      simp only [nilc_some, fad_mk, pik_true, pik_false, cnd_true, cnd_false, gif_same, gif_tf, gif_ft, gif_undef, bi_add, bi_sub, bi_mul, bi_eql, bi_neq, bi_lss, bi_leq, bi_gtr, bi_geq, notB_bool, cvi_int, lenS_mk, lenT_mk, ext0, ext1, ext2, nilP_mk, nilS_mk, fldv_agg, jn0_k, jn1_k, jn2_k, jn1_and, jn1_or, ex_some, Option.isNone_some, Option.isNone_none, Bool.false_bne, Bool.bne_true, Bool.bne_false, Bool.true_bne, Bool.not_true, Bool.not_false, Bool.and_true, Bool.true_and, Bool.and_false, Bool.false_and, Bool.or_true, Bool.true_or, Bool.or_false, Bool.false_or, cond_true, cond_false, List.getElem?_toArray, List.getElem?_cons_zero, List.getElem?_cons_succ, Nat.zero_add, Nat.add_zero, Nat.reduceAdd, forall_const, decide_true, L_api_Block (q1 hs11), L_api_Block__Parent (q1 hs11), L_api_Block__Height (q1 hs11), L_api_Block__Data (q1 hs11), (d6 hs11).len, (hs11.rdB ha).len, el]
      rw [wi64 (by omega) (by omega)]
      have e2 : (((46 + a.d.length : Nat) : Int) != 46 + (a.d.length : Int)) = false := by simp
      rw [e2, cnd_false]
      exact hs11
    · intro w8 hs8 _
      refine drH_S hs8 fun w9 hs9 _ => ?_
      have hend : ∀ {z : World} {Bs}, Sep w z Bs → cal P f_block_Parse [v] z fun t82 w =>
          ext 0 t82 fun t83 => ext 1 t82 fun t84 => efP P (Instr.alloc T_api_Block true (.tuple #[])) w fun t13 w => stN 34 t13 t83 w fun w => bi BinOp.neq t84 (Value.int IntKind.i64 0) fun t86 =>
          cnd t86 (bi BinOp.eql t84 (Value.int IntKind.i64 30) fun t88 => R t88 w)
          (ldN 34 t13 w.heap fun t90 => cal P f_block_Bytes [t90] w fun t91 w => ext 0 t91 fun t92 => ext 1 t91 fun t93 => bi BinOp.eql t93 (Value.int IntKind.i64 0) fun t95 =>
          jn1 (fun k7 => gif t95 true (cal P f_bytes_Equal [t92, v] w fun t99 w => k7 t99 w) (k7 undef w)) fun _ t99_1 w => pik t95 t99_1 (Value.bool false) fun t100 => R t100 w) := fun {z Bs} hs => by
        refine cal_i (Parse_spec (hs.rdB hrd)) ?_
        rintro _ w10 ⟨v10, rfl, hs10⟩
        replace hs10 := hs.join hs10
        simp only [nilc_some, fad_mk, pik_true, pik_false, cnd_true, cnd_false, gif_same, gif_tf, gif_ft, gif_undef, bi_add, bi_sub, bi_mul, bi_eql, bi_neq, bi_lss, bi_leq, bi_gtr, bi_geq, notB_bool, cvi_int, lenS_mk, lenT_mk, ext0, ext1, ext2, nilP_mk, nilS_mk, fldv_agg, jn0_k, jn1_k, jn2_k, jn1_and, jn1_or, ex_some, Option.isNone_some, Option.isNone_none, Bool.false_bne, Bool.bne_true, Bool.bne_false, Bool.true_bne, Bool.not_true, Bool.not_false, Bool.and_true, Bool.true_and, Bool.and_false, Bool.false_and, Bool.or_true, Bool.true_or, Bool.or_false, Bool.false_or, cond_true, cond_false, List.getElem?_toArray, List.getElem?_cons_zero, List.getElem?_cons_succ, Nat.zero_add, Nat.add_zero, Nat.reduceAdd, forall_const]
        refine alloc_s hs10 (A_api_Block w10) fun g11 w11 hs11 => ?_
        refine St_api_Block hs11 (one_api_Block (Sep.one hs11.p1)) fun w12 hs12 => ?_
        by_cases hok : okP l
        · have e1 : parseE l = 0 := by rw [parseE, if_pos hok]
          have e2 : parse l = parB l := by rw [parse, if_pos hok]
          rw [e2] at hs12
          simp only [nilc_some, fad_mk, pik_true, pik_false, cnd_true, cnd_false, gif_same, gif_tf, gif_ft, gif_undef, bi_add, bi_sub, bi_mul, bi_eql, bi_neq, bi_lss, bi_leq, bi_gtr, bi_geq, notB_bool, cvi_int, lenS_mk, lenT_mk, ext0, ext1, ext2, nilP_mk, nilS_mk, fldv_agg, jn0_k, jn1_k, jn2_k, jn1_and, jn1_or, ex_some, Option.isNone_some, Option.isNone_none, Bool.false_bne, Bool.bne_true, Bool.bne_false, Bool.true_bne, Bool.not_true, Bool.not_false, Bool.and_true, Bool.true_and, Bool.and_false, Bool.false_and, Bool.or_true, Bool.true_or, Bool.or_false, Bool.false_or, cond_true, cond_false, List.getElem?_toArray, List.getElem?_cons_zero, List.getElem?_cons_succ, Nat.zero_add, Nat.add_zero, Nat.reduceAdd, forall_const, e1, show ((0 : Int) != 0) = false from rfl, L_api_Block hs12.blk, L_api_Block__Parent hs12.blk, L_api_Block__Height hs12.blk, L_api_Block__Data hs12.blk]
          refine cal_i (bkBytes_spec (b := parB l) (Sep.rd hs12.p1) hok.2.1) ?_
          rintro _ w13 ⟨s13, rfl, hs13⟩
          replace hs13 := hs12.join hs13
          have e3 : (parB l).out = l := by rw [Blk.out, if_pos hok.2.2.1, hok.2.2.2]
          rw [e3] at hs13
          simp only [nilc_some, fad_mk, pik_true, pik_false, cnd_true, cnd_false, gif_same, gif_tf, gif_ft, gif_undef, bi_add, bi_sub, bi_mul, bi_eql, bi_neq, bi_lss, bi_leq, bi_gtr, bi_geq, notB_bool, cvi_int, lenS_mk, lenT_mk, ext0, ext1, ext2, nilP_mk, nilS_mk, fldv_agg, jn0_k, jn1_k, jn2_k, jn1_and, jn1_or, ex_some, Option.isNone_some, Option.isNone_none, Bool.false_bne, Bool.bne_true, Bool.bne_false, Bool.true_bne, Bool.not_true, Bool.not_false, Bool.and_true, Bool.true_and, Bool.and_false, Bool.false_and, Bool.or_true, Bool.true_or, Bool.or_false, Bool.false_or, cond_true, cond_false, List.getElem?_toArray, List.getElem?_cons_zero, List.getElem?_cons_succ, Nat.zero_add, Nat.add_zero, Nat.reduceAdd, forall_const, hok.2.2.1, show ((0 : Int) == 0) = true from rfl]
          refine jn1_dup ?_
          refine cal_i (bEqual_spec (Sep.rd hs13) (hs13.rdB hrd)) ?_
          rintro _ _ ⟨rfl, rfl⟩
          simp only [nilc_some, fad_mk, pik_true, pik_false, cnd_true, cnd_false, gif_same, gif_tf, gif_ft, gif_undef, bi_add, bi_sub, bi_mul, bi_eql, bi_neq, bi_lss, bi_leq, bi_gtr, bi_geq, notB_bool, cvi_int, lenS_mk, lenT_mk, ext0, ext1, ext2, nilP_mk, nilS_mk, fldv_agg, jn0_k, jn1_k, jn2_k, jn1_and, jn1_or, ex_some, Option.isNone_some, Option.isNone_none, Bool.false_bne, Bool.bne_true, Bool.bne_false, Bool.true_bne, Bool.not_true, Bool.not_false, Bool.and_true, Bool.true_and, Bool.and_false, Bool.false_and, Bool.or_true, Bool.true_or, Bool.or_false, Bool.false_or, cond_true, cond_false, List.getElem?_toArray, List.getElem?_cons_zero, List.getElem?_cons_succ, Nat.zero_add, Nat.add_zero, Nat.reduceAdd, forall_const, beq_self_eq_true]
          exact hR _ _ ⟨rfl, hs13.fr0⟩
        · have e1 : parseE l = 30 := by rw [parseE, if_neg hok]
          simp only [nilc_some, fad_mk, pik_true, pik_false, cnd_true, cnd_false, gif_same, gif_tf, gif_ft, gif_undef, bi_add, bi_sub, bi_mul, bi_eql, bi_neq, bi_lss, bi_leq, bi_gtr, bi_geq, notB_bool, cvi_int, lenS_mk, lenT_mk, ext0, ext1, ext2, nilP_mk, nilS_mk, fldv_agg, jn0_k, jn1_k, jn2_k, jn1_and, jn1_or, ex_some, Option.isNone_some, Option.isNone_none, Bool.false_bne, Bool.bne_true, Bool.bne_false, Bool.true_bne, Bool.not_true, Bool.not_false, Bool.and_true, Bool.true_and, Bool.and_false, Bool.false_and, Bool.or_true, Bool.true_or, Bool.or_false, Bool.false_or, cond_true, cond_false, List.getElem?_toArray, List.getElem?_cons_zero, List.getElem?_cons_succ, Nat.zero_add, Nat.add_zero, Nat.reduceAdd, forall_const, e1, show ((30 : Int) != 0) = true from rfl, show ((30 : Int) == 30) = true from rfl]
          exact hR _ _ ⟨rfl, hs12.fr0⟩
      rcases Blk.chk_or a with h0 | h0
      · rcases Blk.chk_or b with h1 | h1
        · simp only [nilc_some, fad_mk, pik_true, pik_false, cnd_true, cnd_false, gif_same, gif_tf, gif_ft, gif_undef, bi_add, bi_sub, bi_mul, bi_eql, bi_neq, bi_lss, bi_leq, bi_gtr, bi_geq, notB_bool, cvi_int, lenS_mk, lenT_mk, ext0, ext1, ext2, nilP_mk, nilS_mk, fldv_agg, jn0_k, jn1_k, jn2_k, jn1_and, jn1_or, ex_some, Option.isNone_some, Option.isNone_none, Bool.false_bne, Bool.bne_true, Bool.bne_false, Bool.true_bne, Bool.not_true, Bool.not_false, Bool.and_true, Bool.true_and, Bool.and_false, Bool.false_and, Bool.or_true, Bool.true_or, Bool.or_false, Bool.false_or, cond_true, cond_false, List.getElem?_toArray, List.getElem?_cons_zero, List.getElem?_cons_succ, Nat.zero_add, Nat.add_zero, Nat.reduceAdd, forall_const, h0, h1, show ((0 : Int) == 0) = true from rfl]
          refine jn1_dup ?_
          refine rdS_bb (b := a) (v := va) (fun u hu => ⟨_, _, q1 hu⟩) ?_
          refine rdS_bb (b := b) (v := vb) (fun u hu => ⟨_, _, q2 hu⟩) ?_
          refine efS_i (cal_i (bEqual_spec (d6 hs9) (d7 hs9)) ?_)
          rintro _ _ ⟨rfl, rfl⟩
          refine ⟨hs9, efS_i (cal_i (Same_spec (a := a) (b := b) (hs9.rdB ha) (hs9.rdB hb)) ?_)⟩
          rintro _ w10 ⟨rfl, hf10⟩
          have hs10 := hs9.old hf10
          refine ⟨hs10, ⟨_, fun u _ => (neS_bool _ _ U_bool _).mpr rfl, ?_⟩⟩
          have e2 : ((a.out == b.out) != decide (a = b)) = false := by rw [out_inj h0 h1 hah hbh]; simp
          simp only [nilc_some, fad_mk, pik_true, pik_false, cnd_true, cnd_false, gif_same, gif_tf, gif_ft, gif_undef, bi_add, bi_sub, bi_mul, bi_eql, bi_neq, bi_lss, bi_leq, bi_gtr, bi_geq, notB_bool, cvi_int, lenS_mk, lenT_mk, ext0, ext1, ext2, nilP_mk, nilS_mk, fldv_agg, jn0_k, jn1_k, jn2_k, jn1_and, jn1_or, ex_some, Option.isNone_some, Option.isNone_none, Bool.false_bne, Bool.bne_true, Bool.bne_false, Bool.true_bne, Bool.not_true, Bool.not_false, Bool.and_true, Bool.true_and, Bool.and_false, Bool.false_and, Bool.or_true, Bool.true_or, Bool.or_false, Bool.false_or, cond_true, cond_false, List.getElem?_toArray, List.getElem?_cons_zero, List.getElem?_cons_succ, Nat.zero_add, Nat.add_zero, Nat.reduceAdd, forall_const, e2]
          exact hend hs10
        · simp only [nilc_some, fad_mk, pik_true, pik_false, cnd_true, cnd_false, gif_same, gif_tf, gif_ft, gif_undef, bi_add, bi_sub, bi_mul, bi_eql, bi_neq, bi_lss, bi_leq, bi_gtr, bi_geq, notB_bool, cvi_int, lenS_mk, lenT_mk, ext0, ext1, ext2, nilP_mk, nilS_mk, fldv_agg, jn0_k, jn1_k, jn2_k, jn1_and, jn1_or, ex_some, Option.isNone_some, Option.isNone_none, Bool.false_bne, Bool.bne_true, Bool.bne_false, Bool.true_bne, Bool.not_true, Bool.not_false, Bool.and_true, Bool.true_and, Bool.and_false, Bool.false_and, Bool.or_true, Bool.true_or, Bool.or_false, Bool.false_or, cond_true, cond_false, List.getElem?_toArray, List.getElem?_cons_zero, List.getElem?_cons_succ, Nat.zero_add, Nat.add_zero, Nat.reduceAdd, forall_const, h0, h1, show ((0 : Int) == 0) = true from rfl, show ((30 : Int) == 0) = false from rfl]
          exact hend hs9
      · simp only [nilc_some, fad_mk, pik_true, pik_false, cnd_true, cnd_false, gif_same, gif_tf, gif_ft, gif_undef, bi_add, bi_sub, bi_mul, bi_eql, bi_neq, bi_lss, bi_leq, bi_gtr, bi_geq, notB_bool, cvi_int, lenS_mk, lenT_mk, ext0, ext1, ext2, nilP_mk, nilS_mk, fldv_agg, jn0_k, jn1_k, jn2_k, jn1_and, jn1_or, ex_some, Option.isNone_some, Option.isNone_none, Bool.false_bne, Bool.bne_true, Bool.bne_false, Bool.true_bne, Bool.not_true, Bool.not_false, Bool.and_true, Bool.true_and, Bool.and_false, Bool.false_and, Bool.or_true, Bool.true_or, Bool.or_false, Bool.false_or, cond_true, cond_false, List.getElem?_toArray, List.getElem?_cons_zero, List.getElem?_cons_succ, Nat.zero_add, Nat.add_zero, Nat.reduceAdd, forall_const, h0, show ((30 : Int) == 0) = false from rfl]
        exact hend hs9
end
end Go.Fx
