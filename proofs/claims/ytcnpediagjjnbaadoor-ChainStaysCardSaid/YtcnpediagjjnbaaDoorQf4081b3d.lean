/-
  What is proved: for all arguments the law ChainStays returns true, and its arguments read as they did. Conditions: none.
-/
import Derived.Test.YtcnpediagjjnbaaDoorRows
import Derived.WalkKit
import Derived.ProofKit
import Derived.OpenShut
import Derived.ChangeOld
import Derived.Below
import Derived.Carry
import Derived.Test.YtcnpediagjjnbaaDoorCards
import Derived.Test.YtcnpediagjjnbaaDoorTie
import Derived.LaidMore
import Derived.Stop.Joined
import Derived.Test.YtcnpediagjjnbaaDoorQbfeb339e
import Derived.Test.YtcnpediagjjnbaaDoorQd768562e
import Derived.Test.YtcnpediagjjnbaaDoorQd134efe6
import Derived.Test.YtcnpediagjjnbaaDoorQ14cbb7f7
import Derived.Test.YtcnpediagjjnbaaDoorQ9c3b53a9
set_option linter.unusedVariables false
set_option linter.unusedSimpArgs false
namespace Go.Fx
section
variable {w0 w w' : World} {As : List Asn} {g gi gm : Nat} {lv iv m pt : Value} {over : Bool} {B : List BV} {x : Tp}
theorem tp_one (hs : Sep w0 w (tp pt x :: As)) : pt.oneCell' = true := by
  rw [tp_open] at hs
  obtain ⟨g, s, rfl, _⟩ := hs
  rfl
theorem lastOf {B : List BV} {a : Blk} {l : List Blk} (h : blks B = a :: l) : ∃ y, B[B.length - 1]? = some y ∧ y.1 = lastB a l := by
  have h1 := lastB_get a l
  rw [← h, List.getElem?_map] at h1
  have hl : B.length = l.length + 1 := by
    have := congrArg List.length h
    simpa using this
  rw [show l.length = B.length - 1 by omega] at h1
  cases hb : B[B.length - 1]? with
  | none => rw [hb] at h1; cases h1
  | some y => rw [hb] at h1; exact ⟨y, rfl, Option.some.inj h1⟩
theorem layL_tk {l : List Blk} {i : Nat} {b : Blk} (h : l[i]? = some b) : layL (l.take (i + 1)) = layL (l.take i) ++ b.rcd := layL_take h
theorem cOpen_spec {b : Blk} {v : Value} (hs : Sep w0 w (tp pt x :: As)) (hx : x.Ok) (hm : x.made = true) (hC : Cub w0) (hb : ∀ z, Sep w0 z As → RdB z.heap v b.d) (hh : b.h ≤ maxI) :
    cal P f_chain_Open [pt, bq b v] w fun r w' =>
      (x.off = true ∧ r = .tuple #[.pointer none, .int .i64 5] ∧ Sep w0 w' (tp pt x :: As)) ∨
      (x.off = false ∧ (b.chk ≠ 0 ∨ b.h ≠ 0) ∧ r = .tuple #[.pointer none, .int .i64 30] ∧ Sep w0 w' (tp pt x :: As)) ∨
      (x.off = false ∧ b.chk = 0 ∧ b.h = 0 ∧ ∃ g gi gm lv iv B E S, r = .tuple #[.pointer (some ⟨g, 0, none⟩), .int .i64 0] ∧ IsScan x.b S ∧ blks B = b :: linkT b S ∧ DatB B E ∧
        Sep w0 w' (chH g gi gm lv iv pt false B ++ (tp pt { x with b := layL (linkT b S) } :: (E ++ As)))) := by
  refine s_chain_Open fun R hR => ?_
  unfold c_chain_Open
  have hp1 := tp_one hs
  refine bxQ hs fun g3 w1 hs1 => ?_
  refine cal_i (tpClone_spec hs1.p1 hx hm) ?_
  rintro tv w2 hs2
  rw [tp_nilP hs2]
  simp only [nilc_some, fad_mk, pik_true, pik_false, cnd_true, cnd_false, gif_same, gif_tf, gif_ft, gif_undef, bi_add, bi_sub, bi_mul, bi_eql, bi_neq, bi_lss, bi_leq, bi_gtr, bi_geq, notB_bool, cvi_int, lenS_mk, lenT_mk, ext0, ext1, ext2, nilP_mk, nilS_mk, fldv_agg, jn0_k, jn1_k, jn2_k, jn1_and, jn1_or, ex_some, Option.isNone_some, Option.isNone_none, Bool.false_bne, Bool.bne_true, Bool.bne_false, Bool.true_bne, Bool.not_true, Bool.not_false, Bool.and_true, Bool.true_and, Bool.and_false, Bool.false_and, Bool.or_true, Bool.true_or, Bool.or_false, Bool.false_or, cond_true, cond_false, List.getElem?_toArray, List.getElem?_cons_zero, List.getElem?_cons_succ, Nat.zero_add, Nat.add_zero, Nat.reduceAdd, forall_const]
  have hs2' := hs1.old hs2.fr0
  refine cal_i (tpOn_spec hs2'.p1) ?_
  rintro _ _ ⟨rfl, rfl⟩
  rw [hm]
  cases hoff : x.off with
  | true =>
    simp only [nilc_some, fad_mk, pik_true, pik_false, cnd_true, cnd_false, gif_same, gif_tf, gif_ft, gif_undef, bi_add, bi_sub, bi_mul, bi_eql, bi_neq, bi_lss, bi_leq, bi_gtr, bi_geq, notB_bool, cvi_int, lenS_mk, lenT_mk, ext0, ext1, ext2, nilP_mk, nilS_mk, fldv_agg, jn0_k, jn1_k, jn2_k, jn1_and, jn1_or, ex_some, Option.isNone_some, Option.isNone_none, Bool.false_bne, Bool.bne_true, Bool.bne_false, Bool.true_bne, Bool.not_true, Bool.not_false, Bool.and_true, Bool.true_and, Bool.and_false, Bool.false_and, Bool.or_true, Bool.true_or, Bool.or_false, Bool.false_or, cond_true, cond_false, List.getElem?_toArray, List.getElem?_cons_zero, List.getElem?_cons_succ, Nat.zero_add, Nat.add_zero, Nat.reduceAdd, forall_const]
    exact hR _ _ (.inl ⟨hoff, rfl, hs2'.tail⟩)
  | false =>
  simp only [nilc_some, fad_mk, pik_true, pik_false, cnd_true, cnd_false, gif_same, gif_tf, gif_ft, gif_undef, bi_add, bi_sub, bi_mul, bi_eql, bi_neq, bi_lss, bi_leq, bi_gtr, bi_geq, notB_bool, cvi_int, lenS_mk, lenT_mk, ext0, ext1, ext2, nilP_mk, nilS_mk, fldv_agg, jn0_k, jn1_k, jn2_k, jn1_and, jn1_or, ex_some, Option.isNone_some, Option.isNone_none, Bool.false_bne, Bool.bne_true, Bool.bne_false, Bool.true_bne, Bool.not_true, Bool.not_false, Bool.and_true, Bool.true_and, Bool.and_false, Bool.false_and, Bool.or_true, Bool.true_or, Bool.or_false, Bool.false_or, cond_true, cond_false, List.getElem?_toArray, List.getElem?_cons_zero, List.getElem?_cons_succ, Nat.zero_add, Nat.add_zero, Nat.reduceAdd, forall_const, L_api_Block hs2'.blk, L_api_Block__Parent hs2'.blk, L_api_Block__Height hs2'.blk, L_api_Block__Data hs2'.blk]
  refine cal_i (Check_spec (b := b) (v := v) (hb _ hs2'.tail.tail)) ?_
  rintro _ w3 ⟨rfl, hf3⟩
  have hs3 := hs2'.old hf3
  simp only [nilc_some, fad_mk, pik_true, pik_false, cnd_true, cnd_false, gif_same, gif_tf, gif_ft, gif_undef, bi_add, bi_sub, bi_mul, bi_eql, bi_neq, bi_lss, bi_leq, bi_gtr, bi_geq, notB_bool, cvi_int, lenS_mk, lenT_mk, ext0, ext1, ext2, nilP_mk, nilS_mk, fldv_agg, jn0_k, jn1_k, jn2_k, jn1_and, jn1_or, ex_some, Option.isNone_some, Option.isNone_none, Bool.false_bne, Bool.bne_true, Bool.bne_false, Bool.true_bne, Bool.not_true, Bool.not_false, Bool.and_true, Bool.true_and, Bool.and_false, Bool.false_and, Bool.or_true, Bool.true_or, Bool.or_false, Bool.false_or, cond_true, cond_false, List.getElem?_toArray, List.getElem?_cons_zero, List.getElem?_cons_succ, Nat.zero_add, Nat.add_zero, Nat.reduceAdd, forall_const, L_api_Block hs3.blk, L_api_Block__Parent hs3.blk, L_api_Block__Height hs3.blk, L_api_Block__Data hs3.blk]
  rw [cnd_bool]
  refine ⟨fun h => ?_, fun h => ?_⟩
  · have h : b.chk ≠ 0 ∨ b.h ≠ 0 := by simpa using h
    exact hR _ _ (.inr (.inl ⟨hoff, h, rfl, hs3.tail⟩))
  have h : b.chk = 0 ∧ b.h = 0 := by simpa using h
  obtain ⟨hck, hh0⟩ := h
  rw [B_chain_held_0 hp1]
  refine bxQ hs3 fun gi w4 hs4 => ?_
  refine makeF_s (n := 32) hs4 fun gm w5 hs5 => ?_
  rw [B_chain_Chain_0_3 rfl rfl]
  refine bxQ hs5 fun g w6 hs6 => ?_
  -- c 0 · map 1 · held 2 · b 3 · tp 4
  obtain ⟨A1, hA1⟩ : ∃ A1, A1 = blk g3 (Rdr.cells Q_api_Block (b.p, b.h, v)).toArray T_api_Block :: tp pt x :: As := ⟨_, rfl⟩
  have hs7 : Sep w0 w6 (chH g gi gm (.slice none 0 0) (.slice none 0 0) pt false [] ++ A1) := by
    rw [hA1]
    exact Sep.pick ((hs6.nilR (q := rVec 32)).nilR (q := Q_api_Block)) [2, 4, 0, 1, 3, 5, 6] 7
  have hbA : ∀ z, Sep w0 z A1 → RdB z.heap v b.d := fun z hz => by rw [hA1] at hz; exact hb z hz.tail.tail
  simp only [L_api_Block (Sep.blk (Sep.pick hs6 [3] 4)), L_api_Block__Parent (Sep.blk (Sep.pick hs6 [3] 4)), L_api_Block__Height (Sep.blk (Sep.pick hs6 [3] 4)), L_api_Block__Data (Sep.blk (Sep.pick hs6 [3] 4))]
  refine cal_i (cAdd_spec (b := b) (v := v) hs7 hC hbA hh hck (by simp)) ?_
  rintro _ w7 ⟨rfl, lv1, iv1, vd, hs8⟩
  clear hs7 hs6 hs5 hs4 hs3 hs2' hs1 hs2
  rw [List.nil_append] at hs8
  -- chain 0-4 · own 5 · b 6 · tp 7
  rw [hA1] at hs8
  refine cal_i (tpBytes_spec (Sep.pick hs8 [7] 8) hx hm) ?_
  rintro bs w8 hs9
  obtain ⟨ba, bc, hbf, hbc⟩ := Sep.form hs9
  have hcap : capOk bs := fun a' n' c' he => by
    rw [hbf] at he
    simp only [Value.slice.injEq] at he
    obtain ⟨_, rfl, rfl⟩ := he
    exact hbc
  have hxl := hx.1
  refine cal_i (Scan_spec (hC.fr (hs8.old hs9.fr0).fr0) (Sep.rd hs9) hcap (by omega)) ?_
  rintro _ w9 ⟨sx, SB, rfl, hsc, hs10⟩
  have hf10 : Fr [] w7 w9 := hs9.fr0.trans hs10.fr0 (by simp) (by simp)
  have hs11 : Sep w0 w9 (brow sx SB ++ (chH g gi gm lv1 iv1 pt false [(b, vd)] ++ (ownB vd b.d :: blk g3 (Rdr.cells Q_api_Block (b.p, b.h, v)).toArray T_api_Block :: tp pt x :: As))) := (hs8.old hs9.fr0).join hs10
  obtain ⟨S, hS⟩ : ∃ S, S = blks SB := ⟨_, rfl⟩
  replace hsc : IsScan x.b S := by rw [hS]; exact hsc
  obtain ⟨Y, hY⟩ : ∃ Y, Y = tp pt x :: (brow sx SB ++ As) := ⟨_, rfl⟩
  have hs12 : Sep w0 w9 (chH g gi gm lv1 iv1 pt false [(b, vd)] ++ ([ownB vd b.d] ++ Y)) := by
    rw [hY]
    have h1 : Sep w0 w9 ((chH g gi gm lv1 iv1 pt false [(b, vd)] ++ [ownB vd b.d, blk g3 (Rdr.cells Q_api_Block (b.p, b.h, v)).toArray T_api_Block, tp pt x]) ++ (brow sx SB ++ As)) := hs11.perm (List.perm_append_comm_assoc (brow sx SB) (chH g gi gm lv1 iv1 pt false [(b, vd)] ++ [ownB vd b.d, blk g3 (Rdr.cells Q_api_Block (b.p, b.h, v)).toArray T_api_Block, tp pt x]) As)
    exact Sep.pick h1 [0, 1, 2, 3, 4, 5, 7] 8
  clear hs11 hs10 hs9 hs8 hf10 hA1 hbA
  have fB : ∀ {z : World} {Bs : List Asn}, Sep w0 z (Bs ++ Y) → BRows z.heap sx SB := fun {z Bs} hz => by
    have hz := hz.dropL
    rw [hY] at hz
    exact brow_rd hz.tail
  have hlS : S.length = SB.length := by rw [hS]; simp
  have hlay : ∀ i, (layL (S.take i)).length ≤ x.b.length := fun i => by
    obtain ⟨hg, t, ht, _⟩ := hsc
    have h1 : S = S.take i ++ S.drop i := (List.take_append_drop i S).symm
    have h2 : layL S = layL (S.take i) ++ layL (S.drop i) := by rw [← layL_append, List.take_append_drop]
    rw [ht, h2]
    simp only [List.length_append]
    omega
  have hSl : S.length ≤ 1000000 := by
    have h1 := layL_ge S
    have h2 := hsc.len
    omega
  simp only [nilc_some, fad_mk, pik_true, pik_false, cnd_true, cnd_false, gif_same, gif_tf, gif_ft, gif_undef, bi_add, bi_sub, bi_mul, bi_eql, bi_neq, bi_lss, bi_leq, bi_gtr, bi_geq, notB_bool, cvi_int, lenS_mk, lenT_mk, ext0, ext1, ext2, nilP_mk, nilS_mk, fldv_agg, jn0_k, jn1_k, jn2_k, jn1_and, jn1_or, ex_some, Option.isNone_some, Option.isNone_none, Bool.false_bne, Bool.bne_true, Bool.bne_false, Bool.true_bne, Bool.not_true, Bool.not_false, Bool.and_true, Bool.true_and, Bool.and_false, Bool.false_and, Bool.or_true, Bool.true_or, Bool.or_false, Bool.false_or, cond_true, cond_false, List.getElem?_toArray, List.getElem?_cons_zero, List.getElem?_cons_succ, Nat.zero_add, Nat.add_zero, Nat.reduceAdd, forall_const]
  refine ⟨fun y z => ∃ (i : Nat) (lv iv : Value) (B : List BV) (E : List Asn), y = .int .i64 ((layL (S.take i)).length : Nat) ∧ linkT b S = S.take i ∧ blks B = b :: S.take i ∧ DatB B E ∧ Sep w0 z (chH g gi gm lv iv pt false B ++ (E ++ Y)), ?_, ?_⟩
  · change lenS _ _
    rw [(fB (Bs := chH g gi gm lv1 iv1 pt false [(b, vd)] ++ [ownB vd b.d]) (by rw [List.append_assoc]; exact hs12)).len]
    refine ⟨fun y z' z => ∃ (i : Nat) (lv iv : Value) (B : List BV) (E : List Asn), y = .int .i64 ((layL (S.take i)).length : Nat) ∧ z' = .int .i64 i ∧ i ≤ SB.length ∧ linked b (S.take i) ∧ blks B = b :: S.take i ∧ DatB B E ∧ Sep w0 z (chH g gi gm lv iv pt false B ++ (E ++ Y)), fun _ y _ => (SB.length - RowKit.intOf y).toNat, ⟨0, lv1, iv1, [(b, vd)], [ownB vd b.d], rfl, rfl, by omega, trivial, rfl, (fun y hy => by rw [List.mem_singleton.1 hy]; exact List.mem_cons_self ..), hs12⟩, ?_⟩
    clear hs12
    rintro _ _ w10 ⟨i, lv, iv, B, E, rfl, rfl, hi, hlk, hB, hD, hs10⟩ -
    simp only [nilc_some, fad_mk, pik_true, pik_false, cnd_true, cnd_false, gif_same, gif_tf, gif_ft, gif_undef, bi_add, bi_sub, bi_mul, bi_eql, bi_neq, bi_lss, bi_leq, bi_gtr, bi_geq, notB_bool, cvi_int, lenS_mk, lenT_mk, ext0, ext1, ext2, nilP_mk, nilS_mk, fldv_agg, jn0_k, jn1_k, jn2_k, jn1_and, jn1_or, ex_some, Option.isNone_some, Option.isNone_none, Bool.false_bne, Bool.bne_true, Bool.bne_false, Bool.true_bne, Bool.not_true, Bool.not_false, Bool.and_true, Bool.true_and, Bool.and_false, Bool.false_and, Bool.or_true, Bool.true_or, Bool.or_false, Bool.false_or, cond_true, cond_false, List.getElem?_toArray, List.getElem?_cons_zero, List.getElem?_cons_succ, Nat.zero_add, Nat.add_zero, Nat.reduceAdd, forall_const]
    rw [cnd_bool]
    refine ⟨fun h => ?_, fun h => ?_⟩
    case refine_2 =>
      have hge : i = S.length := by simp at h; omega
      refine ⟨i, lv, iv, B, E, rfl, ?_, hB, hD, hs10⟩
      rw [hge, List.take_of_length_le (Nat.le_refl _)] at hlk ⊢
      exact linkT_self hlk
    have hlt : i < SB.length := by simp at h; omega
    obtain ⟨e, he⟩ : ∃ e, SB[i]? = some e := ⟨_, List.getElem?_eq_getElem hlt⟩
    have heS : S[i]? = some e.1 := by rw [hS, List.getElem?_map, he]; rfl
    have hge := hsc.1 e.1 (List.mem_of_getElem? heS)
    obtain ⟨y0, hy0, hy1⟩ := lastOf hB
    have hBl : B.length = i + 1 := by
      have := congrArg List.length hB
      simp only [List.length_map, List.length_cons, List.length_take] at this
      omega
    have hrB : ∀ {z : World} {Bs : List Asn}, Sep w0 z (Bs ++ (chH g gi gm lv iv pt false B ++ (E ++ Y))) → ChR z.heap g gi lv iv (.map (some gm)) pt false B := fun {z Bs} hz => chH_rd hz.dropL (hD.sub fun A hA => List.mem_append_left _ hA)
    have hsxB : ∀ {z : World} {Bs : List Asn}, Sep w0 z (Bs ++ (chH g gi gm lv iv pt false B ++ (E ++ Y))) → BRows z.heap sx SB := fun {z Bs} hz => fB (Bs := E) hz.dropL.dropL
    change ixs 34 _ _ _
    refine BRows.ld (hsxB (Bs := []) hs10) he .i64 ?_
    refine alloc_s hs10 (A_api_Block w10) fun g11 w11 hs11 => ?_
    refine St_api_Block (b := e.t) hs11 (one_api_Block ((hsxB (Bs := [_]) hs11).2 e (List.mem_of_getElem? he)).one) fun w12 hs12 => ?_
    refine drH_S hs12 fun w13 hs13 _ => ?_
    refine ⟨bq e.1 e.2, fun u hu => (L_api_Block (Sep.blk hu) _).mpr rfl, ?_⟩
    refine efS_i (cal_i (cLast_spec (hrB (Bs := [_]) hs13) hy0 (by omega)) ?_)
    rintro _ w14 ⟨rfl, hf14⟩
    have hs14 := hs13.old hf14
    refine ⟨hs14, ?_⟩
    have hyh : y0.1.h ≤ maxI := by
      have hm : y0.1 ∈ blks B := List.mem_map_of_mem (List.mem_of_getElem? hy0)
      rw [hB] at hm
      rcases List.mem_cons.1 hm with h | h
      · rw [h]; exact hh
      · exact (hsc.1 _ (List.mem_of_mem_take h)).2
    refine efC_cal (cal_i (Linked_spec (a := e.1) (b := y0.1) (hC.fr hs14.fr0) ((hsxB (Bs := [_]) hs14).2 e (List.mem_of_getElem? he)) ((hrB (Bs := [_]) hs14).bw.2 y0 (List.mem_of_getElem? hy0)) hyh hge.2) ?_)
    rintro _ w15 ⟨rfl, hf15⟩
    have hs15 := hs14.old hf15
    simp only [nilc_some, fad_mk, pik_true, pik_false, cnd_true, cnd_false, gif_same, gif_tf, gif_ft, gif_undef, bi_add, bi_sub, bi_mul, bi_eql, bi_neq, bi_lss, bi_leq, bi_gtr, bi_geq, notB_bool, cvi_int, lenS_mk, lenT_mk, ext0, ext1, ext2, nilP_mk, nilS_mk, fldv_agg, jn0_k, jn1_k, jn2_k, jn1_and, jn1_or, ex_some, Option.isNone_some, Option.isNone_none, Bool.false_bne, Bool.bne_true, Bool.bne_false, Bool.true_bne, Bool.not_true, Bool.not_false, Bool.and_true, Bool.true_and, Bool.and_false, Bool.false_and, Bool.or_true, Bool.true_or, Bool.or_false, Bool.false_or, cond_true, cond_false, List.getElem?_toArray, List.getElem?_cons_zero, List.getElem?_cons_succ, Nat.zero_add, Nat.add_zero, Nat.reduceAdd, forall_const]
    rw [cnd_bool, hy1]
    refine ⟨fun h => ?_, fun h => ?_⟩
    · have h : e.1.link (lastB b (S.take i)) ≠ 0 := by simpa using h
      exact ⟨i, lv, iv, B, E, rfl, linkT_take hlk heS h, hB, hD, hs15.tail⟩
    have h : e.1.link (lastB b (S.take i)) = 0 := by simpa using h
    simp only [L_api_Block hs15.blk, L_api_Block__Parent hs15.blk, L_api_Block__Height hs15.blk, L_api_Block__Data hs15.blk]
    refine cal_i (recSize_spec (b := e.1) (v := e.2) ((hsxB (Bs := [_]) hs15).2 e (List.mem_of_getElem? he))) ?_
    rintro _ w16 ⟨rfl, hf16⟩
    have hs16 := hs15.old hf16
    have hro : e.1.recO = e.1.rcd := if_pos hge.1
    have hll := hlay (i + 1)
    rw [layL_tk heS, List.length_append] at hll
    simp only [nilc_some, fad_mk, pik_true, pik_false, cnd_true, cnd_false, gif_same, gif_tf, gif_ft, gif_undef, bi_add, bi_sub, bi_mul, bi_eql, bi_neq, bi_lss, bi_leq, bi_gtr, bi_geq, notB_bool, cvi_int, lenS_mk, lenT_mk, ext0, ext1, ext2, nilP_mk, nilS_mk, fldv_agg, jn0_k, jn1_k, jn2_k, jn1_and, jn1_or, ex_some, Option.isNone_some, Option.isNone_none, Bool.false_bne, Bool.bne_true, Bool.bne_false, Bool.true_bne, Bool.not_true, Bool.not_false, Bool.and_true, Bool.true_and, Bool.and_false, Bool.false_and, Bool.or_true, Bool.true_or, Bool.or_false, Bool.false_or, cond_true, cond_false, List.getElem?_toArray, List.getElem?_cons_zero, List.getElem?_cons_succ, Nat.zero_add, Nat.add_zero, Nat.reduceAdd, forall_const, hro, L_api_Block hs16.blk, L_api_Block__Parent hs16.blk, L_api_Block__Height hs16.blk, L_api_Block__Data hs16.blk]
    rw [wi64 (by omega) (by omega)]
    have hsA : Sep w0 w16 (chH g gi gm lv iv pt false B ++ (blk g11 (Rdr.cells Q_api_Block e.t).toArray T_api_Block :: (E ++ Y))) := Sep.pick hs16 [1, 2, 3, 4, 5, 0] 6
    refine cal_i (cAdd_spec (b := e.1) (v := e.2) hsA hC (fun z hz => (fB (Bs := E) hz.tail).2 e (List.mem_of_getElem? he)) hge.2 hge.1 (by omega)) ?_
    rintro _ w17 ⟨rfl, lv', iv', vd', hs17⟩
    rw [wi64 (by omega) (by omega)]
    refine ⟨⟨i + 1, lv', iv', B ++ [(e.1, vd')], ownB vd' e.1.d :: E, ?_, by simp, by omega, ?_, ?_, ?_, Sep.pick hs17 [0, 1, 2, 3, 4, 5] 7⟩, by simp [RowKit.intOf]; omega⟩
    · rw [layL_tk heS, List.length_append, Int.natCast_add]
    · rw [List.take_add_one, heS]
      exact linked_snoc hlk h
    · unfold blks at hB ⊢
      rw [List.take_add_one, heS, List.map_append, hB]
      rfl
    · intro y hy
      rcases List.mem_append.1 hy with hy | hy
      · exact List.mem_cons_of_mem _ (hD y hy)
      · rw [List.mem_singleton.1 hy]; exact List.mem_cons_self ..
  clear hs12
  rintro _ w10 ⟨i, lv, iv, B, E, rfl, hlT, hB, hD, hs10⟩ _
  have hend := hlay i
  rw [hY] at hs10
  have hfin : x.b.take (layL (S.take i)).length = layL (linkT b S) := by
    obtain ⟨hg, t, ht, _⟩ := hsc
    have h1 : S = S.take i ++ S.drop i := (List.take_append_drop i S).symm
    have h2 : layL S = layL (S.take i) ++ layL (S.drop i) := by rw [← layL_append, List.take_append_drop]
    rw [ht, h2, List.append_assoc, List.take_left, hlT]
  have hs11 : Sep w0 w10 (tp pt x :: (chH g gi gm lv iv pt false B ++ (E ++ (brow sx SB ++ As)))) := by
    have h1 : Sep w0 w10 ((chH g gi gm lv iv pt false B ++ E) ++ tp pt x :: (brow sx SB ++ As)) := by rw [List.append_assoc]; exact hs10
    have h2 := Sep.mid h1
    rwa [List.append_assoc] at h2
  clear hs10
  refine cal_i (tpLen_spec hs11 hm) ?_
  rintro _ _ ⟨rfl, rfl⟩
  have out : ∀ z, Sep w0 z (tp pt { x with b := layL (linkT b S) } :: (chH g gi gm lv iv pt false B ++ (E ++ (brow sx SB ++ As)))) → R (.tuple #[.pointer (some ⟨g, 0, none⟩), .int .i64 0]) z := fun z hz => by
    refine hR _ _ (.inr (.inr ⟨hoff, hck, hh0, g, gi, gm, lv, iv, B, E ++ brow sx SB, S, rfl, hsc, by rw [hlT]; exact hB, hD.sub fun A hA => List.mem_append_left _ hA, ?_⟩))
    rw [List.append_assoc E]
    exact Sep.pick hz [1, 2, 3, 4, 5, 0] 6
  simp only [nilc_some, fad_mk, pik_true, pik_false, cnd_true, cnd_false, gif_same, gif_tf, gif_ft, gif_undef, bi_add, bi_sub, bi_mul, bi_eql, bi_neq, bi_lss, bi_leq, bi_gtr, bi_geq, notB_bool, cvi_int, lenS_mk, lenT_mk, ext0, ext1, ext2, nilP_mk, nilS_mk, fldv_agg, jn0_k, jn1_k, jn2_k, jn1_and, jn1_or, ex_some, Option.isNone_some, Option.isNone_none, Bool.false_bne, Bool.bne_true, Bool.bne_false, Bool.true_bne, Bool.not_true, Bool.not_false, Bool.and_true, Bool.true_and, Bool.and_false, Bool.false_and, Bool.or_true, Bool.true_or, Bool.or_false, Bool.false_or, cond_true, cond_false, List.getElem?_toArray, List.getElem?_cons_zero, List.getElem?_cons_succ, Nat.zero_add, Nat.add_zero, Nat.reduceAdd, forall_const]
  rw [cnd_bool]
  refine ⟨fun h => ?_, fun h => ?_⟩
  · refine cal_i (tpTruncate_spec (n := ((layL (S.take i)).length : Nat)) hs11 hx) ?_
    have hmay : x.may = 0 := by unfold Tp.may; rw [hm, hoff]; rfl
    have ht : x.truncate ((layL (S.take i)).length : Nat) = ({ x with b := layL (linkT b S) }, 0) := by
      unfold Tp.truncate
      rw [if_neg (by simp [hmay]), if_neg (by omega), Int.toNat_natCast, hfin]
    rw [ht]
    rintro _ w11 ⟨rfl, hs12⟩
    simp only [nilc_some, fad_mk, pik_true, pik_false, cnd_true, cnd_false, gif_same, gif_tf, gif_ft, gif_undef, bi_add, bi_sub, bi_mul, bi_eql, bi_neq, bi_lss, bi_leq, bi_gtr, bi_geq, notB_bool, cvi_int, lenS_mk, lenT_mk, ext0, ext1, ext2, nilP_mk, nilS_mk, fldv_agg, jn0_k, jn1_k, jn2_k, jn1_and, jn1_or, ex_some, Option.isNone_some, Option.isNone_none, Bool.false_bne, Bool.bne_true, Bool.bne_false, Bool.true_bne, Bool.not_true, Bool.not_false, Bool.and_true, Bool.true_and, Bool.and_false, Bool.false_and, Bool.or_true, Bool.true_or, Bool.or_false, Bool.false_or, cond_true, cond_false, List.getElem?_toArray, List.getElem?_cons_zero, List.getElem?_cons_succ, Nat.zero_add, Nat.add_zero, Nat.reduceAdd, forall_const, show ((0 : Int) != 0) = false from rfl]
    exact out w11 hs12
  · refine out _ ?_
    have hge : x.b.length ≤ (layL (S.take i)).length := by simp at h; omega
    rw [List.take_of_length_le hge] at hfin
    rw [← hfin]
    exact hs11
end
end Go.Fx
set_option linter.unusedVariables false
set_option linter.unusedSimpArgs false
namespace Go.Fx
section
variable {w0 w w' : World} {As : List Asn} {g gi gm : Nat} {lv iv m pt : Value} {over : Bool} {B : List BV} {x : Tp}
theorem bldS1 {s : Value} {l : List UInt8} {Bs : List Asn} {K : Value → World → Prop} (hs : Sep w0 w (ownB s l :: Bs)) (hl : l.length ≤ 1000000)
    (hk : ∀ a z, Sep w0 z (own a 1 1 [s] :: ownB s l :: Bs) → K a z) : efP P (Instr.buildSlice T_sl_sl_uint8 1 #[(0, s)]) w K := by
  have hb : (Instr.buildSlice T_sl_sl_uint8 1 #[(0, s)]).run P w = .ok (.slice (some ⟨w.heap.size, 0, none⟩) 1 1) (w.alloc (.cells ([s] : List Value).toArray T_sl_uint8)) := by
    obtain ⟨a, c, hv, _⟩ := Sep.form hs
    rw [hv]
    kernel_rfl
  exact build_s (cs := [s]) (size := 1) hs rfl hb fun g5 w5 hs5 => hk _ _ hs5
theorem app1_spec {s a : Value} {l : List UInt8} {Bs : List Asn} (hs : Sep w0 w (tp pt x :: own a 1 1 [s] :: ownB s l :: Bs)) (hx : x.Ok) (hl : l.length ≤ 1000000) :
    cal P f_tape_Tape_Append [pt, a] w fun v w' => v = .int .i64 (x.append l).2 ∧ Sep w0 w' (tp pt (x.append l).1 :: own a 1 1 [s] :: ownB s l :: Bs) := by
  refine cal_i (tpAppend_spec (s := ⟨a, [⟨s, l⟩]⟩) hs hx fun w' h => ?_) ?_
  · refine ok_of_own h.cel h.capN (by simp) fun b hb => ?_
    simp at hb
    rw [hb]
    exact h.p1.rb (by simpa using (by omega : l.length ≤ 9223372036854775807))
  have hj : joined [⟨s, l⟩] = l := by simp [joined]
  simp only [hj]
  rintro _ w1 ⟨rfl, hs1⟩
  exact ⟨rfl, hs1⟩
theorem cAccept_spec {b : Blk} {v : Value} {y : BV} (hs : Sep w0 w (chH g gi gm lv iv pt over B ++ (tp pt x :: As))) (hx : x.Ok) (hm : x.made = true) (hC : Cub w0) (hb : ∀ z, Sep w0 z As → RdB z.heap v b.d) (hD : DatB B As)
    (hh : b.h ≤ maxI) (hy : B[B.length - 1]? = some y) (hyh : y.1.h ≤ maxI) (hn : B.length ≤ 1000000) :
    cal P f_chain_Chain_Accept [.pointer (some ⟨g, 0, none⟩), bq b v] w fun r w' =>
      ((over = true ∨ x.off = true) ∧ r = .int .i64 5 ∧ Sep w0 w' (chH g gi gm lv iv pt over B ++ (tp pt x :: As))) ∨
      (over = false ∧ x.off = false ∧ b.link y.1 ≠ 0 ∧ r = .int .i64 (b.link y.1) ∧ Sep w0 w' (chH g gi gm lv iv pt over B ++ (tp pt x :: As))) ∨
      (over = false ∧ x.off = false ∧ b.link y.1 = 0 ∧ (x.append b.rcd).2 = 0 ∧ r = .int .i64 0 ∧ ∃ lv' iv' vd, Sep w0 w' (chH g gi gm lv' iv' pt false (B ++ [(b, vd)]) ++ (tp pt (x.append b.rcd).1 :: ownB vd b.d :: As))) ∨
      (over = false ∧ x.off = false ∧ b.link y.1 = 0 ∧ (x.append b.rcd).2 ≠ 0 ∧ r = .int .i64 (x.append b.rcd).2 ∧ Sep w0 w' (chH g gi gm lv iv pt ((x.append b.rcd).2 == 5) B ++ (tp pt (x.append b.rcd).1 :: As))) := by
  refine s_chain_Chain_Accept fun R hR => ?_
  unfold c_chain_Chain_Accept
  have hrC : ∀ {z : World} {Bs : List Asn}, Sep w0 z (Bs ++ (chH g gi gm lv iv pt over B ++ (tp pt x :: As))) → ChR z.heap g gi lv iv (.map (some gm)) pt over B := fun {z Bs} hz => chH_rd hz.dropL (hD.sub fun A hA => List.mem_cons_of_mem _ hA)
  refine bxQ hs fun g3 w1 hs1 => ?_
  refine cal_i (cMay_spec (hrC (Bs := [_]) hs1)) ?_
  rintro _ _ ⟨rfl, rfl⟩
  cases over with
  | true =>
    rw [if_pos rfl]
    simp only [nilc_some, fad_mk, pik_true, pik_false, cnd_true, cnd_false, gif_same, gif_tf, gif_ft, gif_undef, bi_add, bi_sub, bi_mul, bi_eql, bi_neq, bi_lss, bi_leq, bi_gtr, bi_geq, notB_bool, cvi_int, lenS_mk, lenT_mk, ext0, ext1, ext2, nilP_mk, nilS_mk, fldv_agg, jn0_k, jn1_k, jn2_k, jn1_and, jn1_or, ex_some, Option.isNone_some, Option.isNone_none, Bool.false_bne, Bool.bne_true, Bool.bne_false, Bool.true_bne, Bool.not_true, Bool.not_false, Bool.and_true, Bool.true_and, Bool.and_false, Bool.false_and, Bool.or_true, Bool.true_or, Bool.or_false, Bool.false_or, cond_true, cond_false, List.getElem?_toArray, List.getElem?_cons_zero, List.getElem?_cons_succ, Nat.zero_add, Nat.add_zero, Nat.reduceAdd, forall_const, show ((5 : Int) != 0) = true from rfl]
    exact hR _ _ (.inl ⟨.inl rfl, rfl, hs1.tail⟩)
  | false =>
  rw [if_neg (by decide)]
  simp only [nilc_some, fad_mk, pik_true, pik_false, cnd_true, cnd_false, gif_same, gif_tf, gif_ft, gif_undef, bi_add, bi_sub, bi_mul, bi_eql, bi_neq, bi_lss, bi_leq, bi_gtr, bi_geq, notB_bool, cvi_int, lenS_mk, lenT_mk, ext0, ext1, ext2, nilP_mk, nilS_mk, fldv_agg, jn0_k, jn1_k, jn2_k, jn1_and, jn1_or, ex_some, Option.isNone_some, Option.isNone_none, Bool.false_bne, Bool.bne_true, Bool.bne_false, Bool.true_bne, Bool.not_true, Bool.not_false, Bool.and_true, Bool.true_and, Bool.and_false, Bool.false_and, Bool.or_true, Bool.true_or, Bool.or_false, Bool.false_or, cond_true, cond_false, List.getElem?_toArray, List.getElem?_cons_zero, List.getElem?_cons_succ, Nat.zero_add, Nat.add_zero, Nat.reduceAdd, forall_const, show ((0 : Int) != 0) = false from rfl, L_chain_Chain (Sep.blk hs1.p1), L_chain_Chain__in (Sep.blk hs1.p1), L_chain_Chain__l (Sep.blk hs1.p1), L_chain_Chain__ids (Sep.blk hs1.p1), L_chain_Chain__at (Sep.blk hs1.p1), L_chain_Chain__over (Sep.blk hs1.p1), L_chain_held (Sep.blk hs1.p2), L_chain_held__Tape (Sep.blk hs1.p2)]
  refine cal_i (tpOn_spec (Sep.pick hs1 [6] 7)) ?_
  rintro _ _ ⟨rfl, rfl⟩
  rw [hm]
  cases hoff : x.off with
  | true =>
    simp only [nilc_some, fad_mk, pik_true, pik_false, cnd_true, cnd_false, gif_same, gif_tf, gif_ft, gif_undef, bi_add, bi_sub, bi_mul, bi_eql, bi_neq, bi_lss, bi_leq, bi_gtr, bi_geq, notB_bool, cvi_int, lenS_mk, lenT_mk, ext0, ext1, ext2, nilP_mk, nilS_mk, fldv_agg, jn0_k, jn1_k, jn2_k, jn1_and, jn1_or, ex_some, Option.isNone_some, Option.isNone_none, Bool.false_bne, Bool.bne_true, Bool.bne_false, Bool.true_bne, Bool.not_true, Bool.not_false, Bool.and_true, Bool.true_and, Bool.and_false, Bool.false_and, Bool.or_true, Bool.true_or, Bool.or_false, Bool.false_or, cond_true, cond_false, List.getElem?_toArray, List.getElem?_cons_zero, List.getElem?_cons_succ, Nat.zero_add, Nat.add_zero, Nat.reduceAdd, forall_const]
    exact hR _ _ (.inl ⟨.inr hoff, rfl, hs1.tail⟩)
  | false =>
  simp only [nilc_some, fad_mk, pik_true, pik_false, cnd_true, cnd_false, gif_same, gif_tf, gif_ft, gif_undef, bi_add, bi_sub, bi_mul, bi_eql, bi_neq, bi_lss, bi_leq, bi_gtr, bi_geq, notB_bool, cvi_int, lenS_mk, lenT_mk, ext0, ext1, ext2, nilP_mk, nilS_mk, fldv_agg, jn0_k, jn1_k, jn2_k, jn1_and, jn1_or, ex_some, Option.isNone_some, Option.isNone_none, Bool.false_bne, Bool.bne_true, Bool.bne_false, Bool.true_bne, Bool.not_true, Bool.not_false, Bool.and_true, Bool.true_and, Bool.and_false, Bool.false_and, Bool.or_true, Bool.true_or, Bool.or_false, Bool.false_or, cond_true, cond_false, List.getElem?_toArray, List.getElem?_cons_zero, List.getElem?_cons_succ, Nat.zero_add, Nat.add_zero, Nat.reduceAdd, forall_const]
  refine drH_S hs1 fun w2 hs2 _ => ?_
  refine ⟨bq b v, fun u hu => (L_api_Block (Sep.blk hu) _).mpr rfl, ?_⟩
  refine efS_i (cal_i (cLast_spec (hrC (Bs := [_]) hs2) hy hn) ?_)
  rintro _ w3 ⟨rfl, hf3⟩
  have hs3 := hs2.old hf3
  refine ⟨hs3, ?_⟩
  refine efC_cal (cal_i (Linked_spec (a := b) (b := y.1) (hC.fr hs3.fr0) (hb _ (Sep.pick hs3 [] 7)) ((hrC (Bs := [_]) hs3).bw.2 y (List.mem_of_getElem? hy)) hyh hh) ?_)
  rintro _ w4 ⟨rfl, hf4⟩
  have hs4 := hs3.old hf4
  clear hs1 hs2 hs3
  simp only [nilc_some, fad_mk, pik_true, pik_false, cnd_true, cnd_false, gif_same, gif_tf, gif_ft, gif_undef, bi_add, bi_sub, bi_mul, bi_eql, bi_neq, bi_lss, bi_leq, bi_gtr, bi_geq, notB_bool, cvi_int, lenS_mk, lenT_mk, ext0, ext1, ext2, nilP_mk, nilS_mk, fldv_agg, jn0_k, jn1_k, jn2_k, jn1_and, jn1_or, ex_some, Option.isNone_some, Option.isNone_none, Bool.false_bne, Bool.bne_true, Bool.bne_false, Bool.true_bne, Bool.not_true, Bool.not_false, Bool.and_true, Bool.true_and, Bool.and_false, Bool.false_and, Bool.or_true, Bool.true_or, Bool.or_false, Bool.false_or, cond_true, cond_false, List.getElem?_toArray, List.getElem?_cons_zero, List.getElem?_cons_succ, Nat.zero_add, Nat.add_zero, Nat.reduceAdd, forall_const]
  rw [cnd_bool]
  refine ⟨fun h => ?_, fun h => ?_⟩
  · have h : b.link y.1 ≠ 0 := by simpa using h
    exact hR _ _ (.inr (.inl ⟨rfl, hoff, h, rfl, hs4.tail⟩))
  have hl0 : b.link y.1 = 0 := by simpa using h
  have hck := (link_chk hl0).1
  have hro : b.recO = b.rcd := if_pos hck
  simp only [L_api_Block hs4.blk, L_api_Block__Parent hs4.blk, L_api_Block__Height hs4.blk, L_api_Block__Data hs4.blk]
  refine cal_i (recBytes_spec (b := b) (v := v) (hC.fr hs4.fr0) (hb _ (Sep.pick hs4 [] 7)) hh) ?_
  rintro _ w5 ⟨s, rfl, hs5⟩
  replace hs5 := hs4.join hs5
  rw [hro] at hs5
  rw [hck]
  -- rec 0 · b 1 · c 2 · held 3 · l 4 · ids 5 · map 6 · tp 7
  have hrl : b.rcd.length ≤ 1000000 := by
    have := Blk.recO_le b
    rw [hro] at this
    omega
  simp only [nilc_some, fad_mk, pik_true, pik_false, cnd_true, cnd_false, gif_same, gif_tf, gif_ft, gif_undef, bi_add, bi_sub, bi_mul, bi_eql, bi_neq, bi_lss, bi_leq, bi_gtr, bi_geq, notB_bool, cvi_int, lenS_mk, lenT_mk, ext0, ext1, ext2, nilP_mk, nilS_mk, fldv_agg, jn0_k, jn1_k, jn2_k, jn1_and, jn1_or, ex_some, Option.isNone_some, Option.isNone_none, Bool.false_bne, Bool.bne_true, Bool.bne_false, Bool.true_bne, Bool.not_true, Bool.not_false, Bool.and_true, Bool.true_and, Bool.and_false, Bool.false_and, Bool.or_true, Bool.true_or, Bool.or_false, Bool.false_or, cond_true, cond_false, List.getElem?_toArray, List.getElem?_cons_zero, List.getElem?_cons_succ, Nat.zero_add, Nat.add_zero, Nat.reduceAdd, forall_const, show ((0 : Int) != 0) = false from rfl, L_chain_Chain (Sep.blk (Sep.pick hs5 [2] 3)), L_chain_Chain__in (Sep.blk (Sep.pick hs5 [2] 3)), L_chain_Chain__l (Sep.blk (Sep.pick hs5 [2] 3)), L_chain_Chain__ids (Sep.blk (Sep.pick hs5 [2] 3)), L_chain_Chain__at (Sep.blk (Sep.pick hs5 [2] 3)), L_chain_Chain__over (Sep.blk (Sep.pick hs5 [2] 3)), L_chain_held (Sep.blk (Sep.pick hs5 [3] 4)), L_chain_held__Tape (Sep.blk (Sep.pick hs5 [3] 4))]
  refine bldS1 hs5 hrl fun a w6 hs6 => ?_
  refine cal_i (app1_spec (Sep.pick hs6 [8, 0, 1, 2, 3, 4, 5, 6, 7] 9) hx hrl) ?_
  rintro _ w7 ⟨rfl, hs7⟩
  -- tp 0 · a 1 · rec 2 · b 3 · c 4 · held 5 · l 6 · ids 7 · map 8
  simp only [nilc_some, fad_mk, pik_true, pik_false, cnd_true, cnd_false, gif_same, gif_tf, gif_ft, gif_undef, bi_add, bi_sub, bi_mul, bi_eql, bi_neq, bi_lss, bi_leq, bi_gtr, bi_geq, notB_bool, cvi_int, lenS_mk, lenT_mk, ext0, ext1, ext2, nilP_mk, nilS_mk, fldv_agg, jn0_k, jn1_k, jn2_k, jn1_and, jn1_or, ex_some, Option.isNone_some, Option.isNone_none, Bool.false_bne, Bool.bne_true, Bool.bne_false, Bool.true_bne, Bool.not_true, Bool.not_false, Bool.and_true, Bool.true_and, Bool.and_false, Bool.false_and, Bool.or_true, Bool.true_or, Bool.or_false, Bool.false_or, cond_true, cond_false, List.getElem?_toArray, List.getElem?_cons_zero, List.getElem?_cons_succ, Nat.zero_add, Nat.add_zero, Nat.reduceAdd, forall_const]
  rw [cnd_bool]
  refine ⟨fun h => ?_, fun h => ?_⟩
  · have h : (x.append b.rcd).2 = 0 := by simpa using h
    simp only [L_api_Block (Sep.blk (Sep.pick hs7 [3] 4)), L_api_Block__Parent (Sep.blk (Sep.pick hs7 [3] 4)), L_api_Block__Height (Sep.blk (Sep.pick hs7 [3] 4)), L_api_Block__Data (Sep.blk (Sep.pick hs7 [3] 4))]
    refine cal_i (cAdd_spec (b := b) (v := v) (As := tp pt (x.append b.rcd).1 :: As) (Sep.pick hs7 [4, 5, 6, 7, 8, 0] 9) hC (fun z hz => hb z hz.tail) hh hck hn) ?_
    rintro _ w8 ⟨rfl, lv', iv', vd, hs8⟩
    rw [h]
    exact hR _ _ (.inr (.inr (.inl ⟨rfl, hoff, hl0, h, rfl, lv', iv', vd, Sep.pick hs8 [0, 1, 2, 3, 4, 6, 5] 7⟩)))
  have h : (x.append b.rcd).2 ≠ 0 := by simpa using h
  rw [cnd_bool]
  refine ⟨fun h5 => ?_, fun h5 => ?_⟩
  · refine St_chain_Chain__over (Sep.pick hs7 [4, 5, 6, 7, 8, 0] 9) fun w8 hs8 => ?_
    refine hR _ _ (.inr (.inr (.inr ⟨rfl, hoff, hl0, h, rfl, ?_⟩)))
    rw [h5]
    exact hs8
  · refine hR _ _ (.inr (.inr (.inr ⟨rfl, hoff, hl0, h, rfl, ?_⟩)))
    rw [h5]
    exact Sep.pick hs7 [4, 5, 6, 7, 8, 0] 9
theorem fldv_hgt (b : Blk) (v : Value) (K : Value → Prop) : fldv 32 1 false (bq b v) K = K (.int .i64 b.h) := by
  have hl : (bvs b.p.1).length = 32 := by rw [bvs_length]; exact b.p.2
  have ex : (Rdr.cells Q_api_Block (b.p, b.h, v)).toArray[32]? = some (.int .i64 b.h) := by
    show ((bvs b.p.1 ++ ([Value.int .i64 b.h] ++ [v])).toArray)[32]? = _
    rw [List.getElem?_toArray, List.getElem?_append_right (by omega), hl]
    rfl
  refine propext ⟨?_, fun hk => ⟨_, rfl, _, ex, hk⟩⟩
  rintro ⟨cs, hcs, u, hu, hk⟩
  cases hcs
  rw [ex] at hu
  cases hu
  exact hk
theorem cLastId_spec {y : BV} (hr : ChR w.heap g gi lv iv m pt over B) (hy : B[B.length - 1]? = some y) (hn : B.length ≤ 1000000) : cal P f_chain_Chain_Last [.pointer (some ⟨g, 0, none⟩)] w fun r w' => r = .tuple #[kv y.1.id, .int .i64 y.1.h] ∧ Fr [] w w' := by
  refine s_chain_Chain_Last fun R hR => ?_
  unfold c_chain_Chain_Last
  have hpos : 0 < B.length := by
    have := (List.getElem?_eq_some_iff.1 hy).1
    omega
  have hy' : (B.map (·.1.id))[B.length - 1]? = some y.1.id := by rw [List.getElem?_map, hy]; rfl
  refine alloc_s (Sep.start w) (A_api_ID w) fun g2 w1 hs1 => ?_
  refine cal_i (cNone_spec (hs1.ch hr)) ?_
  rintro _ _ ⟨rfl, rfl⟩
  simp only [nilc_some, fad_mk, pik_true, pik_false, cnd_true, cnd_false, gif_same, gif_tf, gif_ft, gif_undef, bi_add, bi_sub, bi_mul, bi_eql, bi_neq, bi_lss, bi_leq, bi_gtr, bi_geq, notB_bool, cvi_int, lenS_mk, lenT_mk, ext0, ext1, ext2, nilP_mk, nilS_mk, fldv_agg, jn0_k, jn1_k, jn2_k, jn1_and, jn1_or, ex_some, Option.isNone_some, Option.isNone_none, Bool.false_bne, Bool.bne_true, Bool.bne_false, Bool.true_bne, Bool.not_true, Bool.not_false, Bool.and_true, Bool.true_and, Bool.and_false, Bool.false_and, Bool.or_true, Bool.true_or, Bool.or_false, Bool.false_or, cond_true, cond_false, List.getElem?_toArray, List.getElem?_cons_zero, List.getElem?_cons_succ, Nat.zero_add, Nat.add_zero, Nat.reduceAdd, forall_const]
  refine drH_S hs1 fun w2 hs2 _ => ?_
  refine rdS_ld (v := iv) (fun u hu K hk => by obtain ⟨T, fr, hc⟩ := (hu.ch hr).cell; exact (L_chain_Chain__ids hc K).mpr hk) ?_
  refine rdS_ld (v := iv) (fun u hu K hk => by obtain ⟨T, fr, hc⟩ := (hu.ch hr).cell; exact (L_chain_Chain__ids hc K).mpr hk) ?_
  have hil := hr.iw.len (fun v => v = .int .i64 B.length)
  rw [List.length_map] at hil
  have hil2 : ∀ K, lenS iv K = K (.int .i64 B.length) := fun K => by
    have := hr.iw.len K
    rwa [List.length_map] at this
  rw [hil2]
  simp only [nilc_some, fad_mk, pik_true, pik_false, cnd_true, cnd_false, gif_same, gif_tf, gif_ft, gif_undef, bi_add, bi_sub, bi_mul, bi_eql, bi_neq, bi_lss, bi_leq, bi_gtr, bi_geq, notB_bool, cvi_int, lenS_mk, lenT_mk, ext0, ext1, ext2, nilP_mk, nilS_mk, fldv_agg, jn0_k, jn1_k, jn2_k, jn1_and, jn1_or, ex_some, Option.isNone_some, Option.isNone_none, Bool.false_bne, Bool.bne_true, Bool.bne_false, Bool.true_bne, Bool.not_true, Bool.not_false, Bool.and_true, Bool.true_and, Bool.and_false, Bool.false_and, Bool.or_true, Bool.true_or, Bool.or_false, Bool.false_or, cond_true, cond_false, List.getElem?_toArray, List.getElem?_cons_zero, List.getElem?_cons_succ, Nat.zero_add, Nat.add_zero, Nat.reduceAdd, forall_const]
  rw [wi64 (by omega) (by omega)]
  have e1 : (B.length : Int) - 1 = ((B.length - 1 : Nat) : Int) := by omega
  rw [e1]
  change ixs 32 _ _ _
  refine rdS_rowC (q := rVec 32) (by decide) hs2 (fun u hu => (hu.ch hr).iw) hy' .i64 ?_
  refine efS_i (cal_i (cLast_spec (hs2.ch hr) hy hn) ?_)
  rintro _ w3 ⟨rfl, hf3⟩
  have hs3 := hs2.old hf3
  refine ⟨hs3, ?_⟩
  change fldv _ _ _ _ _
  rw [fldv_hgt]
  refine efC_stN (St_api_ID (b := y.1.id) hs3 fun w4 hs4 => ?_)
  simp only [L_api_ID hs4.blk]
  exact hR _ _ ⟨rfl, hs4.fr0⟩
end
end Go.Fx
set_option linter.unusedVariables false
set_option linter.unusedSimpArgs false
namespace Go.Fx
/-- An iterator of n values: what it hands over at place i, and the memory that the receiver gets with it, are known by 'arg'; M: the memory that it looks at is as it was. -/
def IterG (P : Program) (g : Value) (M : Heap → Prop) (n : Nat) (arg : Nat → List Value → List Asn → Prop) : Prop :=
  ∃ gf cap, g = .func (.func gf) #[] cap ∧ callable P gf = true ∧ ∀ (y : Value) (w0 w : World) (J : Nat → List Asn → Prop) (X : List Asn → Prop) (As : List Asn), y.oneCell' = true → J 0 As → Sep w0 w As →
    (∀ i Bs Ls z, J i Bs → Sep w0 z (Bs ++ Ls) → M z.heap) →
    (∀ i args Es z Bs Ls, i < n → arg i args Es → J i Bs → Sep w0 z (Es ++ (Bs ++ Ls)) → calY P y args z fun r z' => (r = .bool true ∧ ∃ Cs, J (i + 1) Cs ∧ Sep w0 z' (Cs ++ Ls)) ∨ (r = .bool false ∧ ∃ Cs, X Cs ∧ Sep w0 z' (Cs ++ Ls))) →
    cal P gf (y :: cap.toList) w fun r z' => r = .tuple #[] ∧ ((∃ Cs, J n Cs ∧ Sep w0 z' Cs) ∨ ∃ Cs, X Cs ∧ Sep w0 z' Cs)
section
variable {w0 w w' : World} {As Bs : List Asn}
theorem rngG_s {P : Program} {g : Value} {M : Heap → Prop} {n k : Nat} {arg : Nat → List Value → List Asn → Prop} {rnd : List Value → World → (World → (World → Prop) → Prop) → (Option Code → World → Prop) → Prop}
    {out : Nat → List (Option Code × (World → Prop))} (hs : Sep w0 w As) (hit : IterG P g M n arg) (hk : ∀ i args Es, arg i args Es → args.length = k)
    (J : Nat → List Asn → Prop) (X : Code → List Asn → Prop) (h0 : J 0 As) (hM : ∀ i Bs Ls z, J i Bs → Sep w0 z (Bs ++ Ls) → M z.heap)
    (hrnd : ∀ (i : Nat) (args : List Value) (Es : List Asn) (z : World) (Bs LR LB : List Asn) (bg : World → (World → Prop) → Prop) (fin : Option Code → World → Prop), i < n → J i Bs → arg i args Es → Sep w0 z (Es ++ (Bs ++ LR)) →
      (∀ z' Cs K, Sep w0 z' (Cs ++ LR) → (∀ z'', Sep w0 z'' (Cs ++ LB) → K z'') → bg z' K) →
      (∀ z' Cs, J (i + 1) Cs → Sep w0 z' (Cs ++ LB) → fin none z') → (∀ j z' Cs, X j Cs → Sep w0 z' (Cs ++ LB) → fin (some j) z') → rnd args z bg fin)
    (hN : ∀ D Bs z, J n Bs → Sep w0 z (.obj D dfB :: Bs) → outL none z (out D)) (hX : ∀ D j Bs z, X j Bs → Sep w0 z (.obj D dfB :: Bs) → outL (some j) z (out D)) : rng P g k w rnd out := by
  obtain ⟨gf, cap, hg, hcal, hI⟩ := hit
  refine ⟨gf, cap, hg, hcal, fun y rec h1 hy => ?_⟩
  have swap2 : ∀ {z : World} {Cs : List Asn} {A B : Asn}, Sep w0 z (Cs ++ [A, B]) → Sep w0 z (A :: B :: Cs) := fun h => Sep.rot h
  have swap3 : ∀ {z : World} {Cs : List Asn} {A B : Asn}, Sep w0 z (A :: B :: Cs) → Sep w0 z (Cs ++ [A, B]) := fun {z Cs A B} h => Sep.rot (As := [A, B]) h
  -- the record at the head, and back
  have hd : ∀ {z : World} {Cs Ls : List Asn} {A : Asn}, Sep w0 z (Cs ++ (A :: Ls)) → Sep w0 z (A :: (Cs ++ Ls)) := fun h => h.perm List.perm_middle
  have bk : ∀ {z : World} {Cs Ls : List Asn} {A : Asn}, Sep w0 z (A :: (Cs ++ Ls)) → Sep w0 z (Cs ++ (A :: Ls)) := fun h => h.perm List.perm_middle.symm
  refine cal_i (hI y w0 _ (fun i Bs => ∃ Cs, J i Cs ∧ Bs = Cs ++ [.obj (w.heap.size + 1) (rec .ready none), .obj w.heap.size dfB])
    (fun Bs => ∃ j Cs, X j Cs ∧ Bs = Cs ++ [.obj (w.heap.size + 1) (rec .done (some j)), .obj w.heap.size dfB]) (As ++ [.obj (w.heap.size + 1) (rec .ready none), .obj w.heap.size dfB]) h1 ⟨As, h0, rfl⟩ (swap3 ?_) ?_ ?_) ?_
  · have h2 : Sep w0 (w.alloc dfB) (.obj w.heap.size dfB :: As) := hs.new (F' := [w.heap.size]) (fr_alloc w _) (B := .obj w.heap.size dfB) ⟨alloc_new w _, rfl⟩ (by simp)
    have e : (w.alloc dfB).heap.size = w.heap.size + 1 := by simp
    refine h2.new (F' := [w.heap.size + 1]) (fr_alloc _ _) (B := .obj (w.heap.size + 1) (rec .ready none)) ⟨?_, rfl⟩ (by simp)
    have := alloc_new (w.alloc dfB) (rec .ready none)
    rwa [e] at this
  · rintro i _ Ls z ⟨Cs, hJ, rfl⟩ hB
    rw [List.append_assoc] at hB
    exact hM i Cs _ z hJ hB
  · rintro i args Es z _ Ls hi harg ⟨Bs, hJ, rfl⟩ hB
    rw [List.append_assoc] at hB
    have hB2 := hB
    rw [← List.append_assoc] at hB2
    refine hy args z _ (hk i args Es harg) (hd hB2).objAt ?_
    refine hrnd i args Es z Bs _ (.obj (w.heap.size + 1) (rec .busy none) :: .obj w.heap.size dfB :: Ls) _ _ hi hJ harg hB ?_ ?_ ?_
    · intro z' Cs K hz hK
      exact ⟨(hd hz).objAt, hK _ (bk ((hd hz).objUpd _))⟩
    · intro z' Cs hC hz
      exact ⟨(hd hz).objAt, .inl ⟨rfl, _, ⟨Cs, hC, rfl⟩, by rw [List.append_assoc]; exact bk ((hd hz).objUpd _)⟩⟩
    · intro j z' Cs hC hz
      exact ⟨(hd hz).objAt, .inr ⟨rfl, _, ⟨j, Cs, hC, rfl⟩, by rw [List.append_assoc]; exact bk ((hd hz).objUpd _)⟩⟩
  · rintro v z ⟨-, ⟨_, ⟨Bs, hJ, rfl⟩, hB⟩ | ⟨_, ⟨j, Bs, hX', rfl⟩, hB⟩⟩
    · exact ⟨none, (swap2 hB).objAt, hN _ Bs _ hJ ((swap2 hB).objUpd _).tail⟩
    · exact ⟨some j, (swap2 hB).objAt, hX _ j Bs _ hX' ((swap2 hB).objUpd _).tail⟩
end
end Go.Fx
set_option linter.unusedVariables false
set_option linter.unusedSimpArgs false
namespace Go.Fx
section
variable {w0 w w' : World} {As : List Asn} {g gi gm : Nat} {lv iv m pt : Value} {over : Bool} {B : List BV} {x : Tp}
theorem clnI {v : Value} {l : List (Vec 32)} (hv : Rows' (rVec 32) w.heap v l) (hl : l.length ≤ 1000000) : cal P f_slices_Clone_api_ID_api_ID [v] w fun r w' => Sep w w' [rows (rVec 32) r l] := by
  refine s_slices_Clone_api_ID_api_ID fun R hR => ?_
  unfold c_slices_Clone_api_ID_api_ID
  obtain ⟨a, c, rfl, hl', hh⟩ := id hv
  cases a with
  | none =>
    have h0 : l = [] := by
      rcases hh with h0 | ⟨_, _, _, _, _, h, _⟩
      · refine List.eq_nil_of_length_eq_zero ?_
        have : (rVec 32).size = 32 := rfl
        rw [this] at h0
        omega
      · cases h
    subst h0
    simp only [nilc_some, fad_mk, pik_true, pik_false, cnd_true, cnd_false, gif_same, gif_tf, gif_ft, gif_undef, bi_add, bi_sub, bi_mul, bi_eql, bi_neq, bi_lss, bi_leq, bi_gtr, bi_geq, notB_bool, cvi_int, lenS_mk, lenT_mk, ext0, ext1, ext2, nilP_mk, nilS_mk, fldv_agg, jn0_k, jn1_k, jn2_k, jn1_and, jn1_or, ex_some, Option.isNone_some, Option.isNone_none, Bool.false_bne, Bool.bne_true, Bool.bne_false, Bool.true_bne, Bool.not_true, Bool.not_false, Bool.and_true, Bool.true_and, Bool.and_false, Bool.false_and, Bool.or_true, Bool.true_or, Bool.or_false, Bool.false_or, cond_true, cond_false, List.getElem?_toArray, List.getElem?_cons_zero, List.getElem?_cons_succ, Nat.zero_add, Nat.add_zero, Nat.reduceAdd, forall_const]
    exact hR _ _ (Sep.start w).nilR
  | some a =>
    simp only [nilc_some, fad_mk, pik_true, pik_false, cnd_true, cnd_false, gif_same, gif_tf, gif_ft, gif_undef, bi_add, bi_sub, bi_mul, bi_eql, bi_neq, bi_lss, bi_leq, bi_gtr, bi_geq, notB_bool, cvi_int, lenS_mk, lenT_mk, ext0, ext1, ext2, nilP_mk, nilS_mk, fldv_agg, jn0_k, jn1_k, jn2_k, jn1_and, jn1_or, ex_some, Option.isNone_some, Option.isNone_none, Bool.false_bne, Bool.bne_true, Bool.bne_false, Bool.true_bne, Bool.not_true, Bool.not_false, Bool.and_true, Bool.true_and, Bool.and_false, Bool.false_and, Bool.or_true, Bool.true_or, Bool.or_false, Bool.false_or, cond_true, cond_false, List.getElem?_toArray, List.getElem?_cons_zero, List.getElem?_cons_succ, Nat.zero_add, Nat.add_zero, Nat.reduceAdd, forall_const]
    have hb1 : ∀ w : World, (Instr.buildSlice T_sl_api_ID 0 #[]).run P w = .ok (.slice (some ⟨w.heap.size, 0, none⟩) 0 0) (w.alloc (.cells ([] : List Value).toArray T_api_ID)) := fun w => by kernel_rfl
    refine build_s (size := 32) (Sep.start w) (cs := []) rfl (hb1 w) fun g w1 hs1 => ?_
    replace hs1 : Sep w w1 [rows (rVec 32) (.slice (some ⟨g, 0, none⟩) 0 0) []] := hs1
    refine rows_app S_sl_api_ID U_sl_api_ID (by simp) hs1 (hv.fr hs1.fr0) ?_ (by simp; omega) (by simp; omega) fun v8 w8 hs8 => ?_
    · intro u hu
      obtain ⟨x, hx, hu⟩ := List.mem_flatMap.1 hu
      exact oneVec u hu
    · exact hR _ _ (by simpa using hs8)
theorem clnB {v : Value} (hv : BRows w.heap v B) (hl : B.length ≤ 1000000) : cal P f_slices_Clone_api_Block_api_Block [v] w fun r w' => Sep w w' [rows Q_api_Block r (B.map BV.t)] := by
  refine s_slices_Clone_api_Block_api_Block fun R hR => ?_
  unfold c_slices_Clone_api_Block_api_Block
  have hv1 := hv.1
  obtain ⟨a, c, rfl, hl', hh⟩ := id hv1
  cases a with
  | none =>
    have h0 : B = [] := by
      rcases hh with h0 | ⟨_, _, _, _, _, h, _⟩
      · refine List.eq_nil_of_length_eq_zero ?_
        have : (Q_api_Block).size = 34 := rfl
        rw [this, List.length_map] at h0
        omega
      · cases h
    subst h0
    simp only [nilc_some, fad_mk, pik_true, pik_false, cnd_true, cnd_false, gif_same, gif_tf, gif_ft, gif_undef, bi_add, bi_sub, bi_mul, bi_eql, bi_neq, bi_lss, bi_leq, bi_gtr, bi_geq, notB_bool, cvi_int, lenS_mk, lenT_mk, ext0, ext1, ext2, nilP_mk, nilS_mk, fldv_agg, jn0_k, jn1_k, jn2_k, jn1_and, jn1_or, ex_some, Option.isNone_some, Option.isNone_none, Bool.false_bne, Bool.bne_true, Bool.bne_false, Bool.true_bne, Bool.not_true, Bool.not_false, Bool.and_true, Bool.true_and, Bool.and_false, Bool.false_and, Bool.or_true, Bool.true_or, Bool.or_false, Bool.false_or, cond_true, cond_false, List.getElem?_toArray, List.getElem?_cons_zero, List.getElem?_cons_succ, Nat.zero_add, Nat.add_zero, Nat.reduceAdd, forall_const]
    exact hR _ _ (Sep.start w).nilR
  | some a =>
    simp only [nilc_some, fad_mk, pik_true, pik_false, cnd_true, cnd_false, gif_same, gif_tf, gif_ft, gif_undef, bi_add, bi_sub, bi_mul, bi_eql, bi_neq, bi_lss, bi_leq, bi_gtr, bi_geq, notB_bool, cvi_int, lenS_mk, lenT_mk, ext0, ext1, ext2, nilP_mk, nilS_mk, fldv_agg, jn0_k, jn1_k, jn2_k, jn1_and, jn1_or, ex_some, Option.isNone_some, Option.isNone_none, Bool.false_bne, Bool.bne_true, Bool.bne_false, Bool.true_bne, Bool.not_true, Bool.not_false, Bool.and_true, Bool.true_and, Bool.and_false, Bool.false_and, Bool.or_true, Bool.true_or, Bool.or_false, Bool.false_or, cond_true, cond_false, List.getElem?_toArray, List.getElem?_cons_zero, List.getElem?_cons_succ, Nat.zero_add, Nat.add_zero, Nat.reduceAdd, forall_const]
    have hb1 : ∀ w : World, (Instr.buildSlice T_sl_api_Block 0 #[]).run P w = .ok (.slice (some ⟨w.heap.size, 0, none⟩) 0 0) (w.alloc (.cells ([] : List Value).toArray T_api_Block)) := fun w => by kernel_rfl
    refine build_s (size := 34) (Sep.start w) (cs := []) rfl (hb1 w) fun g w1 hs1 => ?_
    replace hs1 : Sep w w1 [rows Q_api_Block (.slice (some ⟨g, 0, none⟩) 0 0) []] := hs1
    refine rows_app S_sl_api_Block U_sl_api_Block (by simp) hs1 (hv1.fr hs1.fr0) ?_ (by simp; omega) (by simp; omega) fun v8 w8 hs8 => ?_
    · intro u hu
      obtain ⟨x, hx, hu⟩ := List.mem_flatMap.1 hu
      obtain ⟨y, hy, rfl⟩ := List.mem_map.1 hx
      exact one_api_Block (hv.2 y hy).one u hu
    · exact hR _ _ (by simpa using hs8)
theorem al_slB (w : World) : (Instr.alloc T_sl_api_Block true (.tuple #[])).run P w = .ok (.pointer (some ⟨w.heap.size, 0, none⟩)) (w.alloc (.cells #[.slice none 0 0] T_sl_api_Block)) := by kernel_rfl
theorem al_slI (w : World) : (Instr.alloc T_sl_api_ID true (.tuple #[])).run P w = .ok (.pointer (some ⟨w.heap.size, 0, none⟩)) (w.alloc (.cells #[.slice none 0 0] T_sl_api_ID)) := by kernel_rfl
theorem cAll_spec (hr : ChR w.heap g gi lv iv m pt over B) (hn : B.length ≤ 1000000) : cal P f_chain_Chain_All [.pointer (some ⟨g, 0, none⟩)] w fun r w' => ∃ (g3 g4 : Nat) (u y : Value), r = .func (.func f_chain_Chain_All_1) #[] #[.pointer (some ⟨g3, 0, none⟩), .pointer (some ⟨g4, 0, none⟩)] ∧
    Sep w w' [blk g3 #[u] T_sl_api_Block, blk g4 #[y] T_sl_api_ID, rows Q_api_Block u (B.map BV.t), rows (rVec 32) y (B.map (·.1.id))] := by
  refine s_chain_Chain_All fun R hR => ?_
  unfold c_chain_Chain_All
  refine alloc_s (Sep.start w) (al_slB w) fun g3 w1 hs1 => ?_
  refine alloc_s hs1 (al_slI w1) fun g4 w2 hs2 => ?_
  refine ⟨fun z => ∃ u y, Sep w z [blk g3 #[u] T_sl_api_Block, blk g4 #[y] T_sl_api_ID, rows Q_api_Block u (B.map BV.t), rows (rVec 32) y (B.map (·.1.id))], ?_, fun z ⟨u, y, hz⟩ _ => hR _ _ ⟨g3, g4, u, y, rfl, hz⟩⟩
  refine cal_i (cNone_spec (hs2.ch hr)) ?_
  rintro _ _ ⟨rfl, rfl⟩
  simp only [nilc_some, fad_mk, pik_true, pik_false, cnd_true, cnd_false, gif_same, gif_tf, gif_ft, gif_undef, bi_add, bi_sub, bi_mul, bi_eql, bi_neq, bi_lss, bi_leq, bi_gtr, bi_geq, notB_bool, cvi_int, lenS_mk, lenT_mk, ext0, ext1, ext2, nilP_mk, nilS_mk, fldv_agg, jn0_k, jn1_k, jn2_k, jn1_and, jn1_or, ex_some, Option.isNone_some, Option.isNone_none, Bool.false_bne, Bool.bne_true, Bool.bne_false, Bool.true_bne, Bool.not_true, Bool.not_false, Bool.and_true, Bool.true_and, Bool.and_false, Bool.false_and, Bool.or_true, Bool.true_or, Bool.or_false, Bool.false_or, cond_true, cond_false, List.getElem?_toArray, List.getElem?_cons_zero, List.getElem?_cons_succ, Nat.zero_add, Nat.add_zero, Nat.reduceAdd, forall_const]
  refine drH_S hs2 fun w3 hs3 _ => ?_
  refine rdS_ld (v := lv) (fun u hu K hk => by obtain ⟨T, fr, hc⟩ := (hu.ch hr).cell; exact (L_chain_Chain__l hc K).mpr hk) ?_
  refine rdS_ld (v := iv) (fun u hu K hk => by obtain ⟨T, fr, hc⟩ := (hu.ch hr).cell; exact (L_chain_Chain__ids hc K).mpr hk) ?_
  refine efS_i (cal_i (clnB (hs3.ch hr).bw hn) ?_)
  rintro u w4 hs4
  replace hs4 := hs3.join hs4
  refine ⟨hs4.tail, ?_⟩
  refine efC_cal (cal_i (clnI (hs4.ch hr).iw (by simpa using hn)) ?_)
  rintro y w5 hs5
  replace hs5 := hs4.join hs5
  -- ids 0 · l 1 · g4 2 · g3 3
  refine efC_st1 (st1_s (Sep.pick hs5 [3, 0, 1, 2] 4) (by simp) (Sep.oneR hs5.p1) fun w6 hs6 => ?_)
  -- g3 0 · ids 1 · l 2 · g4 3
  refine efC_st1 (st1_s (Sep.pick hs6 [3, 0, 1, 2] 4) (by simp) (Sep.oneR hs6.p1) fun w7 hs7 => ?_)
  exact ⟨u, y, Sep.pick hs7 [1, 0, 3, 2] 4⟩
def argB (B : List BV) (i : Nat) (_ : World) (args : List Value) : Prop := ∃ x, B[i]? = some x ∧ args = [.int .i64 (i : Nat), bq x.1 x.2]
theorem sall_iter {v : Value} {g1 : Nat} (hl : B.length ≤ 1000000) : Iter P (.func (.func f_slices_All_api_Block_api_Block_1) #[] #[.pointer (some ⟨g1, 0, none⟩)])
    (fun h => (∃ T fr, h[g1]? = some (.cells #[v] T fr)) ∧ BRows h v B) B.length (argB B) := by
  refine ⟨_, _, rfl, by kernel_rfl, fun y w0 w J X As h1 h0 hs hM hst => ?_⟩
  show cal P f_slices_All_api_Block_api_Block_1 [y, .pointer (some ⟨g1, 0, none⟩)] w _
  refine s_slices_All_api_Block_api_Block_1 fun R hR => ?_
  unfold c_slices_All_api_Block_api_Block_1
  obtain ⟨⟨T, fr, hc⟩, hv⟩ := hM 0 As [] w h0 (by rwa [List.append_nil])
  refine ld1_i (v := v) hc rfl ?_
  rw [hv.len]
  refine ⟨fun t z => ∃ (i : Nat) (Bs : List Asn), t = .int .i64 i ∧ i ≤ B.length ∧ J i Bs ∧ Sep w0 z Bs, fun t _ => (B.length - RowKit.intOf t).toNat, ⟨0, As, rfl, by omega, h0, hs⟩, ?_⟩
  rintro _ z ⟨i, Bs, rfl, hi, hJ, hz⟩ -
  simp only [nilc_some, fad_mk, pik_true, pik_false, cnd_true, cnd_false, gif_same, gif_tf, gif_ft, gif_undef, bi_add, bi_sub, bi_mul, bi_eql, bi_neq, bi_lss, bi_leq, bi_gtr, bi_geq, notB_bool, cvi_int, lenS_mk, lenT_mk, ext0, ext1, ext2, nilP_mk, nilS_mk, fldv_agg, jn0_k, jn1_k, jn2_k, jn1_and, jn1_or, ex_some, Option.isNone_some, Option.isNone_none, Bool.false_bne, Bool.bne_true, Bool.bne_false, Bool.true_bne, Bool.not_true, Bool.not_false, Bool.and_true, Bool.true_and, Bool.and_false, Bool.false_and, Bool.or_true, Bool.true_or, Bool.or_false, Bool.false_or, cond_true, cond_false, List.getElem?_toArray, List.getElem?_cons_zero, List.getElem?_cons_succ, Nat.zero_add, Nat.add_zero, Nat.reduceAdd, forall_const]
  rw [cnd_bool]
  refine ⟨fun h => ?_, fun h => ?_⟩
  · have hlt : i < B.length := by simp at h; omega
    obtain ⟨x, hx⟩ : ∃ x, B[i]? = some x := ⟨_, List.getElem?_eq_getElem hlt⟩
    have hv' := (hM i Bs [] z hJ (by rwa [List.append_nil])).2
    change ixs 34 _ _ _
    refine BRows.ld hv' hx .i64 ?_
    refine alloc_s hz (A_api_Block z) fun g4 z1 hz1 => ?_
    refine St_api_Block (b := x.t) hz1 (one_api_Block (hv'.2 x (List.mem_of_getElem? hx)).one) fun z2 hz2 => ?_
    simp only [L_api_Block hz2.blk, L_api_Block__Parent hz2.blk, L_api_Block__Height hz2.blk, L_api_Block__Data hz2.blk]
    refine calY_i (hst i [.int .i64 i, bq x.1 x.2] z2 Bs _ hlt ⟨x, hx, rfl⟩ hJ (Sep.rot (As := [_]) hz2)) ?_
    rintro r z' (⟨rfl, Cs, hJ', hz'⟩ | ⟨rfl, Cs, hX', hz'⟩)
    · simp only [nilc_some, fad_mk, pik_true, pik_false, cnd_true, cnd_false, gif_same, gif_tf, gif_ft, gif_undef, bi_add, bi_sub, bi_mul, bi_eql, bi_neq, bi_lss, bi_leq, bi_gtr, bi_geq, notB_bool, cvi_int, lenS_mk, lenT_mk, ext0, ext1, ext2, nilP_mk, nilS_mk, fldv_agg, jn0_k, jn1_k, jn2_k, jn1_and, jn1_or, ex_some, Option.isNone_some, Option.isNone_none, Bool.false_bne, Bool.bne_true, Bool.bne_false, Bool.true_bne, Bool.not_true, Bool.not_false, Bool.and_true, Bool.true_and, Bool.and_false, Bool.false_and, Bool.or_true, Bool.true_or, Bool.or_false, Bool.false_or, cond_true, cond_false, List.getElem?_toArray, List.getElem?_cons_zero, List.getElem?_cons_succ, Nat.zero_add, Nat.add_zero, Nat.reduceAdd, forall_const]
      rw [wi64 (by omega) (by omega)]
      exact ⟨⟨i + 1, Cs, by simp, by omega, hJ', hz'.dropR⟩, by simp [RowKit.intOf]; omega⟩
    · simp only [nilc_some, fad_mk, pik_true, pik_false, cnd_true, cnd_false, gif_same, gif_tf, gif_ft, gif_undef, bi_add, bi_sub, bi_mul, bi_eql, bi_neq, bi_lss, bi_leq, bi_gtr, bi_geq, notB_bool, cvi_int, lenS_mk, lenT_mk, ext0, ext1, ext2, nilP_mk, nilS_mk, fldv_agg, jn0_k, jn1_k, jn2_k, jn1_and, jn1_or, ex_some, Option.isNone_some, Option.isNone_none, Bool.false_bne, Bool.bne_true, Bool.bne_false, Bool.true_bne, Bool.not_true, Bool.not_false, Bool.and_true, Bool.true_and, Bool.and_false, Bool.false_and, Bool.or_true, Bool.true_or, Bool.or_false, Bool.false_or, cond_true, cond_false, List.getElem?_toArray, List.getElem?_cons_zero, List.getElem?_cons_succ, Nat.zero_add, Nat.add_zero, Nat.reduceAdd, forall_const]
      exact hR _ _ ⟨rfl, .inr ⟨Cs, hX', hz'.dropR⟩⟩
  · have hge : i = B.length := by simp at h; omega
    subst hge
    exact hR _ _ ⟨rfl, .inl ⟨Bs, hJ, hz⟩⟩
theorem sAll_spec {v : Value} (hv1 : v.oneCell' = true) : cal P f_slices_All_api_Block_api_Block [v] w fun r w' => ∃ g1, r = .func (.func f_slices_All_api_Block_api_Block_1) #[] #[.pointer (some ⟨g1, 0, none⟩)] ∧ Sep w w' [blk g1 #[v] T_sl_api_Block] := by
  refine s_slices_All_api_Block_api_Block fun R hR => ?_
  unfold c_slices_All_api_Block_api_Block
  refine bx_s (Sep.start w) fun g1 w1 hs1 => ?_
  have ev : v.cells = #[v] := by cases v <;> simp_all [Value.cells, Value.oneCell']
  rw [ev] at hs1
  exact hR _ _ ⟨g1, rfl, hs1⟩
/-- What a chain hands over: a name and a block with memory of its own. -/
def argC (B : List BV) (i : Nat) (args : List Value) (Es : List Asn) : Prop := ∃ x vd, B[i]? = some x ∧ args = [kv x.1.id, bq x.1 vd] ∧ Es = [ownB vd x.1.d]
def MC (g3 g4 : Nat) (u y : Value) (B : List BV) (h : Heap) : Prop := (∃ T fr, h[g3]? = some (.cells #[u] T fr)) ∧ (∃ T fr, h[g4]? = some (.cells #[y] T fr)) ∧ BRows h u B ∧ Rows' (rVec 32) h y (B.map (·.1.id))
theorem all1_iter {lv iv : Value} {g3 g4 : Nat} (hl : B.length ≤ 1000000) (hv1 : lv.oneCell' = true) (hdl : ∀ x ∈ B, x.1.d.length ≤ 100000) :
    IterG P (.func (.func f_chain_Chain_All_1) #[] #[.pointer (some ⟨g3, 0, none⟩), .pointer (some ⟨g4, 0, none⟩)]) (MC g3 g4 lv iv B) B.length (argC B) := by
  refine ⟨_, _, rfl, by kernel_rfl, fun y w0 w J X As h1 h0 hs hM hst => ?_⟩
  show cal P f_chain_Chain_All_1 [y, .pointer (some ⟨g3, 0, none⟩), .pointer (some ⟨g4, 0, none⟩)] w _
  refine s_chain_Chain_All_1 fun R hR => ?_
  unfold c_chain_Chain_All_1
  refine bx_s hs fun g2 w1 hs1 => ?_
  have ey : y.cells = #[y] := by cases y <;> simp_all [Value.cells, Value.oneCell']
  rw [ey] at hs1
  obtain ⟨⟨T, fr, hc⟩, _, hv, _⟩ := hM 0 As [blk g2 #[y] T_func_api_ID_api_Block_bool] w1 h0 (Sep.rot (As := [_]) hs1)
  refine ld1_i (v := lv) hc rfl ?_
  refine cal_i (sAll_spec hv1) ?_
  rintro _ w2 ⟨g1, rfl, hs2⟩
  replace hs2 := hs1.join hs2
  have perm : ∀ {z : World} {Cs Ls : List Asn} {A B : Asn}, Sep w0 z ((A :: B :: Cs) ++ Ls) → Sep w0 z (Cs ++ (A :: B :: Ls)) := fun {z Cs Ls A B} h => h.perm (by
    show (A :: B :: (Cs ++ Ls)).Perm _
    exact ((List.perm_middle (l₁ := Cs) (l₂ := Ls) (a := B)).symm.cons A).trans (List.perm_middle (l₁ := Cs) (l₂ := B :: Ls) (a := A)).symm)
  have perm' : ∀ {z : World} {Cs Ls : List Asn} {A B : Asn}, Sep w0 z (Cs ++ (A :: B :: Ls)) → Sep w0 z ((A :: B :: Cs) ++ Ls) := fun {z Cs Ls A B} h => h.perm (by
    show (Cs ++ (A :: B :: Ls)).Perm (A :: B :: (Cs ++ Ls))
    exact (List.perm_middle (l₁ := Cs) (l₂ := B :: Ls) (a := A)).trans ((List.perm_middle (l₁ := Cs) (l₂ := Ls) (a := B)).cons A))
  refine rng_s (As := blk g1 #[lv] T_sl_api_Block :: blk g2 #[y] T_func_api_ID_api_Block_bool :: As) hs2 (sall_iter (v := lv) (g1 := g1) hl) (fun i z args ⟨x, _, h⟩ => by rw [h]; rfl)
    (fun i Bs => ∃ Cs, J i Cs ∧ Bs = blk g1 #[lv] T_sl_api_Block :: blk g2 #[y] T_func_api_ID_api_Block_bool :: Cs) (fun c Bs => c = .ret ∧ ∃ Cs, X Cs ∧ Bs = blk g1 #[lv] T_sl_api_Block :: blk g2 #[y] T_func_api_ID_api_Block_bool :: Cs) ⟨As, h0, rfl⟩ ?_ ?_ ?_ ?_
  · rintro i _ Ls z ⟨Cs, hJ, rfl⟩ hz
    exact ⟨⟨_, _, Sep.blk hz⟩, (hM i Cs _ z hJ (perm hz)).2.2.1⟩
  · rintro i _ z _ LR LB bg fin hi ⟨Cs, hJ, rfl⟩ ⟨x, hx, rfl⟩ hz hbg hfn hfx
    have hx' : (B.map (·.1.id))[i]? = some x.1.id := by rw [List.getElem?_map, hx]; rfl
    have hxo := (((hM i Cs _ z hJ (perm hz)).2.2.1).2 x (List.mem_of_getElem? hx)).one
    refine alloc_s hz (A_api_Block z) fun g5 z1 hz1 => ?_
    simp only [List.getD_cons_zero, List.getD_cons_succ]
    refine St_api_Block (b := x.t) hz1 (one_api_Block hxo) fun z2 hz2 => ?_
    refine hbg z2 (blk g5 (Rdr.cells Q_api_Block x.t).toArray T_api_Block :: blk g1 #[lv] T_sl_api_Block :: blk g2 #[y] T_func_api_ID_api_Block_bool :: Cs) _ hz2 fun z3 hz3 => ?_
    have hmM : ∀ {u : World}, Sep w0 u (blk g5 (Rdr.cells Q_api_Block x.t).toArray T_api_Block :: ((blk g1 #[lv] T_sl_api_Block :: blk g2 #[y] T_func_api_ID_api_Block_bool :: Cs) ++ LB)) → MC g3 g4 lv iv B u.heap := fun hu => hM i Cs _ _ hJ (perm hu.tail)
    replace hz3 : Sep w0 z3 (blk g5 (Rdr.cells Q_api_Block x.t).toArray T_api_Block :: ((blk g1 #[lv] T_sl_api_Block :: blk g2 #[y] T_func_api_ID_api_Block_bool :: Cs) ++ LB)) := hz3
    refine drH_S hz3 fun z4 hz4 _ => ?_
    refine rdS_ld (v := y) (fun u hu K hk => ld1_i (v := y) (Sep.blk (Sep.p1 hu.tail)) rfl hk) ?_
    refine rdS_ld (v := iv) (fun u hu K hk => by obtain ⟨_, ⟨T, fr, hc⟩, _⟩ := hmM hu; exact ld1_i (v := iv) hc rfl hk) ?_
    refine rdS_rowC (q := rVec 32) (by decide) hz4 (fun u hu => (hmM hu).2.2.2) hx' .i64 ?_
    refine ⟨bq x.1 x.2, fun u hu => (L_api_Block (Sep.blk hu) _).mpr rfl, ?_⟩
    refine efS_i (cal_i (bkClone_spec (b := x.1) (v := x.2) ((hmM hz4).2.2.1.2 x (List.mem_of_getElem? hx)) (by have := hdl x (List.mem_of_getElem? hx); omega)) ?_)
    rintro _ z5 ⟨vd, rfl, hz5⟩
    replace hz5 := hz4.join hz5
    refine ⟨hz5.tail, ?_⟩
    -- own 0 · g5 1 · g1 2 · g2 3 · Cs
    have hz6 : Sep w0 z5 ([ownB vd x.1.d] ++ (Cs ++ (blk g1 #[lv] T_sl_api_Block :: blk g2 #[y] T_func_api_ID_api_Block_bool :: LB))) := by
      refine Sep.perm (Sep.pick hz5 [0, 2, 3] 4) ?_
      refine List.Perm.cons _ ?_
      exact ((List.perm_middle (l₁ := Cs) (l₂ := LB) (a := blk g2 #[y] T_func_api_ID_api_Block_bool)).symm.cons _).trans (List.perm_middle (l₁ := Cs) (l₂ := _ :: LB) (a := blk g1 #[lv] T_sl_api_Block)).symm
    refine calY_i (hst i [kv x.1.id, bq x.1 vd] _ z5 Cs _ hi ⟨x, vd, hx, rfl, rfl⟩ hJ hz6) ?_
    rintro r z' (⟨rfl, Cs', hJ', hz'⟩ | ⟨rfl, Cs', hX', hz'⟩)
    · simp only [nilc_some, fad_mk, pik_true, pik_false, cnd_true, cnd_false, gif_same, gif_tf, gif_ft, gif_undef, bi_add, bi_sub, bi_mul, bi_eql, bi_neq, bi_lss, bi_leq, bi_gtr, bi_geq, notB_bool, cvi_int, lenS_mk, lenT_mk, ext0, ext1, ext2, nilP_mk, nilS_mk, fldv_agg, jn0_k, jn1_k, jn2_k, jn1_and, jn1_or, ex_some, Option.isNone_some, Option.isNone_none, Bool.false_bne, Bool.bne_true, Bool.bne_false, Bool.true_bne, Bool.not_true, Bool.not_false, Bool.and_true, Bool.true_and, Bool.and_false, Bool.false_and, Bool.or_true, Bool.true_or, Bool.or_false, Bool.false_or, cond_true, cond_false, List.getElem?_toArray, List.getElem?_cons_zero, List.getElem?_cons_succ, Nat.zero_add, Nat.add_zero, Nat.reduceAdd, forall_const]
      exact hfn z' _ ⟨Cs', hJ', rfl⟩ (perm' hz')
    · simp only [nilc_some, fad_mk, pik_true, pik_false, cnd_true, cnd_false, gif_same, gif_tf, gif_ft, gif_undef, bi_add, bi_sub, bi_mul, bi_eql, bi_neq, bi_lss, bi_leq, bi_gtr, bi_geq, notB_bool, cvi_int, lenS_mk, lenT_mk, ext0, ext1, ext2, nilP_mk, nilS_mk, fldv_agg, jn0_k, jn1_k, jn2_k, jn1_and, jn1_or, ex_some, Option.isNone_some, Option.isNone_none, Bool.false_bne, Bool.bne_true, Bool.bne_false, Bool.true_bne, Bool.not_true, Bool.not_false, Bool.and_true, Bool.true_and, Bool.and_false, Bool.false_and, Bool.or_true, Bool.true_or, Bool.or_false, Bool.false_or, cond_true, cond_false, List.getElem?_toArray, List.getElem?_cons_zero, List.getElem?_cons_succ, Nat.zero_add, Nat.add_zero, Nat.reduceAdd, forall_const]
      exact hfx _ z' _ ⟨rfl, Cs', hX', rfl⟩ (perm' hz')
  · rintro D _ z ⟨Cs, hJ, rfl⟩ hz
    exact .inl ⟨rfl, takeD_s hz fun w' hw' => hR _ _ ⟨rfl, .inl ⟨Cs, hJ, hw'.tail.tail⟩⟩⟩
  · rintro D _ _ z ⟨rfl, Cs, hX', rfl⟩ hz
    exact .inr (.inl ⟨rfl, takeD_s hz fun w' hw' => hR _ _ ⟨rfl, .inr ⟨Cs, hX', hw'.tail.tail⟩⟩⟩)
end
end Go.Fx
set_option linter.unusedVariables false
set_option linter.unusedSimpArgs false
namespace Go.Fx
section
variable {w0 w w' : World} {As : List Asn} {g gi gm : Nat} {lv iv m pt : Value} {over : Bool} {B : List BV} {x : Tp}
/-- A row of the law's list. -/
def nmd (x : BV) : Vec 32 × Vec 32 × Int × Value := (x.1.id, x.t)
theorem nilFnC {f : FuncId} {cap : Array Value} {w : World} (K : Value → Prop) : rdP P (eqS .eql T_iter_Seq2_api_ID_api_Block (.tmp 11) (.const Value.nilFunc) (.func (.func f) #[] cap) Value.nilFunc) w K = K (.bool false) := rdP_eq (by kernel_rfl) K
theorem nBld {y : BV} {K : Value → World → Prop} {Bs : List Asn} (hs : Sep w0 w Bs) (hk : ∀ a z, Sep w0 z (rows Q_flurrylaw10_named a [nmd y] :: Bs) → K a z) : efP P (Instr.buildSlice T_sl_flurrylaw10_named 1 #[(0, .agg (Rdr.cells Q_flurrylaw10_named (nmd y)).toArray)]) w K :=
  rows_lit (q := Q_flurrylaw10_named) hs S_sl_flurrylaw10_named (l := [nmd y]) (V := fun a => .agg (Rdr.cells Q_flurrylaw10_named a).toArray) (fun a => rfl) rfl rfl (by decide) (by decide) fun g7 w7 hs7 => hk _ _ hs7
theorem nApp {y : BV} {u a : Value} {N : List BV} {K : Value → World → Prop} {Bs : List Asn} (hs : Sep w0 w (rows Q_flurrylaw10_named u (N.map nmd) :: Bs)) (ha : Rows' Q_flurrylaw10_named w.heap a [nmd y]) (h1 : y.2.oneCell' = true) (hl : N.length ≤ 1000000)
    (hk : ∀ u' z, Sep w0 z (rows Q_flurrylaw10_named u' ((N ++ [y]).map nmd) :: Bs) → K u' z) : efP P (Builtin.append_ #[T_sl_flurrylaw10_named, T_sl_flurrylaw10_named] T_sl_flurrylaw10_named #[u, a]) w K :=
  rows_app (q := Q_flurrylaw10_named) S_sl_flurrylaw10_named U_sl_flurrylaw10_named (by simp) hs ha (by simp only [List.flatMap_cons, List.flatMap_nil, List.append_nil]; exact one_flurrylaw10_named (a := nmd y) h1) (by simp; omega) (by simp; omega) fun v8 w8 hs8 => hk _ _ (by
    have e : (N ++ [y]).map nmd = N.map nmd ++ [nmd y] := by simp
    rw [e]; exact hs8)
theorem al_slN (w : World) : (Instr.alloc T_sl_flurrylaw10_named true (.tuple #[])).run P w = .ok (.pointer (some ⟨w.heap.size, 0, none⟩)) (w.alloc (.cells #[.slice none 0 0] T_sl_flurrylaw10_named)) := by kernel_rfl
theorem told10_spec {most : Nat} (hr : ChR w.heap g gi lv iv m pt over B) (hn : B.length ≤ 1000000) (hdl : ∀ x ∈ B, x.1.d.length ≤ 100000) (hm : most ≤ 2000000) :
    cal P f_law10_told [.pointer (some ⟨g, 0, none⟩), .int .i64 most] w fun r w' => ∃ N E, blks N = (blks B).take most ∧ DatB N E ∧ Sep w w' (rows Q_flurrylaw10_named r (N.map nmd) :: E) := by
  refine s_law10_told fun R hR => ?_
  unfold c_law10_told
  refine bx_s (Sep.start w) fun g3 w1 hs1 => ?_
  replace hs1 : Sep w w1 [blk g3 #[.int .i64 most] T_int] := hs1
  refine alloc_s hs1 (al_slN w1) fun g5 w2 hs2 => ?_
  refine cal_i (cAll_spec (hs2.ch hr) hn) ?_
  rintro _ w3 ⟨ga, gb, u, y, rfl, hs3⟩
  replace hs3 := hs2.join hs3
  rw [nilFnC, cnd_false]
  -- ga 0 · gb 1 · u 2 · y 3 · g5 4 · g3 5
  have hs4 := Sep.pick (Sep.nilR (q := Q_flurrylaw10_named) hs3) [5, 0, 6, 1, 2, 3, 4] 7
  have hu1 := Sep.oneR hs3.p2
  let F : List Asn := [blk g3 #[.int .i64 most] T_int, blk ga #[u] T_sl_api_Block, blk gb #[y] T_sl_api_ID, rows Q_api_Block u (B.map BV.t), rows (rVec 32) y (B.map (·.1.id))]
  have hlen : ∀ {N : List BV} {k : Nat}, blks N = (blks B).take k → k ≤ B.length → N.length = k := fun {N k} h hk => by
    have := congrArg List.length h
    simp only [List.length_map, List.length_take] at this
    omega
  refine rngG_s (n := B.length) hs4 (all1_iter (lv := u) (iv := y) (g3 := ga) (g4 := gb) hn hu1 hdl) (fun i args Es ⟨x, vd, _, h, _⟩ => by rw [h]; rfl)
    (fun i Bs => i ≤ most ∧ ∃ v N E, blks N = (blks B).take i ∧ DatB N E ∧ Bs = blk g5 #[v] T_sl_flurrylaw10_named :: rows Q_flurrylaw10_named v (N.map nmd) :: (F ++ E))
    (fun c Bs => c = .exit 0 ∧ ∃ v N E, blks N = (blks B).take most ∧ DatB N E ∧ Bs = blk g5 #[v] T_sl_flurrylaw10_named :: rows Q_flurrylaw10_named v (N.map nmd) :: (F ++ E))
    ⟨Nat.zero_le _, _, [], [], by simp, fun x hx => by simp at hx, rfl⟩ ?_ ?_ ?_ ?_
  · rintro i _ Ls z ⟨_, v, N, E, hN, hD, rfl⟩ hz
    replace hz := hz.tail.tail.tail
    exact ⟨⟨_, _, Sep.blk hz⟩, ⟨_, _, Sep.blk hz.tail⟩, ⟨Sep.rows hz.tail.tail, fun x hx => (hr.fr hz.fr0).bw.2 x hx⟩, Sep.rows hz.tail.tail.tail⟩
  · rintro i _ _ z _ LR LB bg fin hi ⟨hle, v, N, E, hN, hD, rfl⟩ ⟨x, vd, hx, rfl, rfl⟩ hz hbg hfn hfx
    have hNl := hlen hN (by omega)
    refine alloc_s hz (A_api_ID z) fun g7 z1 hz1 => ?_
    simp only [List.getD_cons_zero, List.getD_cons_succ]
    refine St_api_ID (b := x.1.id) hz1 fun z2 hz2 => ?_
    refine alloc_s hz2 (A_api_Block z2) fun g8 z3 hz3 => ?_
    refine St_api_Block (b := (x.1.p, x.1.h, vd)) hz3 (one_api_Block (Sep.one hz3.p2)) fun z4 hz4 => ?_
    refine hbg z4 (blk g8 (Rdr.cells Q_api_Block (x.1.p, x.1.h, vd)).toArray T_api_Block :: blk g7 (Rdr.cells (rVec 32) x.1.id).toArray T_api_ID :: ownB vd x.1.d :: (blk g5 #[v] T_sl_flurrylaw10_named :: rows Q_flurrylaw10_named v (N.map nmd) :: (F ++ E))) _ hz4 fun z5 hz5 => ?_
    have hz6 : Sep w z5 (blk g8 (Rdr.cells Q_api_Block (x.1.p, x.1.h, vd)).toArray T_api_Block :: blk g7 (Rdr.cells (rVec 32) x.1.id).toArray T_api_ID :: ownB vd x.1.d :: blk g5 #[v] T_sl_flurrylaw10_named :: rows Q_flurrylaw10_named v (N.map nmd) :: ((F ++ E) ++ LB)) := hz5
    refine ld1_i (v := v) (Sep.blk hz6.p3) rfl ?_
    have hll : ∀ K, lenS v K = K (.int .i64 i) := fun K => by
      have := (Sep.rows (Sep.pick hz6 [4] 5)).len K
      rwa [List.length_map, hNl] at this
    rw [hll]
    refine ld1_i (v := .int .i64 most) (Sep.blk (Sep.pick hz6 [5] 6)) rfl ?_
    simp only [nilc_some, fad_mk, pik_true, pik_false, cnd_true, cnd_false, gif_same, gif_tf, gif_ft, gif_undef, bi_add, bi_sub, bi_mul, bi_eql, bi_neq, bi_lss, bi_leq, bi_gtr, bi_geq, notB_bool, cvi_int, lenS_mk, lenT_mk, ext0, ext1, ext2, nilP_mk, nilS_mk, fldv_agg, jn0_k, jn1_k, jn2_k, jn1_and, jn1_or, ex_some, Option.isNone_some, Option.isNone_none, Bool.false_bne, Bool.bne_true, Bool.bne_false, Bool.true_bne, Bool.not_true, Bool.not_false, Bool.and_true, Bool.true_and, Bool.and_false, Bool.false_and, Bool.or_true, Bool.true_or, Bool.or_false, Bool.false_or, cond_true, cond_false, List.getElem?_toArray, List.getElem?_cons_zero, List.getElem?_cons_succ, Nat.zero_add, Nat.add_zero, Nat.reduceAdd, forall_const]
    rw [cnd_bool]
    refine ⟨fun h => ?_, fun h => ?_⟩
    · have h : most ≤ i := by simp at h; omega
      obtain rfl : i = most := by omega
      exact hfx _ z5 _ ⟨rfl, v, N, E, hN, hD, rfl⟩ hz6.tail.tail.tail
    · have h : i < most := by simp at h; omega
      refine ld1_i (v := v) (Sep.blk hz6.p3) rfl ?_
      simp only [L_api_ID hz6.p1.blk, L_api_Block hz6.blk, L_api_Block__Parent hz6.blk, L_api_Block__Height hz6.blk, L_api_Block__Data hz6.blk]
      rw [B_flurrylaw10_named_0_1]
      refine nBld (y := (x.1, vd)) hz6 fun a z7 hz7 => ?_
      refine nApp (y := (x.1, vd)) (Sep.pick hz7 [5, 0, 3, 4] 6) (Sep.rows hz7) (Sep.one hz7.p3) (by omega) fun v' z8 hz8 => ?_
      -- rows 0 · a 1 · own 2 · g5 3
      refine st1_s (Sep.pick hz8 [3, 0, 2] 4) (by simp) (Sep.oneR hz8) fun z9 hz9 => ?_
      refine hfn z9 (blk g5 #[v'] T_sl_flurrylaw10_named :: rows Q_flurrylaw10_named v' ((N ++ [(x.1, vd)]).map nmd) :: (F ++ (ownB vd x.1.d :: E))) ⟨h, v', N ++ [(x.1, vd)], ownB vd x.1.d :: E, ?_, ?_, rfl⟩ ?_
      · have hx2 : (blks B)[i]? = some x.1 := by rw [List.getElem?_map, hx]; rfl
        rw [List.take_add_one, hx2, ← hN]
        simp
      · intro q hq
        rcases List.mem_append.1 hq with hq | hq
        · exact List.mem_cons_of_mem _ (hD q hq)
        · rw [List.mem_singleton.1 hq]; exact List.mem_cons_self ..
      · exact Sep.pick hz9 [0, 1, 3, 4, 5, 6, 7, 2] 8
  · rintro D _ z ⟨hle, v, N, E, hN, hD, rfl⟩ hz
    refine .inl ⟨rfl, ?_⟩
    refine ld1_i (v := v) (Sep.blk hz.p1) rfl ?_
    refine takeD_s hz fun w' hw' => hR _ _ ⟨N, E, ?_, hD, Sep.pick hw' [1] 7⟩
    rw [hN, List.take_of_length_le (by simp), List.take_of_length_le (by simpa using hle)]
  · rintro D _ _ z ⟨rfl, v, N, E, hN, hD, rfl⟩ hz
    refine .inr (.inl ⟨rfl, ?_⟩)
    refine ld1_i (v := v) (Sep.blk hz.p1) rfl ?_
    exact takeD_s hz fun w' hw' => hR _ _ ⟨N, E, hN, hD, Sep.pick hw' [1] 7⟩
end
end Go.Fx
set_option linter.unusedVariables false
set_option linter.unusedSimpArgs false
namespace Go.Fx
section
variable {w0 w w' : World} {As : List Asn}
def genB : Blk := ⟨vz 32, 0, [103]⟩
theorem genB_chk : genB.chk = 0 := by decide
theorem genB_h : genB.h = 0 := rfl
theorem lit1 (x : UInt8) (w : World) : (Instr.buildSlice T_sl_uint8 1 #[(0, bv x)]).run P w = .ok (.slice (some ⟨w.heap.size, 0, none⟩) 1 1) (w.alloc (.cells (bvs [x]).toArray T_uint8)) := by kernel_rfl
theorem cFirst_spec : cal P f_law10_first [] w fun r w' => ∃ v, r = bq genB v ∧ Sep w w' [rdA v [103]] := by
  refine s_law10_first fun R hR => ?_
  unfold c_law10_first
  refine alloc_s (Sep.start w) (A_api_Block w) fun g0 w1 hs1 => ?_
  refine lit_s (l := [103]) hs1 U_sl_uint8 U_uint8 rfl (lit1 103 w1) fun g1 w2 hs2 => ?_
  rw [B_api_Block_2 rfl]
  refine St_api_Block (b := (vz 32, 0, .slice (some ⟨g1, 0, none⟩) 1 1)) hs2.p1 (one_api_Block rfl) fun w3 hs3 => ?_
  simp only [L_api_Block hs3.blk, L_api_Block__Parent hs3.blk, L_api_Block__Height hs3.blk, L_api_Block__Data hs3.blk]
  exact hR _ _ ⟨_, rfl, hs3.tail⟩
theorem cChild_spec {b : Blk} {v u : Value} {d : List UInt8} (hb : RdB w.heap v b.d) (hd : RdB w.heap u d) (hcap : capOk u) (hh : b.h ≤ maxI) (hl : d.length ≤ 9223372036854775807) :
    cal P f_law10_child [bq b v, u] w fun r w' => ∃ v', r = bq (b.child (d.take 200)) v' ∧ Sep w w' [ownB v' (b.child (d.take 200)).d] := by
  refine s_law10_child fun R hR => ?_
  unfold c_law10_child
  obtain ⟨a, c, hu⟩ := hd.form
  have hc := hcap _ _ _ hu
  obtain ⟨k, hk⟩ : ∃ k, k = min d.length 200 := ⟨_, rfl⟩
  have hdk : RdB w.heap (.slice a k c) (d.take 200) := by
    rw [hu] at hd
    have h1 := hd.take (k := k) (by omega) c
    have e : d.take k = d.take 200 := by
      rw [hk]
      by_cases h : d.length ≤ 200
      · rw [Nat.min_eq_left h, List.take_of_length_le (Nat.le_refl _), List.take_of_length_le h]
      · rw [Nat.min_eq_right (by omega)]
    rwa [e] at h1
  refine bxQ (Sep.start w) fun g2 w1 hs1 => ?_
  refine alloc_s hs1 (A_api_Block w1) fun g4 w2 hs2 => ?_
  refine drH_S hs2 fun w3 hs3 _ => ?_
  refine ⟨fun y z => ∃ g5 v', y = .pointer (some ⟨g5, 0, none⟩) ∧ Sep w z (blk g5 (Rdr.cells Q_api_Block ((b.child (d.take 200)).p, (b.child (d.take 200)).h, v')).toArray T_api_Block :: ownB v' (b.child (d.take 200)).d :: blk g4 (Rdr.cells Q_api_Block (vz 32, (0 : Int), .slice none 0 0)).toArray T_api_Block :: [blk g2 (Rdr.cells Q_api_Block (b.p, b.h, v)).toArray T_api_Block]), ?_, ?_⟩
  · refine ⟨bq b v, fun u hu => (L_api_Block (Sep.blk hu.p1) _).mpr rfl, ?_⟩
    change lenS _ _
    rw [hd.len]
    refine ⟨.int .i64 (k : Int), fun u hu => by rw [min_int]; congr 1; omega, ?_⟩
    rw [hu]
    change slc 1 _ _ _ _
    rw [slc_to (by omega)]
    have hal : ∀ (z : World), (Instr.alloc T_api_Block true (.tuple #[])).run P z = .ok (.pointer (some ⟨z.heap.size, 0, none⟩)) (z.alloc (.cells (Rdr.cells Q_api_Block (vz 32, (0 : Int), .slice none 0 0)).toArray T_api_Block)) := A_api_Block
    refine ⟨?_, ?_, trivial⟩
    · refine efC_cut (cal_i (rbChild_spec (b := b) (v := v) (d := d.take 200) (hs3.rdB hb) (hs3.rdB hdk) hh) ?_)
      rintro _ w4 ⟨v', rfl, hs4⟩
      replace hs4 := hs3.join hs4
      refine ⟨fun u => Sep w u (ownB v' (b.child (d.take 200)).d :: [blk g4 (Rdr.cells Q_api_Block (vz 32, (0 : Int), .slice none 0 0)).toArray T_api_Block, blk g2 (Rdr.cells Q_api_Block (b.p, b.h, v)).toArray T_api_Block]), hs4, ?_⟩
      simp only [nilc_some, fad_mk, pik_true, pik_false, cnd_true, cnd_false, gif_same, gif_tf, gif_ft, gif_undef, bi_add, bi_sub, bi_mul, bi_eql, bi_neq, bi_lss, bi_leq, bi_gtr, bi_geq, notB_bool, cvi_int, lenS_mk, lenT_mk, ext0, ext1, ext2, nilP_mk, nilS_mk, fldv_agg, jn0_k, jn1_k, jn2_k, jn1_and, jn1_or, ex_some, Option.isNone_some, Option.isNone_none, Bool.false_bne, Bool.bne_true, Bool.bne_false, Bool.true_bne, Bool.not_true, Bool.not_false, Bool.and_true, Bool.true_and, Bool.and_false, Bool.false_and, Bool.or_true, Bool.true_or, Bool.or_false, Bool.false_or, cond_true, cond_false, List.getElem?_toArray, List.getElem?_cons_zero, List.getElem?_cons_succ, Nat.zero_add, Nat.add_zero, Nat.reduceAdd, forall_const]
      refine efS_i (alloc_s hs4 (hal w4) fun g5 w5 hs5 => ⟨hs5.tail, ?_⟩)
      refine efC_stN (St_api_Block (b := ((b.child (d.take 200)).p, (b.child (d.take 200)).h, v')) hs5 (one_api_Block (Sep.one hs5.p1)) fun w6 hs6 => ?_)
      exact ⟨g5, v', rfl, hs6⟩
    · refine efS_i (alloc_s hs3 (hal w3) fun g5 w4 hs4 => ⟨hs4.tail, ?_⟩)
      refine efC_cal (cal_i (rbChild_spec (b := b) (v := v) (d := d.take 200) (hs4.rdB hb) (hs4.rdB hdk) hh) ?_)
      rintro _ w5 ⟨v', rfl, hs5⟩
      replace hs5 := hs4.join hs5
      simp only [nilc_some, fad_mk, pik_true, pik_false, cnd_true, cnd_false, gif_same, gif_tf, gif_ft, gif_undef, bi_add, bi_sub, bi_mul, bi_eql, bi_neq, bi_lss, bi_leq, bi_gtr, bi_geq, notB_bool, cvi_int, lenS_mk, lenT_mk, ext0, ext1, ext2, nilP_mk, nilS_mk, fldv_agg, jn0_k, jn1_k, jn2_k, jn1_and, jn1_or, ex_some, Option.isNone_some, Option.isNone_none, Bool.false_bne, Bool.bne_true, Bool.bne_false, Bool.true_bne, Bool.not_true, Bool.not_false, Bool.and_true, Bool.true_and, Bool.and_false, Bool.false_and, Bool.or_true, Bool.true_or, Bool.or_false, Bool.false_or, cond_true, cond_false, List.getElem?_toArray, List.getElem?_cons_zero, List.getElem?_cons_succ, Nat.zero_add, Nat.add_zero, Nat.reduceAdd, forall_const]
      refine efC_stN (St_api_Block (b := ((b.child (d.take 200)).p, (b.child (d.take 200)).h, v')) hs5.p1 (one_api_Block (Sep.one hs5)) fun w6 hs6 => ?_)
      exact ⟨g5, v', rfl, hs6⟩
  · rintro _ z ⟨g5, v', rfl, hz⟩ _
    simp only [L_api_Block hz.blk, L_api_Block__Parent hz.blk, L_api_Block__Height hz.blk, L_api_Block__Data hz.blk]
    refine St_api_Block (b := ((b.child (d.take 200)).p, (b.child (d.take 200)).h, v')) hz.p2 (one_api_Block (Sep.one hz.p1)) fun w6 hs6 => ?_
    simp only [L_api_Block hs6.blk, L_api_Block__Parent hs6.blk, L_api_Block__Height hs6.blk, L_api_Block__Data hs6.blk]
    exact hR _ _ ⟨v', rfl, Sep.pick hs6 [2] 4⟩
/-- Something that is done. -/
structure OA where
  act : Int
  n : Int
  d : List UInt8
  dv : Value
  b : Blk
  bv : Value
def OA.t (x : OA) : Int × Int × Value × Vec 32 × Int × Value := (x.act, x.n, x.dv, x.b.p, x.b.h, x.bv)
structure ORows (h : Heap) (v : Value) (l : List OA) : Prop where
  rw : Rows' Q_flurrylaw10_Op h v (l.map OA.t)
  d : ∀ x ∈ l, RdB h x.dv x.d ∧ RdB h x.bv x.b.d
theorem ORows.fr {v : Value} {l : List OA} (h : ORows w.heap v l) (hf : Fr [] w w') : ORows w'.heap v l := ⟨h.rw.fr hf, fun x hx => ⟨(h.d x hx).1.fr hf (off_nil _), (h.d x hx).2.fr hf (off_nil _)⟩⟩
theorem ORows.len {h : Heap} {v : Value} {l : List OA} (hr : ORows h v l) (K : Value → Prop) : lenS v K = K (.int .i64 l.length) := by
  have := hr.rw.len K
  rwa [List.length_map] at this
def OOk (l : List OA) : Prop := ∀ x ∈ l, x.b.h ≤ maxI ∧ -maxI - 1 ≤ x.n ∧ x.n ≤ maxI ∧ x.d.length ≤ 9223372036854775807 ∧ x.b.d.length ≤ 9223372036854775807 ∧ capOk x.dv
theorem ops_arg {h : Heap} {s : Sl (Int × Int × Sl UInt8 × (Vec 32 × Int × Sl UInt8))} (hs : (rSl R_flurrylaw10_Op).ok h s) : ∃ l : List OA, ORows h s.v l ∧ capOk s.v ∧ l.length ≤ 9223372036854775807 ∧ OOk l := by
  obtain ⟨h1, h2, h3, h4⟩ := hs
  refine ⟨s.l.map fun x => ⟨x.1, x.2.1, x.2.2.1.l, x.2.2.1.v, ab x.2.2.2, x.2.2.2.2.2.v⟩, ⟨?_, fun x hx => ?_⟩, h3, by simpa using h2, fun x hx => ?_⟩
  · have e : s.l.flatMap R_flurrylaw10_Op.cells = ((s.l.map fun x => (⟨x.1, x.2.1, x.2.2.1.l, x.2.2.1.v, ab x.2.2.2, x.2.2.2.2.2.v⟩ : OA)).map OA.t).flatMap Q_flurrylaw10_Op.cells := by
      generalize s.l = l
      induction l with
      | nil => rfl
      | cons a l ih => rw [List.flatMap_cons, ih]; rfl
    unfold Rows'
    rw [e] at h1
    simp only [List.length_map] at h1 ⊢
    exact h1
  · obtain ⟨y, hy, rfl⟩ := List.mem_map.1 hx
    obtain ⟨o0, o1, o2, o3⟩ := h4 y hy
    exact ⟨o2.1, ab_rd o3⟩
  · obtain ⟨y, hy, rfl⟩ := List.mem_map.1 hx
    obtain ⟨o0, o1, o2, o3⟩ := h4 y hy
    have o1' := Go.bounds_i64 o1
    exact ⟨ab_h o3, by unfold maxI; simpa using o1'.1, by unfold maxI; exact o1'.2, o2.2.1, ab_len o3, o2.2.2⟩
theorem few10_spec {v : Value} {l : List OA} (hr : ORows w.heap v l) (hcap : capOk v) (h63 : l.length ≤ 9223372036854775807) (hok : OOk l) :
    cal P f_law10_few [v] w fun r w' => Fr [] w w' ∧ ∃ y t, r = .tuple #[y, .bool t] ∧ (t = true → ORows w.heap y (l.take 30) ∧ ∀ x ∈ l.take 30, x.d.length ≤ 300 ∧ x.b.d.length ≤ 300) := by
  refine s_law10_few fun R hR => ?_
  unfold c_law10_few
  have hq : ∃ a c, v = .slice a l.length c ∧ l.length ≤ c := by
    obtain ⟨a, c, hv, _⟩ := hr.rw
    rw [List.length_map] at hv
    exact ⟨a, c, hv, hcap _ _ _ hv⟩
  obtain ⟨a, c, hv, hc⟩ := hq
  simp only [hr.len, min_int]
  obtain ⟨n, hn⟩ : ∃ n : Nat, n = min l.length 30 := ⟨_, rfl⟩
  have e1 : min (l.length : Int) 30 = (n : Int) := by omega
  rw [e1]
  have hnl : n ≤ l.length := by omega
  have hrt : ORows w.heap (.slice a n c) (l.take n) := by
    refine ⟨?_, fun x hx => hr.d x (List.mem_of_mem_take hx)⟩
    have := hr.rw
    rw [hv] at this
    have h2 := Rows'.take this (k := n) (by simpa using hnl) c
    rwa [← List.map_take] at h2
  have et : l.take 30 = l.take n := by
    rw [hn]
    by_cases h : l.length ≤ 30
    · rw [Nat.min_eq_left h, List.take_of_length_le (Nat.le_refl _), List.take_of_length_le h]
    · rw [Nat.min_eq_right (by omega)]
  rw [hv, slc_to (by omega)]
  have hlt : (l.take n).length = n := by rw [List.length_take]; omega
  have h5 := hrt.len
  rw [hlt] at h5
  simp only [h5]
  refine ⟨fun y z => ∃ i : Nat, y = .int .i64 i ∧ i ≤ n ∧ (∀ x ∈ l.take i, x.d.length ≤ 300 ∧ x.b.d.length ≤ 300) ∧ Fr [] w z, fun y _ => (n - RowKit.intOf y).toNat, ⟨0, rfl, by omega, (fun x hx => by cases hx), Fr.refl _ _⟩, ?_⟩
  rintro _ w1 ⟨i, rfl, hi, hsm, hf⟩ -
  simp only [nilc_some, fad_mk, pik_true, pik_false, cnd_true, cnd_false, gif_same, gif_tf, gif_ft, gif_undef, bi_add, bi_sub, bi_mul, bi_eql, bi_neq, bi_lss, bi_leq, bi_gtr, bi_geq, notB_bool, cvi_int, lenS_mk, lenT_mk, ext0, ext1, ext2, nilP_mk, nilS_mk, fldv_agg, jn0_k, jn1_k, jn2_k, jn1_and, jn1_or, ex_some, Option.isNone_some, Option.isNone_none, Bool.false_bne, Bool.bne_true, Bool.bne_false, Bool.true_bne, Bool.not_true, Bool.not_false, Bool.and_true, Bool.true_and, Bool.and_false, Bool.false_and, Bool.or_true, Bool.true_or, Bool.or_false, Bool.false_or, cond_true, cond_false, List.getElem?_toArray, List.getElem?_cons_zero, List.getElem?_cons_succ, Nat.zero_add, Nat.add_zero, Nat.reduceAdd, forall_const]
  rw [cnd_bool]
  refine ⟨fun h => ?_, fun h => ?_⟩
  · have hlt : i < n := by simp at h; omega
    obtain ⟨x, hx⟩ : ∃ x, l[i]? = some x := ⟨_, List.getElem?_eq_getElem (by omega)⟩
    have hxt : (l.take n)[i]? = some x := by rw [List.getElem?_take, if_pos hlt]; exact hx
    have hxm := List.mem_of_getElem? hx
    have hxm' : ((l.take n).map OA.t)[i]? = some x.t := by rw [List.getElem?_map, hxt]; rfl
    have hxo := hok x hxm
    change ixs 37 _ _ _
    refine Rows'.ldN (q := Q_flurrylaw10_Op) (by decide) (hrt.rw.fr hf) hxm' .i64 ?_
    refine alloc_s ((Sep.start w).old hf) (A_flurrylaw10_Op w1) fun g w2 hs2 => ?_
    have hd := (hr.fr hs2.fr0).d x hxm
    refine St_flurrylaw10_Op (b := x.t) hs2 (one_flurrylaw10_Op hd.1.one hd.2.one) fun w3 hs3 => ?_
    have hd3 := (hr.fr hs3.fr0).d x hxm
    have l1 : ∀ K, lenS (OA.t x).2.2.1 K = K (.int .i64 x.d.length) := hd3.1.len
    have l2 : ∀ K, lenS (OA.t x).2.2.2.2.2 K = K (.int .i64 x.b.d.length) := hd3.2.len
    simp only [L_flurrylaw10_Op hs3.blk, L_flurrylaw10_Op__Do hs3.blk, L_flurrylaw10_Op__N hs3.blk, L_flurrylaw10_Op__Data hs3.blk, L_flurrylaw10_Op__B hs3.blk, L_flurrylaw10_Op__B_Parent hs3.blk, L_flurrylaw10_Op__B_Height hs3.blk, L_flurrylaw10_Op__B_Data hs3.blk, l1, l2, nilc_some, fad_mk, pik_true, pik_false, cnd_true, cnd_false, gif_same, gif_tf, gif_ft, gif_undef, bi_add, bi_sub, bi_mul, bi_eql, bi_neq, bi_lss, bi_leq, bi_gtr, bi_geq, notB_bool, cvi_int, lenS_mk, lenT_mk, ext0, ext1, ext2, nilP_mk, nilS_mk, fldv_agg, jn0_k, jn1_k, jn2_k, jn1_and, jn1_or, ex_some, Option.isNone_some, Option.isNone_none, Bool.false_bne, Bool.bne_true, Bool.bne_false, Bool.true_bne, Bool.not_true, Bool.not_false, Bool.and_true, Bool.true_and, Bool.and_false, Bool.false_and, Bool.or_true, Bool.true_or, Bool.or_false, Bool.false_or, cond_true, cond_false, List.getElem?_toArray, List.getElem?_cons_zero, List.getElem?_cons_succ, Nat.zero_add, Nat.add_zero, Nat.reduceAdd, forall_const]
    rw [cnd_bool]
    refine ⟨fun h => hR _ _ ⟨hs3.fr0, _, false, rfl, fun h => by cases h⟩, fun h => ?_⟩
    rw [wi64 (by omega) (by omega)]
    refine ⟨⟨i + 1, by simp, by omega, fun y hy => ?_, hs3.fr0⟩, by simp [RowKit.intOf]; omega⟩
    rw [List.take_add_one, hx] at hy
    rcases List.mem_append.1 hy with hy | hy
    · exact hsm y hy
    · obtain rfl : y = x := by simpa using hy
      simp only [Bool.or_eq_false_iff, decide_eq_false_iff_not] at h
      omega
  · have hge : i = n := by simp at h; omega
    refine hR _ _ ⟨hf, _, true, rfl, fun h => ?_⟩
    rw [et]
    exact ⟨hrt, by rw [← hge]; exact hsm⟩
end
end Go.Fx
set_option linter.unusedVariables false
set_option linter.unusedSimpArgs false
namespace Go.Fx
section
variable {w0 w w' : World} {As : List Asn} {pt : Value} {x : Tp}
theorem Tp.app_room {x : Tp} {a : List UInt8} (hm : x.made = true) (ho : x.off = false) (hr : x.b.length + a.length ≤ 262144) (h : x.armed = -1 ∨ (a.length : Int) ≤ x.armed) :
    ∃ k, x.append a = (⟨x.b ++ a, k, false, true⟩, 0) ∧ (-1 ≤ x.armed → -1 ≤ k ∧ k ≤ x.armed) := by
  obtain ⟨b, armed, off, made⟩ := x
  obtain rfl : made = true := hm
  obtain rfl : off = false := ho
  unfold Tp.append
  rw [if_neg (by simp [Tp.may]), if_neg (by have hr' : b.length + a.length ≤ 262144 := hr; show ¬ 262144 < b.length + a.length; omega)]
  by_cases h1 : armed = -1
  · rw [if_pos h1]
    exact ⟨-1, by rw [h1], fun _ => by simp only; omega⟩
  · have h2 : (a.length : Int) ≤ armed := h.resolve_left h1
    rw [if_neg h1, if_pos h2]
    exact ⟨_, rfl, fun h => by simp only at h ⊢; omega⟩
theorem Tp.app_cut {x : Tp} {a : List UInt8} (hm : x.made = true) (ho : x.off = false) (hr : x.b.length + a.length ≤ 262144) (h : ¬ (x.armed = -1 ∨ (a.length : Int) ≤ x.armed)) (h0 : -1 ≤ x.armed) :
    ∃ j, j < a.length ∧ x.append a = (⟨x.b ++ a.take j, -1, true, true⟩, 5) := by
  obtain ⟨b, armed, off, made⟩ := x
  obtain rfl : made = true := hm
  obtain rfl : off = false := ho
  simp only at h h0 hr
  refine ⟨armed.toNat, by omega, ?_⟩
  unfold Tp.append
  rw [if_neg (by simp [Tp.may]), if_neg (by simp only; omega), if_neg (by simp only; omega), if_neg (by simp only; omega)]
theorem cOpenG {v : Value} {W : List Blk} {As : List Asn} (hs : Sep w0 w (tp pt x :: rdA v [103] :: As)) (hx : x.Ok) (hm : x.made = true) (hC : Cub w0) (hoff : x.off = false) (hW : IsScan x.b W) (hl : linked genB W) :
    cal P f_chain_Open [pt, bq genB v] w fun r w' => ∃ g gi gm lv iv B E, r = .tuple #[.pointer (some ⟨g, 0, none⟩), .int .i64 0] ∧ blks B = genB :: W ∧ DatB B E ∧
      Sep w0 w' (chH g gi gm lv iv pt false B ++ (tp pt { x with b := layL W } :: (E ++ (rdA v [103] :: As)))) := by
  refine cal_i (cOpen_spec (b := genB) (v := v) hs hx hm hC (fun z hz => Sep.rda hz) (by decide)) ?_
  rintro r w1 (⟨h, _⟩ | ⟨_, h, _⟩ | ⟨_, _, _, g, gi, gm, lv, iv, B, E, S, rfl, hS, hB, hD, hs1⟩)
  · rw [hoff] at h; cases h
  · rcases h with h | h
    · exact absurd genB_chk h
    · exact absurd genB_h h
  obtain rfl := hS.uniq hW
  rw [linkT_self hl] at hB hs1
  exact ⟨g, gi, gm, lv, iv, B, E, rfl, hB, hD, hs1⟩
theorem Blk.kid_of {b : Blk} {d : List UInt8} (hc : b.chk = 0) (hh : b.h ≤ 1000000) (hd : d.length ≤ 200) : b.child d = b.kid d ∧ (b.child d).link b = 0 ∧ (b.child d).h = b.h + 1 ∧ (b.child d).chk = 0 ∧ (b.child d).d = d := by
  have hk : b.kidOk d := ⟨hc, by unfold maxI; omega, hd⟩
  have e : b.child d = b.kid d := by unfold Blk.child; rw [if_pos hk]
  rw [e]
  have h1 := (Blk.link_kid hk).1
  exact ⟨rfl, h1, rfl, (link_chk h1).1, rfl⟩
theorem begun10_spec (hC : Cub w) : cal P f_law10_begun [] w fun v w' => v = .bool true ∧ Fr [] w w' := by
  refine s_law10_begun fun R hR => ?_
  unfold c_law10_begun
  refine cal_i tpNew_spec ?_
  rintro pt w1 hs1
  have hp1 := tp_one hs1
  refine cal_i cFirst_spec ?_
  rintro _ w2 ⟨v1, rfl, hs2⟩
  replace hs2 := hs1.join hs2
  have hg0 : goodB [] := fun b hb => by cases hb
  refine cal_i (cOpenG (W := []) hs2.p1 ⟨by simp, by simp, by simp⟩ rfl hC rfl (scan_all hg0) trivial) ?_
  rintro _ w3 ⟨g, gi, gm, lv, iv, B, E, rfl, hB, hD, hs3⟩
  obtain ⟨A3, hA3⟩ : ∃ A3, A3 = E ++ [rdA v1 [103]] := ⟨_, rfl⟩
  replace hD : DatB B A3 := by rw [hA3]; exact hD.sub fun A hA => List.mem_append_left _ hA
  rw [← hA3] at hs3
  clear hs1 hs2
  obtain ⟨y0, hy0, hy1⟩ := lastOf hB
  have hy1 : y0.1 = genB := hy1
  have hBl : B.length = 1 := by
    have := congrArg List.length hB
    simpa using this
  simp only [nilc_some, fad_mk, pik_true, pik_false, cnd_true, cnd_false, gif_same, gif_tf, gif_ft, gif_undef, bi_add, bi_sub, bi_mul, bi_eql, bi_neq, bi_lss, bi_leq, bi_gtr, bi_geq, notB_bool, cvi_int, lenS_mk, lenT_mk, ext0, ext1, ext2, nilP_mk, nilS_mk, fldv_agg, jn0_k, jn1_k, jn2_k, jn1_and, jn1_or, ex_some, Option.isNone_some, Option.isNone_none, Bool.false_bne, Bool.bne_true, Bool.bne_false, Bool.true_bne, Bool.not_true, Bool.not_false, Bool.and_true, Bool.true_and, Bool.and_false, Bool.false_and, Bool.or_true, Bool.true_or, Bool.or_false, Bool.false_or, cond_true, cond_false, List.getElem?_toArray, List.getElem?_cons_zero, List.getElem?_cons_succ, Nat.zero_add, Nat.add_zero, Nat.reduceAdd, forall_const, show ((0 : Int) != 0) = false from rfl]
  refine jn1_dup ?_
  simp only [nilc_some, fad_mk, pik_true, pik_false, cnd_true, cnd_false, gif_same, gif_tf, gif_ft, gif_undef, bi_add, bi_sub, bi_mul, bi_eql, bi_neq, bi_lss, bi_leq, bi_gtr, bi_geq, notB_bool, cvi_int, lenS_mk, lenT_mk, ext0, ext1, ext2, nilP_mk, nilS_mk, fldv_agg, jn0_k, jn1_k, jn2_k, jn1_and, jn1_or, ex_some, Option.isNone_some, Option.isNone_none, Bool.false_bne, Bool.bne_true, Bool.bne_false, Bool.true_bne, Bool.not_true, Bool.not_false, Bool.and_true, Bool.true_and, Bool.and_false, Bool.false_and, Bool.or_true, Bool.true_or, Bool.or_false, Bool.false_or, cond_true, cond_false, List.getElem?_toArray, List.getElem?_cons_zero, List.getElem?_cons_succ, Nat.zero_add, Nat.add_zero, Nat.reduceAdd, forall_const]
  rw [tp_nilP (Sep.pick hs3 [5] 6)]
  simp only [nilc_some, fad_mk, pik_true, pik_false, cnd_true, cnd_false, gif_same, gif_tf, gif_ft, gif_undef, bi_add, bi_sub, bi_mul, bi_eql, bi_neq, bi_lss, bi_leq, bi_gtr, bi_geq, notB_bool, cvi_int, lenS_mk, lenT_mk, ext0, ext1, ext2, nilP_mk, nilS_mk, fldv_agg, jn0_k, jn1_k, jn2_k, jn1_and, jn1_or, ex_some, Option.isNone_some, Option.isNone_none, Bool.false_bne, Bool.bne_true, Bool.bne_false, Bool.true_bne, Bool.not_true, Bool.not_false, Bool.and_true, Bool.true_and, Bool.and_false, Bool.false_and, Bool.or_true, Bool.true_or, Bool.or_false, Bool.false_or, cond_true, cond_false, List.getElem?_toArray, List.getElem?_cons_zero, List.getElem?_cons_succ, Nat.zero_add, Nat.add_zero, Nat.reduceAdd, forall_const]
  refine cal_i cFirst_spec ?_
  rintro _ w4 ⟨v2, rfl, hs4⟩
  replace hs4 := hs3.join hs4
  refine lit_s (l := [97]) hs4 U_sl_uint8 U_uint8 rfl (lit1 97 w4) fun g5 w5 hs5 => ?_
  refine cal_i (cChild_spec (b := genB) (v := v2) (d := [97]) (Sep.rda hs5.p1) (Sep.rda hs5) (Sep.rdaCap hs5) (by decide) (by simp)) ?_
  rintro _ w6 ⟨v', rfl, hs6⟩
  replace hs6 := hs5.join hs6
  obtain ⟨k1, k2, k3, k4, k5⟩ := Blk.kid_of (b := genB) (d := ([97] : List UInt8).take 200) genB_chk (by decide) (by simp)
  obtain ⟨b1, hb1⟩ : ∃ b1, b1 = genB.child (([97] : List UInt8).take 200) := ⟨_, rfl⟩
  rw [← hb1] at hs6 k2 k3 k4 k5 ⊢
  have hb1h : b1.h = 1 := k3
  have hb1d : b1.d.length = 1 := by rw [k5]; rfl
  refine alloc_s hs6 (A_api_Block w6) fun g4 w7 hs7 => ?_
  refine St_api_Block (b := (b1.p, b1.h, v')) hs7 (one_api_Block (Sep.one hs7.p1)) fun w8 hs8 => ?_
  simp only [L_api_Block hs8.blk, L_api_Block__Parent hs8.blk, L_api_Block__Height hs8.blk, L_api_Block__Data hs8.blk]
  have hr1 : b1.rcd.length = 67 := by rw [Blk.rec_len, hb1d]
  refine cal_i (cAccept_spec (b := b1) (v := v') (y := y0) (x := ⟨[], -1, false, true⟩) (As := blk g4 (Rdr.cells Q_api_Block (b1.p, b1.h, v')).toArray T_api_Block :: ownB v' b1.d :: A3) (Sep.pick hs8 [4, 5, 6, 7, 8, 9, 0, 1] 10) ⟨by simp, by simp, by simp⟩ rfl hC (fun z hz => Sep.rd hz.tail)
    (hD.sub fun A hA => List.mem_cons_of_mem _ (List.mem_cons_of_mem _ hA)) (by rw [hb1h]; decide) hy0 (by rw [hy1]; decide) (by omega)) ?_
  obtain ⟨k, hk, hk2⟩ := Tp.app_room (x := ⟨[], -1, false, true⟩) (a := b1.rcd) rfl rfl (by simp; omega) (.inl rfl)
  have hk3 := hk2 (by simp)
  obtain rfl : k = -1 := by simp only at hk3; omega
  rw [hk, hy1]
  rintro _ w9 (⟨h, _⟩ | ⟨_, _, h, _⟩ | ⟨_, _, _, _, rfl, lv', iv', vd, hs9⟩ | ⟨_, _, _, h, _⟩)
  · rcases h with h | h <;> cases h
  · exact absurd k2 h
  case inr.inr.inr => exact absurd rfl h
  clear hs3 hs4 hs5 hs6 hs7 hs8
  rw [List.nil_append] at hs9
  -- chain 0-4 · tp 5 · vd 6 · t4 7 · v' 8 · A3
  simp only [nilc_some, fad_mk, pik_true, pik_false, cnd_true, cnd_false, gif_same, gif_tf, gif_ft, gif_undef, bi_add, bi_sub, bi_mul, bi_eql, bi_neq, bi_lss, bi_leq, bi_gtr, bi_geq, notB_bool, cvi_int, lenS_mk, lenT_mk, ext0, ext1, ext2, nilP_mk, nilS_mk, fldv_agg, jn0_k, jn1_k, jn2_k, jn1_and, jn1_or, ex_some, Option.isNone_some, Option.isNone_none, Bool.false_bne, Bool.bne_true, Bool.bne_false, Bool.true_bne, Bool.not_true, Bool.not_false, Bool.and_true, Bool.true_and, Bool.and_false, Bool.false_and, Bool.or_true, Bool.true_or, Bool.or_false, Bool.false_or, cond_true, cond_false, List.getElem?_toArray, List.getElem?_cons_zero, List.getElem?_cons_succ, Nat.zero_add, Nat.add_zero, Nat.reduceAdd, forall_const, show ((0 : Int) != 0) = false from rfl]
  refine jn1_dup ?_
  refine cal_i (tpArm_spec (n := 10) (Sep.pick hs9 [5, 0, 1, 2, 3, 4, 6, 7, 8] 9)) ?_
  rintro _ w10 ⟨rfl, hs10⟩
  have e3 : (⟨b1.rcd, -1, false, true⟩ : Tp).arm 10 = (⟨b1.rcd, 10, false, true⟩, 0) := rfl
  rw [e3] at hs10 ⊢
  simp only [nilc_some, fad_mk, pik_true, pik_false, cnd_true, cnd_false, gif_same, gif_tf, gif_ft, gif_undef, bi_add, bi_sub, bi_mul, bi_eql, bi_neq, bi_lss, bi_leq, bi_gtr, bi_geq, notB_bool, cvi_int, lenS_mk, lenT_mk, ext0, ext1, ext2, nilP_mk, nilS_mk, fldv_agg, jn0_k, jn1_k, jn2_k, jn1_and, jn1_or, ex_some, Option.isNone_some, Option.isNone_none, Bool.false_bne, Bool.bne_true, Bool.bne_false, Bool.true_bne, Bool.not_true, Bool.not_false, Bool.and_true, Bool.true_and, Bool.and_false, Bool.false_and, Bool.or_true, Bool.true_or, Bool.or_false, Bool.false_or, cond_true, cond_false, List.getElem?_toArray, List.getElem?_cons_zero, List.getElem?_cons_succ, Nat.zero_add, Nat.add_zero, Nat.reduceAdd, forall_const, show ((0 : Int) != 0) = false from rfl]
  try intro _
  refine jn1_dup ?_
  simp only [nilc_some, fad_mk, pik_true, pik_false, cnd_true, cnd_false, gif_same, gif_tf, gif_ft, gif_undef, bi_add, bi_sub, bi_mul, bi_eql, bi_neq, bi_lss, bi_leq, bi_gtr, bi_geq, notB_bool, cvi_int, lenS_mk, lenT_mk, ext0, ext1, ext2, nilP_mk, nilS_mk, fldv_agg, jn0_k, jn1_k, jn2_k, jn1_and, jn1_or, ex_some, Option.isNone_some, Option.isNone_none, Bool.false_bne, Bool.bne_true, Bool.bne_false, Bool.true_bne, Bool.not_true, Bool.not_false, Bool.and_true, Bool.true_and, Bool.and_false, Bool.false_and, Bool.or_true, Bool.true_or, Bool.or_false, Bool.false_or, cond_true, cond_false, List.getElem?_toArray, List.getElem?_cons_zero, List.getElem?_cons_succ, Nat.zero_add, Nat.add_zero, Nat.reduceAdd, forall_const, L_api_Block (Sep.blk (Sep.pick hs10 [7] 8)), L_api_Block__Parent (Sep.blk (Sep.pick hs10 [7] 8)), L_api_Block__Height (Sep.blk (Sep.pick hs10 [7] 8)), L_api_Block__Data (Sep.blk (Sep.pick hs10 [7] 8))]
  refine cal_i (cChild_spec (b := b1) (v := v') (u := .slice none 0 0) (d := []) (Sep.rd (Sep.pick hs10 [8] 9)) (RdB.nil _ 0) (fun a n c h => by cases h; omega) (by rw [hb1h]; decide) (by simp)) ?_
  rintro _ w11 ⟨v3, rfl, hs11⟩
  replace hs11 := hs10.join hs11
  obtain ⟨m1, m2, m3, m4, m5⟩ := Blk.kid_of (b := b1) (d := ([] : List UInt8).take 200) k4 (by rw [hb1h]; decide) (by simp)
  obtain ⟨b2, hb2⟩ : ∃ b2, b2 = b1.child (([] : List UInt8).take 200) := ⟨_, rfl⟩
  rw [← hb2] at hs11 m2 m3 m4 m5 ⊢
  have hb2h : b2.h = 2 := by rw [m3, hb1h]; rfl
  have hr2 : b2.rcd.length = 66 := by rw [Blk.rec_len, m5]; rfl
  -- v3 0 · tp 1 · chain 2-6 · vd 7 · t4 8 · v' 9 · A3
  refine cal_i (cAccept_spec (b := b2) (v := v3) (y := (b1, vd)) (x := ⟨b1.rcd, 10, false, true⟩) (B := B ++ [(b1, vd)]) (As := ownB v3 b2.d :: ownB vd b1.d :: blk g4 (Rdr.cells Q_api_Block (b1.p, b1.h, v')).toArray T_api_Block :: ownB v' b1.d :: A3) (Sep.pick hs11 [2, 3, 4, 5, 6, 1, 0, 7, 8, 9] 10) ⟨by simp only; omega, by simp, by simp⟩ rfl hC (fun z hz => Sep.rd hz)
    (fun q hq => by
      rcases List.mem_append.1 hq with hq | hq
      · exact List.mem_cons_of_mem _ (List.mem_cons_of_mem _ (List.mem_cons_of_mem _ (List.mem_cons_of_mem _ (hD q hq))))
      · rw [List.mem_singleton.1 hq]; exact List.mem_cons_of_mem _ (List.mem_cons_self ..)) (by rw [hb2h]; decide) (by simp) (by show b1.h ≤ _; rw [hb1h]; decide) (by simp; omega)) ?_
  have e4 : (⟨b1.rcd, 10, false, true⟩ : Tp).append b2.rcd = (⟨b1.rcd ++ b2.rcd.take 10, -1, true, true⟩, 5) := by
    unfold Tp.append
    rw [if_neg (by simp [Tp.may]), if_neg (by simp only; omega), if_neg (by simp), if_neg (by simp only; omega)]
    rfl
  rw [e4]
  rintro _ w12 (⟨h, _⟩ | ⟨_, _, h, _⟩ | ⟨_, _, _, h, _⟩ | ⟨_, _, _, _, rfl, hs12⟩)
  · rcases h with h | h <;> cases h
  · exact absurd m2 h
  · cases h
  -- chain 0-4 · tp 5 · v3 6 · vd 7 · t4 8 · v' 9
  simp only [nilc_some, fad_mk, pik_true, pik_false, cnd_true, cnd_false, gif_same, gif_tf, gif_ft, gif_undef, bi_add, bi_sub, bi_mul, bi_eql, bi_neq, bi_lss, bi_leq, bi_gtr, bi_geq, notB_bool, cvi_int, lenS_mk, lenT_mk, ext0, ext1, ext2, nilP_mk, nilS_mk, fldv_agg, jn0_k, jn1_k, jn2_k, jn1_and, jn1_or, ex_some, Option.isNone_some, Option.isNone_none, Bool.false_bne, Bool.bne_true, Bool.bne_false, Bool.true_bne, Bool.not_true, Bool.not_false, Bool.and_true, Bool.true_and, Bool.and_false, Bool.false_and, Bool.or_true, Bool.true_or, Bool.or_false, Bool.false_or, cond_true, cond_false, List.getElem?_toArray, List.getElem?_cons_zero, List.getElem?_cons_succ, Nat.zero_add, Nat.add_zero, Nat.reduceAdd, forall_const, show ((5 : Int) != 5) = false from rfl]
  try intro _
  refine jn1_dup ?_
  refine cal_i (tpRestart_spec (Sep.pick hs12 [5, 8, 9] 10)) ?_
  rintro _ w13 ⟨rfl, hs13⟩
  have e5 : (⟨b1.rcd ++ b2.rcd.take 10, -1, true, true⟩ : Tp).restart = (⟨b1.rcd ++ b2.rcd.take 10, -1, false, true⟩, 0) := rfl
  simp only [e5] at hs13 ⊢
  simp only [nilc_some, fad_mk, pik_true, pik_false, cnd_true, cnd_false, gif_same, gif_tf, gif_ft, gif_undef, bi_add, bi_sub, bi_mul, bi_eql, bi_neq, bi_lss, bi_leq, bi_gtr, bi_geq, notB_bool, cvi_int, lenS_mk, lenT_mk, ext0, ext1, ext2, nilP_mk, nilS_mk, fldv_agg, jn0_k, jn1_k, jn2_k, jn1_and, jn1_or, ex_some, Option.isNone_some, Option.isNone_none, Bool.false_bne, Bool.bne_true, Bool.bne_false, Bool.true_bne, Bool.not_true, Bool.not_false, Bool.and_true, Bool.true_and, Bool.and_false, Bool.false_and, Bool.or_true, Bool.true_or, Bool.or_false, Bool.false_or, cond_true, cond_false, List.getElem?_toArray, List.getElem?_cons_zero, List.getElem?_cons_succ, Nat.zero_add, Nat.add_zero, Nat.reduceAdd, forall_const, show ((0 : Int) != 0) = false from rfl]
  refine cal_i cFirst_spec ?_
  rintro _ w14 ⟨v4, rfl, hs14⟩
  replace hs14 := hs13.join hs14
  have hg1 : goodB [b1] := fun b hb => by
    rw [List.mem_singleton.1 hb]
    exact ⟨k4, by rw [hb1h]; decide⟩
  have hl1 : layL [b1] = b1.rcd := by rw [layL_cons]; simp [layL]
  have hsc : IsScan (b1.rcd ++ b2.rcd.take 10) [b1] := by
    have := scan_part hg1 (b := b2) m4 (j := 10) (by omega)
    rwa [hl1] at this
  have hx13 : (⟨b1.rcd ++ b2.rcd.take 10, -1, false, true⟩ : Tp).Ok := ⟨by simp only [List.length_append, List.length_take]; omega, by simp, by simp⟩
  refine cal_i (cOpenG (W := [b1]) (Sep.pick hs14 [1, 0, 2, 3] 4) hx13 rfl hC rfl hsc ⟨k2, trivial⟩) ?_
  rintro _ w15 ⟨g2, gi2, gm2, lv2, iv2, B2, E2, rfl, hB2, hD2, hs15⟩
  obtain ⟨y2, hy2, hy3⟩ := lastOf hB2
  have hy3 : y2.1 = b1 := hy3
  have hBl2 : B2.length = 2 := by
    have := congrArg List.length hB2
    simpa using this
  simp only [nilc_some, fad_mk, pik_true, pik_false, cnd_true, cnd_false, gif_same, gif_tf, gif_ft, gif_undef, bi_add, bi_sub, bi_mul, bi_eql, bi_neq, bi_lss, bi_leq, bi_gtr, bi_geq, notB_bool, cvi_int, lenS_mk, lenT_mk, ext0, ext1, ext2, nilP_mk, nilS_mk, fldv_agg, jn0_k, jn1_k, jn2_k, jn1_and, jn1_or, ex_some, Option.isNone_some, Option.isNone_none, Bool.false_bne, Bool.bne_true, Bool.bne_false, Bool.true_bne, Bool.not_true, Bool.not_false, Bool.and_true, Bool.true_and, Bool.and_false, Bool.false_and, Bool.or_true, Bool.true_or, Bool.or_false, Bool.false_or, cond_true, cond_false, List.getElem?_toArray, List.getElem?_cons_zero, List.getElem?_cons_succ, Nat.zero_add, Nat.add_zero, Nat.reduceAdd, forall_const, show ((0 : Int) != 0) = false from rfl]
  refine cal_i (cLastId_spec (chH_rd hs15 (hD2.sub fun A hA => List.mem_cons_of_mem _ (List.mem_append_left _ hA))) hy2 (by omega)) ?_
  rintro _ w16 ⟨rfl, hf16⟩
  have hs16 := hs15.old hf16
  rw [hy3, hb1h]
  have hs17 : Sep w w16 (tp pt ⟨layL [b1], -1, false, true⟩ :: blk g4 (Rdr.cells Q_api_Block (b1.p, b1.h, v')).toArray T_api_Block :: ownB v' b1.d :: (A3 ++ E2)) := by
    have h1 := hs16.dropL
    have h2 := Sep.rot (As := _ :: E2) h1
    have h3 := Sep.pick h2 [1, 2] 3
    exact Sep.mid (As := _ :: _ :: A3) h3
  simp only [nilc_some, fad_mk, pik_true, pik_false, cnd_true, cnd_false, gif_same, gif_tf, gif_ft, gif_undef, bi_add, bi_sub, bi_mul, bi_eql, bi_neq, bi_lss, bi_leq, bi_gtr, bi_geq, notB_bool, cvi_int, lenS_mk, lenT_mk, ext0, ext1, ext2, nilP_mk, nilS_mk, fldv_agg, jn0_k, jn1_k, jn2_k, jn1_and, jn1_or, ex_some, Option.isNone_some, Option.isNone_none, Bool.false_bne, Bool.bne_true, Bool.bne_false, Bool.true_bne, Bool.not_true, Bool.not_false, Bool.and_true, Bool.true_and, Bool.and_false, Bool.false_and, Bool.or_true, Bool.true_or, Bool.or_false, Bool.false_or, cond_true, cond_false, List.getElem?_toArray, List.getElem?_cons_zero, List.getElem?_cons_succ, Nat.zero_add, Nat.add_zero, Nat.reduceAdd, forall_const]
  refine alloc_s hs17 (A_api_ID w16) fun g6 w17 hs18 => ?_
  refine St_api_ID (b := b1.id) hs18 fun w18 hs19 => ?_
  refine drH_S hs19 fun w19 hs20 _ => ?_
  -- id 0 · tp 1 · t4 2 · v' 3
  simp only [nilc_some, fad_mk, pik_true, pik_false, cnd_true, cnd_false, gif_same, gif_tf, gif_ft, gif_undef, bi_add, bi_sub, bi_mul, bi_eql, bi_neq, bi_lss, bi_leq, bi_gtr, bi_geq, notB_bool, cvi_int, lenS_mk, lenT_mk, ext0, ext1, ext2, nilP_mk, nilS_mk, fldv_agg, jn0_k, jn1_k, jn2_k, jn1_and, jn1_or, ex_some, Option.isNone_some, Option.isNone_none, Bool.false_bne, Bool.bne_true, Bool.bne_false, Bool.true_bne, Bool.not_true, Bool.not_false, Bool.and_true, Bool.true_and, Bool.and_false, Bool.false_and, Bool.or_true, Bool.true_or, Bool.or_false, Bool.false_or, cond_true, cond_false, List.getElem?_toArray, List.getElem?_cons_zero, List.getElem?_cons_succ, Nat.zero_add, Nat.add_zero, Nat.reduceAdd, forall_const, show ((1 : Int) == 1) = true from rfl]
  refine jn1_dup ?_
  simp only [nilc_some, fad_mk, pik_true, pik_false, cnd_true, cnd_false, gif_same, gif_tf, gif_ft, gif_undef, bi_add, bi_sub, bi_mul, bi_eql, bi_neq, bi_lss, bi_leq, bi_gtr, bi_geq, notB_bool, cvi_int, lenS_mk, lenT_mk, ext0, ext1, ext2, nilP_mk, nilS_mk, fldv_agg, jn0_k, jn1_k, jn2_k, jn1_and, jn1_or, ex_some, Option.isNone_some, Option.isNone_none, Bool.false_bne, Bool.bne_true, Bool.bne_false, Bool.true_bne, Bool.not_true, Bool.not_false, Bool.and_true, Bool.true_and, Bool.and_false, Bool.false_and, Bool.or_true, Bool.true_or, Bool.or_false, Bool.false_or, cond_true, cond_false, List.getElem?_toArray, List.getElem?_cons_zero, List.getElem?_cons_succ, Nat.zero_add, Nat.add_zero, Nat.reduceAdd, forall_const]
  refine ⟨bq b1 v', fun u hu => (L_api_Block (Sep.blk hu.p2) _).mpr rfl, ?_⟩
  refine efS_i (cal_i (tpLen_spec hs20.p1 rfl) ?_)
  rintro _ _ ⟨rfl, rfl⟩
  refine ⟨hs20, ?_⟩
  refine efS_i (cal_i (rRecSize_spec (b := b1) (v := v') (Sep.rd hs20.p3) (by rw [hb1h]; decide)) ?_)
  rintro _ w20 ⟨rfl, hf20⟩
  have hs21 := hs20.old hf20
  refine ⟨hs21, ?_⟩
  have hro : b1.recO = b1.rcd := if_pos k4
  have he : ((layL [b1]).length : Int) = (b1.recO.length : Int) := by rw [hl1, hro]
  simp only [nilc_some, fad_mk, pik_true, pik_false, cnd_true, cnd_false, gif_same, gif_tf, gif_ft, gif_undef, bi_add, bi_sub, bi_mul, bi_eql, bi_neq, bi_lss, bi_leq, bi_gtr, bi_geq, notB_bool, cvi_int, lenS_mk, lenT_mk, ext0, ext1, ext2, nilP_mk, nilS_mk, fldv_agg, jn0_k, jn1_k, jn2_k, jn1_and, jn1_or, ex_some, Option.isNone_some, Option.isNone_none, Bool.false_bne, Bool.bne_true, Bool.bne_false, Bool.true_bne, Bool.not_true, Bool.not_false, Bool.and_true, Bool.true_and, Bool.and_false, Bool.false_and, Bool.or_true, Bool.true_or, Bool.or_false, Bool.false_or, cond_true, cond_false, List.getElem?_toArray, List.getElem?_cons_zero, List.getElem?_cons_succ, Nat.zero_add, Nat.add_zero, Nat.reduceAdd, forall_const, he]
  try intro _
  refine hR _ _ ⟨by simp, hs21.fr0⟩
end
end Go.Fx
set_option linter.unusedVariables false
set_option linter.unusedSimpArgs false
namespace Go.Fx
/-- Blocks behind the first one. -/
def StW (W : List Blk) (i : Nat) : Prop := linked genB W ∧ goodB W ∧ W.length ≤ i ∧ (lastB genB W).h = W.length ∧ (lastB genB W).chk = 0
theorem StW.up {W : List Blk} {i j : Nat} (h : StW W i) (hij : i ≤ j) : StW W j := ⟨h.1, h.2.1, Nat.le_trans h.2.2.1 hij, h.2.2.2⟩
theorem StW.lay {W : List Blk} {i : Nat} (h : StW W i) (hi : i ≤ 30) : (layL W).length ≤ 7980 := by
  have h1 := layL_len W h.2.1.ok
  have h2 := h.2.2.1
  omega
theorem StW.chk {W : List Blk} {i : Nat} (h : StW W i) : ∀ b ∈ genB :: W, b.chk = 0 := fun b hb => by
  rcases List.mem_cons.1 hb with rfl | hb
  · exact genB_chk
  · exact (h.2.1 b hb).1
theorem StW.snoc {W : List Blk} {i : Nat} {b : Blk} (h : StW W i) (hl : b.link (lastB genB W) = 0) (hc : b.chk = 0) (hh : b.h = (lastB genB W).h + 1) (hi : i ≤ 1000000) : StW (W ++ [b]) (i + 1) := by
  obtain ⟨h1, h2, h3, h4, h5⟩ := h
  refine ⟨linked_snoc h1 hl, fun x hx => ?_, by simp; omega, ?_, ?_⟩
  · rcases List.mem_append.1 hx with hx | hx
    · exact h2 x hx
    · rw [List.mem_singleton.1 hx]
      exact ⟨hc, by rw [hh, h4]; unfold maxI; omega⟩
  · rw [lastB_snoc, hh, h4]; simp
  · rw [lastB_snoc]; exact hc
def RdW (w : World) (WB : List BV) (E : List Asn) : Prop := ∀ z, Sep w z E → ∀ x ∈ WB, RdB z.heap x.2 x.1.d
section
variable {w0 w w' : World} {As : List Asn} {pt : Value} {x : Tp}
def Inv (w : World) (pt : Value) (i : Nat) (t6 t8 : Value) (z : World) : Prop := ∃ (W : List Blk) (WB : List BV) (E : List Asn) (x : Tp) (g gi gm : Nat) (lv iv : Value) (B : List BV), StW W i ∧ blks WB = genB :: W ∧ RdW w WB E ∧ x.made = true ∧ x.off = false ∧ x.Ok ∧ x.b = layL W ∧
  t6 = .pointer (some ⟨g, 0, none⟩) ∧ blks B = genB :: W ∧ DatB B E ∧ Sep w z (chH g gi gm lv iv pt false B ++ (tp pt x :: rows Q_api_Block t8 (WB.map BV.t) :: E))
def Mid (w : World) (pt : Value) (i : Nat) (t6 : Value) (T : Asn) (t8 : Value) (z : World) : Prop := ∃ (W : List Blk) (WB : List BV) (E : List Asn) (x : Tp) (C : List Asn), StW W i ∧ blks WB = genB :: W ∧ RdW w WB E ∧ x.made = true ∧ x.Ok ∧ IsScan x.b W ∧
  Sep w z (C ++ (tp pt x :: rows Q_api_Block t8 (WB.map BV.t) :: T :: E)) ∧ (x.off = false → x.b = layL W ∧ ∃ (g gi gm : Nat) (lv iv : Value) (B : List BV), t6 = .pointer (some ⟨g, 0, none⟩) ∧ C = chH g gi gm lv iv pt false B ∧ blks B = genB :: W ∧ DatB B E)
theorem blks_snoc (B : List BV) (x : BV) : blks (B ++ [x]) = blks B ++ [x.1] := by simp
theorem blksLen {B : List BV} {W : List Blk} (h : blks B = genB :: W) : B.length = W.length + 1 := by
  have := congrArg List.length h
  simpa using this
theorem datRd {N : List BV} {E As Bs : List Asn} (h : DatB N E) (hs : Sep w0 w (As ++ (E ++ Bs))) : ∀ x ∈ N, RdB w.heap x.2 x.1.d := fun x hx => by
  obtain ⟨F, hF⟩ := hs.onL (A := ownB x.2 x.1.d) (List.mem_append_right _ (List.mem_append_left _ (h x hx)))
  exact OwnB.rd hF
theorem wChainStays {v : Value} {l : List OA} (hr : ORows w.heap v l) (hcap : capOk v) (h63 : l.length ≤ 9223372036854775807) (hok : OOk l) (hC : Cub w) : cal P f_law10_ChainStays [v] w fun r w' => r = .bool true ∧ Fr [] w w' := by
  refine s_law10_ChainStays fun R hR => ?_
  unfold c_law10_ChainStays
  refine cal_i (few10_spec hr hcap h63 hok) ?_
  rintro _ w1 ⟨hf1, y, t, rfl, hfew⟩
  simp only [nilc_some, fad_mk, pik_true, pik_false, cnd_true, cnd_false, gif_same, gif_tf, gif_ft, gif_undef, bi_add, bi_sub, bi_mul, bi_eql, bi_neq, bi_lss, bi_leq, bi_gtr, bi_geq, notB_bool, cvi_int, lenS_mk, lenT_mk, ext0, ext1, ext2, nilP_mk, nilS_mk, fldv_agg, jn0_k, jn1_k, jn2_k, jn1_and, jn1_or, ex_some, Option.isNone_some, Option.isNone_none, Bool.false_bne, Bool.bne_true, Bool.bne_false, Bool.true_bne, Bool.not_true, Bool.not_false, Bool.and_true, Bool.true_and, Bool.and_false, Bool.false_and, Bool.or_true, Bool.true_or, Bool.or_false, Bool.false_or, cond_true, cond_false, List.getElem?_toArray, List.getElem?_cons_zero, List.getElem?_cons_succ, Nat.zero_add, Nat.add_zero, Nat.reduceAdd, forall_const]
  refine cal_i tpNew_spec ?_
  rintro pt w2 hs2
  replace hs2 := ((Sep.start w).old hf1).join hs2
  have hp1 := tp_one hs2
  refine cal_i cFirst_spec ?_
  rintro _ w3 ⟨v1, rfl, hs3⟩
  replace hs3 := hs2.join hs3
  have hg0 : goodB [] := fun b hb => by cases hb
  refine cal_i (cOpenG (W := []) hs3.p1 ⟨by simp, by simp, by simp⟩ rfl hC rfl (scan_all hg0) trivial) ?_
  rintro _ w4 ⟨g, gi, gm, lv, iv, B, E, rfl, hB, hD, hs4⟩
  simp only [nilc_some, fad_mk, pik_true, pik_false, cnd_true, cnd_false, gif_same, gif_tf, gif_ft, gif_undef, bi_add, bi_sub, bi_mul, bi_eql, bi_neq, bi_lss, bi_leq, bi_gtr, bi_geq, notB_bool, cvi_int, lenS_mk, lenT_mk, ext0, ext1, ext2, nilP_mk, nilS_mk, fldv_agg, jn0_k, jn1_k, jn2_k, jn1_and, jn1_or, ex_some, Option.isNone_some, Option.isNone_none, Bool.false_bne, Bool.bne_true, Bool.bne_false, Bool.true_bne, Bool.not_true, Bool.not_false, Bool.and_true, Bool.true_and, Bool.and_false, Bool.false_and, Bool.or_true, Bool.true_or, Bool.or_false, Bool.false_or, cond_true, cond_false, List.getElem?_toArray, List.getElem?_cons_zero, List.getElem?_cons_succ, Nat.zero_add, Nat.add_zero, Nat.reduceAdd, forall_const]
  refine cal_i (begun10_spec (hC.fr hs4.fr0)) ?_
  rintro _ w5 ⟨rfl, hf5⟩
  replace hs5 := hs4.old hf5
  clear hs2 hs3 hs4
  simp only [nilc_some, fad_mk, pik_true, pik_false, cnd_true, cnd_false, gif_same, gif_tf, gif_ft, gif_undef, bi_add, bi_sub, bi_mul, bi_eql, bi_neq, bi_lss, bi_leq, bi_gtr, bi_geq, notB_bool, cvi_int, lenS_mk, lenT_mk, ext0, ext1, ext2, nilP_mk, nilS_mk, fldv_agg, jn0_k, jn1_k, jn2_k, jn1_and, jn1_or, ex_some, Option.isNone_some, Option.isNone_none, Bool.false_bne, Bool.bne_true, Bool.bne_false, Bool.true_bne, Bool.not_true, Bool.not_false, Bool.and_true, Bool.true_and, Bool.and_false, Bool.false_and, Bool.or_true, Bool.true_or, Bool.or_false, Bool.false_or, cond_true, cond_false, List.getElem?_toArray, List.getElem?_cons_zero, List.getElem?_cons_succ, Nat.zero_add, Nat.add_zero, Nat.reduceAdd, forall_const, show ((0 : Int) != 0) = false from rfl, tp_nilP (Sep.pick hs5 [5] 6)]
  cases t with
  | false =>
    simp only [nilc_some, fad_mk, pik_true, pik_false, cnd_true, cnd_false, gif_same, gif_tf, gif_ft, gif_undef, bi_add, bi_sub, bi_mul, bi_eql, bi_neq, bi_lss, bi_leq, bi_gtr, bi_geq, notB_bool, cvi_int, lenS_mk, lenT_mk, ext0, ext1, ext2, nilP_mk, nilS_mk, fldv_agg, jn0_k, jn1_k, jn2_k, jn1_and, jn1_or, ex_some, Option.isNone_some, Option.isNone_none, Bool.false_bne, Bool.bne_true, Bool.bne_false, Bool.true_bne, Bool.not_true, Bool.not_false, Bool.and_true, Bool.true_and, Bool.and_false, Bool.false_and, Bool.or_true, Bool.true_or, Bool.or_false, Bool.false_or, cond_true, cond_false, List.getElem?_toArray, List.getElem?_cons_zero, List.getElem?_cons_succ, Nat.zero_add, Nat.add_zero, Nat.reduceAdd, forall_const]
    refine cal_i (begun10_spec (hC.fr hs5.fr0)) ?_
    rintro _ w6 ⟨rfl, hf6⟩
    simp only [nilc_some, fad_mk, pik_true, pik_false, cnd_true, cnd_false, gif_same, gif_tf, gif_ft, gif_undef, bi_add, bi_sub, bi_mul, bi_eql, bi_neq, bi_lss, bi_leq, bi_gtr, bi_geq, notB_bool, cvi_int, lenS_mk, lenT_mk, ext0, ext1, ext2, nilP_mk, nilS_mk, fldv_agg, jn0_k, jn1_k, jn2_k, jn1_and, jn1_or, ex_some, Option.isNone_some, Option.isNone_none, Bool.false_bne, Bool.bne_true, Bool.bne_false, Bool.true_bne, Bool.not_true, Bool.not_false, Bool.and_true, Bool.true_and, Bool.and_false, Bool.false_and, Bool.or_true, Bool.true_or, Bool.or_false, Bool.false_or, cond_true, cond_false, List.getElem?_toArray, List.getElem?_cons_zero, List.getElem?_cons_succ, Nat.zero_add, Nat.add_zero, Nat.reduceAdd, forall_const, show ((0 : Int) == 0) = true from rfl]
    exact hR _ _ ⟨rfl, (hs5.old hf6).fr0⟩
  | true =>
  obtain ⟨hrt, hsm⟩ := hfew rfl
  clear hfew
  obtain ⟨l', hl'⟩ : ∃ l', l' = l.take 30 := ⟨_, rfl⟩
  rw [← hl'] at hrt hsm
  have hok' : OOk l' := fun x hx => hok x (by rw [hl'] at hx; exact List.mem_of_mem_take hx)
  have hn30 : l'.length ≤ 30 := by rw [hl', List.length_take]; omega
  simp only [nilc_some, fad_mk, pik_true, pik_false, cnd_true, cnd_false, gif_same, gif_tf, gif_ft, gif_undef, bi_add, bi_sub, bi_mul, bi_eql, bi_neq, bi_lss, bi_leq, bi_gtr, bi_geq, notB_bool, cvi_int, lenS_mk, lenT_mk, ext0, ext1, ext2, nilP_mk, nilS_mk, fldv_agg, jn0_k, jn1_k, jn2_k, jn1_and, jn1_or, ex_some, Option.isNone_some, Option.isNone_none, Bool.false_bne, Bool.bne_true, Bool.bne_false, Bool.true_bne, Bool.not_true, Bool.not_false, Bool.and_true, Bool.true_and, Bool.and_false, Bool.false_and, Bool.or_true, Bool.true_or, Bool.or_false, Bool.false_or, cond_true, cond_false, List.getElem?_toArray, List.getElem?_cons_zero, List.getElem?_cons_succ, Nat.zero_add, Nat.add_zero, Nat.reduceAdd, forall_const]
  refine cal_i cFirst_spec ?_
  rintro _ w6 ⟨v2, rfl, hs6⟩
  replace hs6 := hs5.join hs6
  refine cBldB (x := (genB, v2)) hs6 fun t53 w7 hs7 => ?_
  rw [hrt.len]
  refine ⟨fun a b c z => ∃ i : Nat, c = .int .i64 i ∧ i ≤ l'.length ∧ Inv w pt i a b z, fun _ _ c _ => (l'.length - RowKit.intOf c).toNat, ⟨0, rfl, by omega, [], [(genB, v2)], rdA v2 [103] :: (E ++ [rdA v1 [103]]), _, g, gi, gm, lv, iv, B, ⟨trivial, hg0, by simp, rfl, genB_chk⟩, rfl,
    fun z hz x hx => by rw [List.mem_singleton.1 hx]; exact Sep.rda hz, rfl, rfl, ⟨by simp [layL], by simp, by simp⟩, rfl, rfl, hB, hD.sub fun A hA => List.mem_cons_of_mem _ (List.mem_append_left _ hA), Sep.pick hs7 [2, 3, 4, 5, 6, 7, 0, 1] 8⟩, ?_⟩
  clear hs5 hs6 hs7
  rintro t6 t8 _ w8 ⟨i, rfl, hi, hInv⟩ -
  simp only [nilc_some, fad_mk, pik_true, pik_false, cnd_true, cnd_false, gif_same, gif_tf, gif_ft, gif_undef, bi_add, bi_sub, bi_mul, bi_eql, bi_neq, bi_lss, bi_leq, bi_gtr, bi_geq, notB_bool, cvi_int, lenS_mk, lenT_mk, ext0, ext1, ext2, nilP_mk, nilS_mk, fldv_agg, jn0_k, jn1_k, jn2_k, jn1_and, jn1_or, ex_some, Option.isNone_some, Option.isNone_none, Bool.false_bne, Bool.bne_true, Bool.bne_false, Bool.true_bne, Bool.not_true, Bool.not_false, Bool.and_true, Bool.true_and, Bool.and_false, Bool.false_and, Bool.or_true, Bool.true_or, Bool.or_false, Bool.false_or, cond_true, cond_false, List.getElem?_toArray, List.getElem?_cons_zero, List.getElem?_cons_succ, Nat.zero_add, Nat.add_zero, Nat.reduceAdd, forall_const]
  rw [cnd_bool]
  refine ⟨fun h => ?_, fun h => ?_⟩
  case refine_2 =>
    obtain ⟨W, WB, E, x, g, gi, gm, lv, iv, B, _, _, _, _, _, _, _, _, _, _, hs⟩ := hInv
    exact hR _ _ ⟨rfl, hs.fr0⟩
  have hlt : i < l'.length := by simp at h; omega
  obtain ⟨o, ho⟩ : ∃ o, l'[i]? = some o := ⟨_, List.getElem?_eq_getElem hlt⟩
  have hom := List.mem_of_getElem? ho
  have ho' : (l'.map OA.t)[i]? = some o.t := by rw [List.getElem?_map, ho]; rfl
  obtain ⟨oh1, oh2, oh3, oh4, oh5, oh6⟩ := hok' o hom
  refine ⟨fun a b z => Inv w pt (i + 1) a b z, ?_, ?_⟩
  case refine_2 =>
    rintro a b z hI _
    rw [wi64 (by omega) (by omega)]
    exact ⟨⟨i + 1, by simp, by omega, hI⟩, by simp [RowKit.intOf]; omega⟩
  obtain ⟨W, WB, E, x, g, gi, gm, lv, iv, B, hSt, hWB, hRW, hm, hoff, hx, hxb, rfl, hB, hD, hs8⟩ := hInv
  change ixs 37 _ _ _
  refine Rows'.ldN (q := Q_flurrylaw10_Op) (by decide) (hrt.rw.fr hs8.fr0) ho' .i64 ?_
  refine alloc_s hs8 (A_flurrylaw10_Op w8) fun g10 w9 hs9 => ?_
  have hd9 := (hrt.fr hs9.fr0).d o hom
  refine St_flurrylaw10_Op (b := o.t) hs9 (one_flurrylaw10_Op hd9.1.one hd9.2.one) fun w10 hs10 => ?_
  obtain ⟨T, hT⟩ : ∃ T, T = blk g10 (Rdr.cells Q_flurrylaw10_Op o.t).toArray T_flurrylaw10_Op := ⟨_, rfl⟩
  have hsF : Sep w w10 (chH g gi gm lv iv pt false B ++ (tp pt x :: rows Q_api_Block t8 (WB.map BV.t) :: T :: E)) := by
    rw [hT]
    exact Sep.pick hs10 [1, 2, 3, 4, 5, 6, 7, 0] 8
  clear hs8 hs9 hs10
  have hbT : ∀ {u : World} {Bs Cs : List Asn}, Sep w u (Bs ++ (T :: Cs)) → ∃ fr, u.heap[g10]? = some (.cells (Rdr.cells Q_flurrylaw10_Op o.t).toArray T_flurrylaw10_Op fr) := fun {u Bs Cs} hu => by
    have h1 := hu.dropL
    rw [hT] at h1
    exact ⟨_, h1.blk⟩
  have hWl := blksLen hWB
  have hBl := blksLen hB
  have hWi := hSt.2.2.1
  have hscW : IsScan (layL W) W := scan_all hSt.2.1
  refine ⟨fun b z => Mid w pt (i + 1) (.pointer (some ⟨g, 0, none⟩)) T b z, ?_, ?_⟩
  · -- the act
    have hT10 := hbT (Bs := chH g gi gm lv iv pt false B ++ [tp pt x, rows Q_api_Block t8 (WB.map BV.t)]) (by rw [List.append_assoc]; exact hsF)
    obtain ⟨fr10, hT10⟩ := hT10
    have same : Mid w pt (i + 1) (.pointer (some ⟨g, 0, none⟩)) T t8 w10 := ⟨W, WB, E, x, _, hSt.up (by omega), hWB, hRW, hm, hx, by rw [hxb]; exact hscW, hsF, fun _ => ⟨hxb, g, gi, gm, lv, iv, B, rfl, rfl, hB, hD⟩⟩
    simp only [nilc_some, fad_mk, pik_true, pik_false, cnd_true, cnd_false, gif_same, gif_tf, gif_ft, gif_undef, bi_add, bi_sub, bi_mul, bi_eql, bi_neq, bi_lss, bi_leq, bi_gtr, bi_geq, notB_bool, cvi_int, lenS_mk, lenT_mk, ext0, ext1, ext2, nilP_mk, nilS_mk, fldv_agg, jn0_k, jn1_k, jn2_k, jn1_and, jn1_or, ex_some, Option.isNone_some, Option.isNone_none, Bool.false_bne, Bool.bne_true, Bool.bne_false, Bool.true_bne, Bool.not_true, Bool.not_false, Bool.and_true, Bool.true_and, Bool.and_false, Bool.false_and, Bool.or_true, Bool.true_or, Bool.or_false, Bool.false_or, cond_true, cond_false, List.getElem?_toArray, List.getElem?_cons_zero, List.getElem?_cons_succ, Nat.zero_add, Nat.add_zero, Nat.reduceAdd, forall_const, L_flurrylaw10_Op hT10, L_flurrylaw10_Op__Do hT10, L_flurrylaw10_Op__N hT10, L_flurrylaw10_Op__Data hT10, L_flurrylaw10_Op__B hT10, L_flurrylaw10_Op__B_Parent hT10, L_flurrylaw10_Op__B_Height hT10, L_flurrylaw10_Op__B_Data hT10]
    rw [cnd_bool]
    refine ⟨fun h => ?_, fun h => ?_⟩
    · -- a child is accepted
      obtain ⟨yw, hyw, hyw1⟩ := lastOf hWB
      obtain ⟨yb, hyb, hyb1⟩ := lastOf hB
      obtain ⟨q, hq⟩ : ∃ q, q = lastB genB W := ⟨_, rfl⟩
      have hyw1 : yw.1 = q := by rw [hyw1, hq]
      have hyb1 : yb.1 = q := by rw [hyb1, hq]
      have hqh : q.h = W.length := by rw [hq]; exact hSt.2.2.2.1
      have hqc : q.chk = 0 := by rw [hq]; exact hSt.2.2.2.2
      have hqm : q.h ≤ maxI := by rw [hqh]; unfold maxI; omega
      obtain ⟨_, k2, k3, k4, k5⟩ := Blk.kid_of (b := q) (d := o.d.take 200) hqc (by omega) (by simp; omega)
      obtain ⟨kid, hkid⟩ : ∃ kid, kid = q.child (o.d.take 200) := ⟨_, rfl⟩
      rw [← hkid] at k2 k3 k4 k5
      have hkm : kid.h ≤ maxI := by rw [k3, hqh]; unfold maxI; omega
      have hyw' : (WB.map BV.t)[WB.length - 1]? = some yw.t := by rw [List.getElem?_map, hyw]; rfl
      refine drH_S hsF fun w11 hs11 _ => ?_
      refine ⟨fun y z => ∃ g11 v', y = .pointer (some ⟨g11, 0, none⟩) ∧ Sep w z (blk g11 (Rdr.cells Q_api_Block (kid.p, kid.h, v')).toArray T_api_Block :: ownB v' kid.d :: (chH g gi gm lv iv pt false B ++ (tp pt x :: rows Q_api_Block t8 (WB.map BV.t) :: T :: E))), ?_, ?_⟩
      · have hrW : ∀ {u : World} {Bs : List Asn}, Sep w u (Bs ++ (chH g gi gm lv iv pt false B ++ (tp pt x :: rows Q_api_Block t8 (WB.map BV.t) :: T :: E))) → Rows' Q_api_Block u.heap t8 (WB.map BV.t) := fun {u Bs} hu => Sep.rows (Sep.tail hu.dropL.dropL)
        have hqd : ∀ {u : World} {Bs : List Asn}, Sep w u (Bs ++ (chH g gi gm lv iv pt false B ++ (tp pt x :: rows Q_api_Block t8 (WB.map BV.t) :: T :: E))) → RdB u.heap yw.2 q.d := fun {u Bs} hu => by
          rw [← hyw1]
          exact hRW u (Sep.tail (Sep.tail (Sep.tail hu.dropL.dropL))) yw (List.mem_of_getElem? hyw)
        change lenS _ _
        have hll : ∀ K, lenS t8 K = K (.int .i64 WB.length) := fun K => by
          have := (hrW (Bs := []) hs11).len K
          rwa [List.length_map] at this
        rw [hll]
        simp only [nilc_some, fad_mk, pik_true, pik_false, cnd_true, cnd_false, gif_same, gif_tf, gif_ft, gif_undef, bi_add, bi_sub, bi_mul, bi_eql, bi_neq, bi_lss, bi_leq, bi_gtr, bi_geq, notB_bool, cvi_int, lenS_mk, lenT_mk, ext0, ext1, ext2, nilP_mk, nilS_mk, fldv_agg, jn0_k, jn1_k, jn2_k, jn1_and, jn1_or, ex_some, Option.isNone_some, Option.isNone_none, Bool.false_bne, Bool.bne_true, Bool.bne_false, Bool.true_bne, Bool.not_true, Bool.not_false, Bool.and_true, Bool.true_and, Bool.and_false, Bool.false_and, Bool.or_true, Bool.true_or, Bool.or_false, Bool.false_or, cond_true, cond_false, List.getElem?_toArray, List.getElem?_cons_zero, List.getElem?_cons_succ, Nat.zero_add, Nat.add_zero, Nat.reduceAdd, forall_const]
        rw [wi64 (by omega) (by omega)]
        have e1 : (WB.length : Int) - 1 = ((WB.length - 1 : Nat) : Int) := by omega
        rw [e1]
        change ixs 34 _ _ _
        refine rdS_rowC (q := Q_api_Block) (by decide) hs11 (fun u hu => hrW (Bs := []) hu) hyw' .i64 ?_
        refine rdS_ld (v := o.dv) (fun u hu K hk => by
          obtain ⟨fr, hc⟩ := hbT (Bs := chH g gi gm lv iv pt false B ++ [tp pt x, rows Q_api_Block t8 (WB.map BV.t)]) (by rw [List.append_assoc]; exact hu)
          exact (L_flurrylaw10_Op__Data hc K).mpr hk) ?_
        have cch : ∀ {u : World} {Bs : List Asn}, Sep w u (Bs ++ (chH g gi gm lv iv pt false B ++ (tp pt x :: rows Q_api_Block t8 (WB.map BV.t) :: T :: E))) → cal P f_law10_child [bq yw.1 yw.2, o.dv] u fun r w' => ∃ v', r = bq kid v' ∧ Sep w w' (ownB v' kid.d :: (Bs ++ (chH g gi gm lv iv pt false B ++ (tp pt x :: rows Q_api_Block t8 (WB.map BV.t) :: T :: E)))) := fun {u Bs} hu => by
          rw [hyw1]
          refine cal_i (cChild_spec (b := q) (v := yw.2) (u := o.dv) (d := o.d) (hqd hu) ((hrt.fr hu.fr0).d o hom).1 oh6 hqm oh4) ?_
          rintro _ w12 ⟨v', rfl, hs12⟩
          rw [← hkid] at *
          exact ⟨v', rfl, hu.join hs12⟩
        refine ⟨?_, ?_, trivial⟩
        · refine efC_cut (cal_i (cch (Bs := []) hs11) ?_)
          rintro _ w12 ⟨v', rfl, hs12⟩
          refine ⟨fun u => Sep w u (ownB v' kid.d :: (chH g gi gm lv iv pt false B ++ (tp pt x :: rows Q_api_Block t8 (WB.map BV.t) :: T :: E))), hs12, ?_⟩
          refine efS_i (alloc_s hs12 (A_api_Block w12) fun g11 w13 hs13 => ⟨hs13.tail, ?_⟩)
          refine efC_stN (St_api_Block (b := (kid.p, kid.h, v')) hs13 (one_api_Block (Sep.one hs13.p1)) fun w14 hs14 => ?_)
          exact ⟨g11, v', rfl, hs14⟩
        · refine efS_i (alloc_s hs11 (A_api_Block w11) fun g11 w12 hs12 => ⟨hs12.tail, ?_⟩)
          refine efC_cal (cal_i (cch (Bs := [_]) hs12) ?_)
          rintro _ w13 ⟨v', rfl, hs13⟩
          refine efC_stN (St_api_Block (b := (kid.p, kid.h, v')) hs13.p1 (one_api_Block (Sep.one hs13)) fun w14 hs14 => ?_)
          exact ⟨g11, v', rfl, hs14⟩
      · rintro _ w11 ⟨g11, v', rfl, hs11⟩ _
        simp only [L_api_Block hs11.blk, L_api_Block__Parent hs11.blk, L_api_Block__Height hs11.blk, L_api_Block__Data hs11.blk]
        refine cal_i (cAccept_spec (b := kid) (v := v') (y := yb) (As := blk g11 (Rdr.cells Q_api_Block (kid.p, kid.h, v')).toArray T_api_Block :: ownB v' kid.d :: rows Q_api_Block t8 (WB.map BV.t) :: T :: E) (Sep.pick hs11 [2, 3, 4, 5, 6, 7, 0, 1, 8, 9] 10) hx hm hC (fun z hz => Sep.rd hz.tail)
          (hD.sub fun A hA => List.mem_cons_of_mem _ (List.mem_cons_of_mem _ (List.mem_cons_of_mem _ (List.mem_cons_of_mem _ hA)))) hkm hyb (by rw [hyb1]; exact hqm) (by omega)) ?_
        rw [hyb1]
        have hlay := hSt.lay (by omega)
        have hrl : kid.rcd.length ≤ 266 := by
          have := Blk.recO_le kid
          rw [show kid.recO = kid.rcd from if_pos k4] at this
          exact this
        have hroom : x.b.length + kid.rcd.length ≤ 262144 := by rw [hxb]; omega
        rintro _ w12 (⟨h, _⟩ | ⟨_, _, h, _⟩ | ⟨_, _, _, he, rfl, lv', iv', vd, hs12⟩ | ⟨_, _, _, he, rfl, hs12⟩)
        · rcases h with h | h
          · cases h
          · rw [hoff] at h; cases h
        · exact absurd k2 h
        · simp only [nilc_some, fad_mk, pik_true, pik_false, cnd_true, cnd_false, gif_same, gif_tf, gif_ft, gif_undef, bi_add, bi_sub, bi_mul, bi_eql, bi_neq, bi_lss, bi_leq, bi_gtr, bi_geq, notB_bool, cvi_int, lenS_mk, lenT_mk, ext0, ext1, ext2, nilP_mk, nilS_mk, fldv_agg, jn0_k, jn1_k, jn2_k, jn1_and, jn1_or, ex_some, Option.isNone_some, Option.isNone_none, Bool.false_bne, Bool.bne_true, Bool.bne_false, Bool.true_bne, Bool.not_true, Bool.not_false, Bool.and_true, Bool.true_and, Bool.and_false, Bool.false_and, Bool.or_true, Bool.true_or, Bool.or_false, Bool.false_or, cond_true, cond_false, List.getElem?_toArray, List.getElem?_cons_zero, List.getElem?_cons_succ, Nat.zero_add, Nat.add_zero, Nat.reduceAdd, forall_const, show ((0 : Int) == 0) = true from rfl]
          by_cases harm : x.armed = -1 ∨ (kid.rcd.length : Int) ≤ x.armed
          case neg =>
            obtain ⟨j, hj, ha⟩ := Tp.app_cut hm hoff hroom harm hx.2.1
            rw [ha] at he
            cases he
          obtain ⟨k, ha, hk⟩ := Tp.app_room hm hoff hroom harm
          rw [ha] at hs12
          -- chain 0-4 · tp 5 · vd 6 · g11 7 · v' 8 · rows 9 · T 10
          simp only [L_api_Block (Sep.blk (Sep.pick hs12 [7] 8)), L_api_Block__Parent (Sep.blk (Sep.pick hs12 [7] 8)), L_api_Block__Height (Sep.blk (Sep.pick hs12 [7] 8)), L_api_Block__Data (Sep.blk (Sep.pick hs12 [7] 8))]
          refine cBldB (x := (kid, v')) hs12 fun a w13 hs13 => ?_
          refine cAppB (x := (kid, v')) (Sep.pick hs13 [10, 0, 1, 2, 3, 4, 5, 6, 7, 9, 11] 12) (Sep.rows hs13) (Sep.one (Sep.pick hs13 [9] 10)) (by omega) fun u' w14 hs14 => ?_
          refine ⟨W ++ [kid], WB ++ [(kid, v')], ownB vd kid.d :: ownB v' kid.d :: E, ⟨x.b ++ kid.rcd, k, false, true⟩, chH g gi gm lv' iv' pt false (B ++ [(kid, vd)]), hSt.snoc (by rw [← hq]; exact k2) k4 (by rw [← hq]; exact k3) (by omega), ?_, ?_, rfl, ?_, ?_, Sep.pick hs14 [2, 3, 4, 5, 6, 7, 0, 10, 8, 9] 11, fun _ => ⟨?_, g, gi, gm, lv', iv', _, rfl, rfl, ?_, ?_⟩⟩
          · rw [blks_snoc, hWB]; rfl
          · intro z hz p hp
            rcases List.mem_append.1 hp with hp | hp
            · exact hRW z hz.tail.tail p hp
            · rw [List.mem_singleton.1 hp]
              exact Sep.rd hz.tail
          · have := hk hx.2.1
            exact ⟨by simp only [List.length_append]; omega, this.1, Int.le_trans this.2 hx.2.2⟩
          · have hW' := (hSt.snoc (b := kid) (by rw [← hq]; exact k2) k4 (by rw [← hq]; exact k3) (by omega)).2.1
            have := scan_all hW'
            rw [layL_append, layL_cons] at this
            simpa [layL, hxb] using this
          · show x.b ++ kid.rcd = _
            rw [hxb, layL_append, layL_cons]
            simp [layL]
          · rw [blks_snoc, hB]; rfl
          · intro p hp
            rcases List.mem_append.1 hp with hp | hp
            · exact List.mem_cons_of_mem _ (List.mem_cons_of_mem _ (hD p hp))
            · rw [List.mem_singleton.1 hp]; exact List.mem_cons_self ..
        · have hne : ((x.append kid.rcd).2 == 0) = false := by simpa using he
          simp only [nilc_some, fad_mk, pik_true, pik_false, cnd_true, cnd_false, gif_same, gif_tf, gif_ft, gif_undef, bi_add, bi_sub, bi_mul, bi_eql, bi_neq, bi_lss, bi_leq, bi_gtr, bi_geq, notB_bool, cvi_int, lenS_mk, lenT_mk, ext0, ext1, ext2, nilP_mk, nilS_mk, fldv_agg, jn0_k, jn1_k, jn2_k, jn1_and, jn1_or, ex_some, Option.isNone_some, Option.isNone_none, Bool.false_bne, Bool.bne_true, Bool.bne_false, Bool.true_bne, Bool.not_true, Bool.not_false, Bool.and_true, Bool.true_and, Bool.and_false, Bool.false_and, Bool.or_true, Bool.true_or, Bool.or_false, Bool.false_or, cond_true, cond_false, List.getElem?_toArray, List.getElem?_cons_zero, List.getElem?_cons_succ, Nat.zero_add, Nat.add_zero, Nat.reduceAdd, forall_const, hne]
          by_cases harm : x.armed = -1 ∨ (kid.rcd.length : Int) ≤ x.armed
          case pos =>
            obtain ⟨k, ha, hk⟩ := Tp.app_room hm hoff hroom harm
            rw [ha] at he
            exact absurd rfl he
          obtain ⟨j, hj, ha⟩ := Tp.app_cut hm hoff hroom harm hx.2.1
          rw [ha] at hs12
          refine ⟨W, WB, E, ⟨x.b ++ kid.rcd.take j, -1, true, true⟩, chH g gi gm lv iv pt true B, hSt.up (by omega), hWB, hRW, rfl, ⟨by simp only [List.length_append, List.length_take]; omega, by simp, by simp⟩, ?_, Sep.pick hs12 [0, 1, 2, 3, 4, 5, 8, 9] 10, fun h => by cases h⟩
          show IsScan (x.b ++ _) W
          rw [hxb]
          exact scan_part hSt.2.1 k4 hj
    · rw [cnd_bool]
      refine ⟨fun h => ?_, fun h => ?_⟩
      · -- armed
        refine cal_i (tpArm_spec (n := o.n) (Sep.mid hsF)) ?_
        rintro _ w11 ⟨rfl, hs11⟩
        have hmay : x.may = 0 := by unfold Tp.may; rw [hm, hoff]; rfl
        have hx' : (x.arm o.n).1.Ok ∧ (x.arm o.n).1.made = true ∧ (x.arm o.n).1.off = false ∧ (x.arm o.n).1.b = x.b := by
          unfold Tp.arm
          rw [if_neg (by simp [hmay])]
          by_cases hn : o.n < 0
          · rw [if_pos hn]; exact ⟨hx, hm, hoff, rfl⟩
          · rw [if_neg hn]; exact ⟨⟨hx.1, by simp only; omega, by simp only; unfold maxI at oh3; omega⟩, hm, hoff, rfl⟩
        refine ⟨W, WB, T :: E, (x.arm o.n).1, g, gi, gm, lv, iv, B, hSt.up (by omega), hWB, fun z hz => hRW z hz.tail, hx'.2.1, hx'.2.2.1, hx'.1, by rw [hx'.2.2.2, hxb], rfl, hB, hD.sub fun A hA => List.mem_cons_of_mem _ hA, Sep.pick hs11 [1, 2, 3, 4, 5, 0, 6, 7] 8⟩
      · rw [cnd_bool]
        refine ⟨fun h => ?_, fun h => same⟩
        refine cal_i (tpCrash_spec (Sep.mid hsF)) ?_
        rintro _ w11 ⟨rfl, hs11⟩
        have hmay : x.may = 0 := by unfold Tp.may; rw [hm, hoff]; rfl
        have hcr : x.crash.1 = x.goes := by unfold Tp.crash; rw [if_neg (by simp [hmay])]
        rw [hcr] at hs11
        exact ⟨W, WB, E, x.goes, chH g gi gm lv iv pt false B, hSt.up (by omega), hWB, hRW, hm, ⟨hx.1, by simp [Tp.goes], by simp [Tp.goes]⟩, by show IsScan x.b W; rw [hxb]; exact hscW, Sep.pick hs11 [1, 2, 3, 4, 5, 0, 6, 7] 8, fun h => by cases h⟩
  -- behind the act
  clear hsF hscW hWi hBl hWl hB hD hxb hx hoff hm hRW hWB hSt
  rintro t8 z ⟨W, WB, E, x, C, hSt, hWB, hRW, hm, hx, hsc, hz, hon⟩ _
  have hz1 := Sep.mid hz
  refine cal_i (tpOn_spec hz1) ?_
  rintro _ _ ⟨rfl, rfl⟩
  obtain ⟨fr10, hT10⟩ := hbT (Bs := C ++ [tp pt x, rows Q_api_Block t8 (WB.map BV.t)]) (by rw [List.append_assoc]; exact hz)
  rw [hm]
  simp only [nilc_some, fad_mk, pik_true, pik_false, cnd_true, cnd_false, gif_same, gif_tf, gif_ft, gif_undef, bi_add, bi_sub, bi_mul, bi_eql, bi_neq, bi_lss, bi_leq, bi_gtr, bi_geq, notB_bool, cvi_int, lenS_mk, lenT_mk, ext0, ext1, ext2, nilP_mk, nilS_mk, fldv_agg, jn0_k, jn1_k, jn2_k, jn1_and, jn1_or, ex_some, Option.isNone_some, Option.isNone_none, Bool.false_bne, Bool.bne_true, Bool.bne_false, Bool.true_bne, Bool.not_true, Bool.not_false, Bool.and_true, Bool.true_and, Bool.and_false, Bool.false_and, Bool.or_true, Bool.true_or, Bool.or_false, Bool.false_or, cond_true, cond_false, List.getElem?_toArray, List.getElem?_cons_zero, List.getElem?_cons_succ, Nat.zero_add, Nat.add_zero, Nat.reduceAdd, forall_const, L_flurrylaw10_Op hT10, L_flurrylaw10_Op__Do hT10, L_flurrylaw10_Op__N hT10, L_flurrylaw10_Op__Data hT10, L_flurrylaw10_Op__B hT10, L_flurrylaw10_Op__B_Parent hT10, L_flurrylaw10_Op__B_Height hT10, L_flurrylaw10_Op__B_Data hT10]
  rw [cnd_bool]
  refine ⟨fun h => ?_, fun h => ?_⟩
  · have hoff : x.off = false := by simp at h; exact h.1
    obtain ⟨hxb, g, gi, gm, lv, iv, B, hg, rfl, hB, hD⟩ := hon hoff
    exact ⟨W, WB, T :: E, x, g, gi, gm, lv, iv, B, hSt, hWB, fun z hz => hRW z hz.tail, hm, hoff, hx, hxb, hg, hB, hD.sub fun A hA => List.mem_cons_of_mem _ hA, hz⟩
  refine cal_i (tpOn_spec hz1) ?_
  rintro _ _ ⟨rfl, rfl⟩
  rw [hm]
  simp only [nilc_some, fad_mk, pik_true, pik_false, cnd_true, cnd_false, gif_same, gif_tf, gif_ft, gif_undef, bi_add, bi_sub, bi_mul, bi_eql, bi_neq, bi_lss, bi_leq, bi_gtr, bi_geq, notB_bool, cvi_int, lenS_mk, lenT_mk, ext0, ext1, ext2, nilP_mk, nilS_mk, fldv_agg, jn0_k, jn1_k, jn2_k, jn1_and, jn1_or, ex_some, Option.isNone_some, Option.isNone_none, Bool.false_bne, Bool.bne_true, Bool.bne_false, Bool.true_bne, Bool.not_true, Bool.not_false, Bool.and_true, Bool.true_and, Bool.and_false, Bool.false_and, Bool.or_true, Bool.true_or, Bool.or_false, Bool.false_or, cond_true, cond_false, List.getElem?_toArray, List.getElem?_cons_zero, List.getElem?_cons_succ, Nat.zero_add, Nat.add_zero, Nat.reduceAdd, forall_const]
  refine ⟨fun y z2 => (x.off = true → y = .bool false) ∧ Sep w z2 (tp pt { x with off := false } :: (C ++ (rows Q_api_Block t8 (WB.map BV.t) :: T :: E))), ?_, ?_⟩
  · cases hoff : x.off with
    | false =>
      simp only [nilc_some, fad_mk, pik_true, pik_false, cnd_true, cnd_false, gif_same, gif_tf, gif_ft, gif_undef, bi_add, bi_sub, bi_mul, bi_eql, bi_neq, bi_lss, bi_leq, bi_gtr, bi_geq, notB_bool, cvi_int, lenS_mk, lenT_mk, ext0, ext1, ext2, nilP_mk, nilS_mk, fldv_agg, jn0_k, jn1_k, jn2_k, jn1_and, jn1_or, ex_some, Option.isNone_some, Option.isNone_none, Bool.false_bne, Bool.bne_true, Bool.bne_false, Bool.true_bne, Bool.not_true, Bool.not_false, Bool.and_true, Bool.true_and, Bool.and_false, Bool.false_and, Bool.or_true, Bool.true_or, Bool.or_false, Bool.false_or, cond_true, cond_false, List.getElem?_toArray, List.getElem?_cons_zero, List.getElem?_cons_succ, Nat.zero_add, Nat.add_zero, Nat.reduceAdd, forall_const]
      have e : ({ x with off := false } : Tp) = x := by cases x; simp_all
      rw [e]
      exact ⟨fun h => (by cases h), hz1⟩
    | true =>
      simp only [nilc_some, fad_mk, pik_true, pik_false, cnd_true, cnd_false, gif_same, gif_tf, gif_ft, gif_undef, bi_add, bi_sub, bi_mul, bi_eql, bi_neq, bi_lss, bi_leq, bi_gtr, bi_geq, notB_bool, cvi_int, lenS_mk, lenT_mk, ext0, ext1, ext2, nilP_mk, nilS_mk, fldv_agg, jn0_k, jn1_k, jn2_k, jn1_and, jn1_or, ex_some, Option.isNone_some, Option.isNone_none, Bool.false_bne, Bool.bne_true, Bool.bne_false, Bool.true_bne, Bool.not_true, Bool.not_false, Bool.and_true, Bool.true_and, Bool.and_false, Bool.false_and, Bool.or_true, Bool.true_or, Bool.or_false, Bool.false_or, cond_true, cond_false, List.getElem?_toArray, List.getElem?_cons_zero, List.getElem?_cons_succ, Nat.zero_add, Nat.add_zero, Nat.reduceAdd, forall_const]
      refine cal_i (tpRestart_spec hz1) ?_
      rintro _ z2 ⟨rfl, hz2⟩
      have e : x.restart = ({ x with off := false }, 0) := by
        have h5 : x.may = 5 := by unfold Tp.may; rw [hm, hoff]; rfl
        unfold Tp.restart
        rw [h5]
        rfl
      rw [e] at hz2 ⊢
      simp only [nilc_some, fad_mk, pik_true, pik_false, cnd_true, cnd_false, gif_same, gif_tf, gif_ft, gif_undef, bi_add, bi_sub, bi_mul, bi_eql, bi_neq, bi_lss, bi_leq, bi_gtr, bi_geq, notB_bool, cvi_int, lenS_mk, lenT_mk, ext0, ext1, ext2, nilP_mk, nilS_mk, fldv_agg, jn0_k, jn1_k, jn2_k, jn1_and, jn1_or, ex_some, Option.isNone_some, Option.isNone_none, Bool.false_bne, Bool.bne_true, Bool.bne_false, Bool.true_bne, Bool.not_true, Bool.not_false, Bool.and_true, Bool.true_and, Bool.and_false, Bool.false_and, Bool.or_true, Bool.true_or, Bool.or_false, Bool.false_or, cond_true, cond_false, List.getElem?_toArray, List.getElem?_cons_zero, List.getElem?_cons_succ, Nat.zero_add, Nat.add_zero, Nat.reduceAdd, forall_const, show ((0 : Int) != 0) = false from rfl]
      exact ⟨trivial, hz2⟩
  rintro y2 z2 ⟨hy, hz2⟩ _
  have ep : ∀ K, pik (.bool x.off) y2 (.bool false) K = K (.bool false) := fun K => by
    cases hoff : x.off with
    | false => simp only [nilc_some, fad_mk, pik_true, pik_false, cnd_true, cnd_false, gif_same, gif_tf, gif_ft, gif_undef, bi_add, bi_sub, bi_mul, bi_eql, bi_neq, bi_lss, bi_leq, bi_gtr, bi_geq, notB_bool, cvi_int, lenS_mk, lenT_mk, ext0, ext1, ext2, nilP_mk, nilS_mk, fldv_agg, jn0_k, jn1_k, jn2_k, jn1_and, jn1_or, ex_some, Option.isNone_some, Option.isNone_none, Bool.false_bne, Bool.bne_true, Bool.bne_false, Bool.true_bne, Bool.not_true, Bool.not_false, Bool.and_true, Bool.true_and, Bool.and_false, Bool.false_and, Bool.or_true, Bool.true_or, Bool.or_false, Bool.false_or, cond_true, cond_false, List.getElem?_toArray, List.getElem?_cons_zero, List.getElem?_cons_succ, Nat.zero_add, Nat.add_zero, Nat.reduceAdd, forall_const]
    | true => rw [hy hoff]; simp only [nilc_some, fad_mk, pik_true, pik_false, cnd_true, cnd_false, gif_same, gif_tf, gif_ft, gif_undef, bi_add, bi_sub, bi_mul, bi_eql, bi_neq, bi_lss, bi_leq, bi_gtr, bi_geq, notB_bool, cvi_int, lenS_mk, lenT_mk, ext0, ext1, ext2, nilP_mk, nilS_mk, fldv_agg, jn0_k, jn1_k, jn2_k, jn1_and, jn1_or, ex_some, Option.isNone_some, Option.isNone_none, Bool.false_bne, Bool.bne_true, Bool.bne_false, Bool.true_bne, Bool.not_true, Bool.not_false, Bool.and_true, Bool.true_and, Bool.and_false, Bool.false_and, Bool.or_true, Bool.true_or, Bool.or_false, Bool.false_or, cond_true, cond_false, List.getElem?_toArray, List.getElem?_cons_zero, List.getElem?_cons_succ, Nat.zero_add, Nat.add_zero, Nat.reduceAdd, forall_const]
  rw [Bool.not_not, ep]
  simp only [nilc_some, fad_mk, pik_true, pik_false, cnd_true, cnd_false, gif_same, gif_tf, gif_ft, gif_undef, bi_add, bi_sub, bi_mul, bi_eql, bi_neq, bi_lss, bi_leq, bi_gtr, bi_geq, notB_bool, cvi_int, lenS_mk, lenT_mk, ext0, ext1, ext2, nilP_mk, nilS_mk, fldv_agg, jn0_k, jn1_k, jn2_k, jn1_and, jn1_or, ex_some, Option.isNone_some, Option.isNone_none, Bool.false_bne, Bool.bne_true, Bool.bne_false, Bool.true_bne, Bool.not_true, Bool.not_false, Bool.and_true, Bool.true_and, Bool.and_false, Bool.false_and, Bool.or_true, Bool.true_or, Bool.or_false, Bool.false_or, cond_true, cond_false, List.getElem?_toArray, List.getElem?_cons_zero, List.getElem?_cons_succ, Nat.zero_add, Nat.add_zero, Nat.reduceAdd, forall_const]
  refine cal_i cFirst_spec ?_
  rintro _ z3 ⟨v5, rfl, hz3⟩
  replace hz3 := hz2.join hz3
  refine cal_i (cOpenG (W := W) (As := C ++ (rows Q_api_Block t8 (WB.map BV.t) :: T :: E)) (Sep.pick hz3 [1, 0] 2) ⟨hx.1, hx.2⟩ hm hC rfl hsc hSt.1) ?_
  rintro _ z4 ⟨g, gi, gm, lv, iv, B, E1, rfl, hB, hD, hz4⟩
  obtain ⟨E2, hE2⟩ : ∃ E2, E2 = E1 ++ (rdA v5 [103] :: C) := ⟨_, rfl⟩
  have eE : E1 ++ (rdA v5 [103] :: (C ++ (rows Q_api_Block t8 (WB.map BV.t) :: T :: E))) = E2 ++ (rows Q_api_Block t8 (WB.map BV.t) :: T :: E) := by rw [hE2]; simp
  rw [eE] at hz4
  have hz5 : Sep w z4 (chH g gi gm lv iv pt false B ++ (tp pt { x with b := layL W, off := false } :: rows Q_api_Block t8 (WB.map BV.t) :: (E2 ++ (T :: E)))) :=
    Sep.pick (Sep.mid (As := _ :: _ :: _ :: _ :: _ :: _ :: E2) hz4) [1, 2, 3, 4, 5, 6, 0] 7
  have hD2 : DatB B (E2 ++ (T :: E)) := hD.sub fun A hA => List.mem_append_left _ (by rw [hE2]; exact List.mem_append_left _ hA)
  have hRW2 : RdW w WB (E2 ++ (T :: E)) := fun u hu => hRW u hu.dropL.tail
  obtain ⟨E3, hE3⟩ : ∃ E3, E3 = E2 ++ (T :: E) := ⟨_, rfl⟩
  rw [← hE3] at hz5 hD2 hRW2
  clear hz hz1 hz2 hz3 hz4 hE3 hE2 eE hon hT10
  have hlay := hSt.lay (by omega)
  have hx2 : ({ x with b := layL W, off := false } : Tp).Ok := ⟨by simp only; omega, hx.2⟩
  have hBl := blksLen hB
  have hWl := blksLen hWB
  have hWi := hSt.2.2.1
  simp only [nilc_some, fad_mk, pik_true, pik_false, cnd_true, cnd_false, gif_same, gif_tf, gif_ft, gif_undef, bi_add, bi_sub, bi_mul, bi_eql, bi_neq, bi_lss, bi_leq, bi_gtr, bi_geq, notB_bool, cvi_int, lenS_mk, lenT_mk, ext0, ext1, ext2, nilP_mk, nilS_mk, fldv_agg, jn0_k, jn1_k, jn2_k, jn1_and, jn1_or, ex_some, Option.isNone_some, Option.isNone_none, Bool.false_bne, Bool.bne_true, Bool.bne_false, Bool.true_bne, Bool.not_true, Bool.not_false, Bool.and_true, Bool.true_and, Bool.and_false, Bool.false_and, Bool.or_true, Bool.true_or, Bool.or_false, Bool.false_or, cond_true, cond_false, List.getElem?_toArray, List.getElem?_cons_zero, List.getElem?_cons_succ, Nat.zero_add, Nat.add_zero, Nat.reduceAdd, forall_const, show ((0 : Int) != 0) = false from rfl]
  refine cal_i (told10_spec (most := 1048576) (chH_rd hz5 (hD2.sub fun A hA => List.mem_cons_of_mem _ (List.mem_cons_of_mem _ hA))) (by omega) (fun p hp => by
    have h1 : p.1 ∈ blks B := List.mem_map_of_mem hp
    rw [hB] at h1
    have := chk0_lenC (hSt.chk _ h1)
    omega) (by omega)) ?_
  rintro r z6 ⟨N, EN, hN, hDN, hz6⟩
  replace hz6 := hz5.join hz6
  rw [hB, List.take_of_length_le (by simp; omega)] at hN
  have hNl := blksLen hN
  have hlw : ∀ {u : World} {Bs : List Asn}, Sep w u (Bs ++ (rows Q_flurrylaw10_named r (N.map nmd) :: EN ++ (chH g gi gm lv iv pt false B ++ (tp pt { x with b := layL W, off := false } :: rows Q_api_Block t8 (WB.map BV.t) :: E3)))) → Rows' Q_api_Block u.heap t8 (WB.map BV.t) ∧ (∀ p ∈ WB, RdB u.heap p.2 p.1.d) ∧ (∀ p ∈ N, RdB u.heap p.2 p.1.d) := fun {u Bs} hu => by
    have h1 := (Sep.dropL (As := EN) hu.dropL.tail)
    have h2 := h1.dropL.tail
    exact ⟨Sep.rows h2, hRW2 u h2.tail, datRd (As := [_]) hDN hu.dropL⟩
  have hl1 : ∀ K, lenS r K = K (.int .i64 N.length) := fun K => by
    have := (Sep.rows hz6).len K
    rwa [List.length_map] at this
  have hl2 : ∀ K, lenS t8 K = K (.int .i64 WB.length) := fun K => by
    have := (hlw (Bs := []) hz6).1.len K
    rwa [List.length_map] at this
  simp only [hl1, hl2, nilc_some, fad_mk, pik_true, pik_false, cnd_true, cnd_false, gif_same, gif_tf, gif_ft, gif_undef, bi_add, bi_sub, bi_mul, bi_eql, bi_neq, bi_lss, bi_leq, bi_gtr, bi_geq, notB_bool, cvi_int, lenS_mk, lenT_mk, ext0, ext1, ext2, nilP_mk, nilS_mk, fldv_agg, jn0_k, jn1_k, jn2_k, jn1_and, jn1_or, ex_some, Option.isNone_some, Option.isNone_none, Bool.false_bne, Bool.bne_true, Bool.bne_false, Bool.true_bne, Bool.not_true, Bool.not_false, Bool.and_true, Bool.true_and, Bool.and_false, Bool.false_and, Bool.or_true, Bool.true_or, Bool.or_false, Bool.false_or, cond_true, cond_false, List.getElem?_toArray, List.getElem?_cons_zero, List.getElem?_cons_succ, Nat.zero_add, Nat.add_zero, Nat.reduceAdd, forall_const]
  rw [cnd_bool]
  refine ⟨fun h => ?_, fun _ => ?_⟩
  · have : N.length = WB.length := by omega
    simp [this] at h
  refine ⟨fun t u => ∃ j : Nat, t = .int .i64 j ∧ j ≤ N.length ∧ Sep w u (rows Q_flurrylaw10_named r (N.map nmd) :: EN ++ (chH g gi gm lv iv pt false B ++ (tp pt { x with b := layL W, off := false } :: rows Q_api_Block t8 (WB.map BV.t) :: E3))), fun t _ => (N.length - RowKit.intOf t).toNat, ⟨0, rfl, by omega, hz6⟩, ?_⟩
  clear hz6
  rintro _ z7 ⟨j, rfl, hj, hz7⟩ -
  simp only [nilc_some, fad_mk, pik_true, pik_false, cnd_true, cnd_false, gif_same, gif_tf, gif_ft, gif_undef, bi_add, bi_sub, bi_mul, bi_eql, bi_neq, bi_lss, bi_leq, bi_gtr, bi_geq, notB_bool, cvi_int, lenS_mk, lenT_mk, ext0, ext1, ext2, nilP_mk, nilS_mk, fldv_agg, jn0_k, jn1_k, jn2_k, jn1_and, jn1_or, ex_some, Option.isNone_some, Option.isNone_none, Bool.false_bne, Bool.bne_true, Bool.bne_false, Bool.true_bne, Bool.not_true, Bool.not_false, Bool.and_true, Bool.true_and, Bool.and_false, Bool.false_and, Bool.or_true, Bool.true_or, Bool.or_false, Bool.false_or, cond_true, cond_false, List.getElem?_toArray, List.getElem?_cons_zero, List.getElem?_cons_succ, Nat.zero_add, Nat.add_zero, Nat.reduceAdd, forall_const]
  rw [cnd_bool]
  refine ⟨fun h => ?_, fun h => ?_⟩
  case refine_2 =>
    refine ⟨W, WB, E3, { x with b := layL W, off := false }, g, gi, gm, lv, iv, B, hSt, hWB, hRW2, hm, rfl, hx2, rfl, rfl, hB, hD2, ?_⟩
    exact Sep.dropL (As := EN) hz7.tail
  have hjl : j < N.length := by simp at h; omega
  obtain ⟨p, hp⟩ : ∃ p, N[j]? = some p := ⟨_, List.getElem?_eq_getElem hjl⟩
  obtain ⟨q, hq⟩ : ∃ q, WB[j]? = some q := ⟨_, List.getElem?_eq_getElem (by omega)⟩
  have hpq : p.1 = q.1 := by
    have h1 : (blks N)[j]? = some p.1 := by rw [List.getElem?_map, hp]; rfl
    have h2 : (blks WB)[j]? = some q.1 := by rw [List.getElem?_map, hq]; rfl
    rw [hN] at h1
    rw [hWB, h1] at h2
    exact Option.some.inj h2
  have hp' : (N.map nmd)[j]? = some (nmd p) := by rw [List.getElem?_map, hp]; rfl
  have hq' : (WB.map BV.t)[j]? = some q.t := by rw [List.getElem?_map, hq]; rfl
  change ixs 66 _ _ _
  refine Rows'.ldN (q := Q_flurrylaw10_named) (by decide) (Sep.rows hz7) hp' .i64 ?_
  refine alloc_s hz7 (A_flurrylaw10_named z7) fun g16 z8 hz8 => ?_
  refine St_flurrylaw10_named (b := nmd p) hz8 (one_flurrylaw10_named ((hlw (Bs := [_]) hz8).2.2 p (List.mem_of_getElem? hp)).one) fun z9 hz9 => ?_
  refine drH_S hz9 fun z10 hz10 _ => ?_
  simp only [nilc_some, fad_mk, pik_true, pik_false, cnd_true, cnd_false, gif_same, gif_tf, gif_ft, gif_undef, bi_add, bi_sub, bi_mul, bi_eql, bi_neq, bi_lss, bi_leq, bi_gtr, bi_geq, notB_bool, cvi_int, lenS_mk, lenT_mk, ext0, ext1, ext2, nilP_mk, nilS_mk, fldv_agg, jn0_k, jn1_k, jn2_k, jn1_and, jn1_or, ex_some, Option.isNone_some, Option.isNone_none, Bool.false_bne, Bool.bne_true, Bool.bne_false, Bool.true_bne, Bool.not_true, Bool.not_false, Bool.and_true, Bool.true_and, Bool.and_false, Bool.false_and, Bool.or_true, Bool.true_or, Bool.or_false, Bool.false_or, cond_true, cond_false, List.getElem?_toArray, List.getElem?_cons_zero, List.getElem?_cons_succ, Nat.zero_add, Nat.add_zero, Nat.reduceAdd, forall_const]
  refine ⟨bq p.1 p.2, fun u hu => (L_flurrylaw10_named__b (Sep.blk hu) _).mpr rfl, ?_⟩
  change ixs 34 _ _ _
  refine rdS_rowC (q := Q_api_Block) (by decide) hz10 (fun u hu => (hlw (Bs := [_]) hu).1) hq' .i64 ?_
  refine efC_cal (cal_i (rSame_spec (a := p.1) (b := q.1) ((hlw (Bs := [_]) hz10).2.2 p (List.mem_of_getElem? hp)) ((hlw (Bs := [_]) hz10).2.1 q (List.mem_of_getElem? hq))) ?_)
  rintro _ z11 ⟨rfl, hf11⟩
  have hz11 := hz10.old hf11
  rw [decide_eq_true hpq]
  simp only [nilc_some, fad_mk, pik_true, pik_false, cnd_true, cnd_false, gif_same, gif_tf, gif_ft, gif_undef, bi_add, bi_sub, bi_mul, bi_eql, bi_neq, bi_lss, bi_leq, bi_gtr, bi_geq, notB_bool, cvi_int, lenS_mk, lenT_mk, ext0, ext1, ext2, nilP_mk, nilS_mk, fldv_agg, jn0_k, jn1_k, jn2_k, jn1_and, jn1_or, ex_some, Option.isNone_some, Option.isNone_none, Bool.false_bne, Bool.bne_true, Bool.bne_false, Bool.true_bne, Bool.not_true, Bool.not_false, Bool.and_true, Bool.true_and, Bool.and_false, Bool.false_and, Bool.or_true, Bool.true_or, Bool.or_false, Bool.false_or, cond_true, cond_false, List.getElem?_toArray, List.getElem?_cons_zero, List.getElem?_cons_succ, Nat.zero_add, Nat.add_zero, Nat.reduceAdd, forall_const]
  rw [wi64 (by omega) (by omega)]
  exact ⟨⟨j + 1, by simp, by omega, hz11.tail⟩, by simp [RowKit.intOf]; omega⟩
theorem lChainStays {s : Sl (Int × Int × Sl UInt8 × (Vec 32 × Int × Sl UInt8))} (hc : Cub w) (hs0 : (rSl R_flurrylaw10_Op).ok w.heap s) : cal P f_law10_ChainStays [s.v] w fun r w' => r = .bool true ∧ Fr [] w w' := by
  obtain ⟨l, hr, hcap, h63, hok⟩ := ops_arg hs0
  exact wChainStays hr hcap h63 hok hc
end
end Go.Fx
namespace Go.Fx
theorem okWide_arr {P : Program} {w : World} {r : Reach} {base n : Nat} {t e : TypeId} {v : Value} (ht : P.underlying t = some (.array n e)) (h : Value.okWide P w r base t v) : ∃ cs, v = .agg cs ∧ cs.size = P.cellsOf t := by
  simp only [Value.okWide, ht] at h
  obtain ⟨cs, h1, h2, _⟩ := h
  exact ⟨cs, h1, h2⟩
end Go.Fx
namespace Go.Proofs.YtcnpediagjjnbaaDoor
open Go.ChangeShapes Go.WideShapes Go.ChangeAt Go.RowKit
theorem own : ownKnob Tryd.prog.godebug = none := by kernel_rfl
theorem laidOut : laidOutB Tryd.prog = true := by kernel_rfl
end Go.Proofs.YtcnpediagjjnbaaDoor
namespace Go.Proofs.YtcnpediagjjnbaaDoor
open Go.ChangeShapes Go.WideShapes Go.ChangeAt Go.RowKit
abbrev laidL : List (String × DataW Unit) := [("flurry/sha.cubes", Rows.laid_flurry_sha_cubes)]
theorem gCubes : Tryd.prog.globalNamed "flurry/sha.cubes" = some 0 := by kernel_rfl
theorem tCubes : (Tryd.prog.globals[0]?).map (·.type) = some Go.Fx.T_a64_uint32 := by kernel_rfl
theorem door_met (os : Os) (args : Array Value) : laidMetH Tryd.prog laidL ((World.doorLaid Tryd.prog 400 os).forCall (fun _ _ => 0) ⟨#[], args, []⟩).memory :=
  laidMetH_of_parts3 (fuel := 8) (laidMet_of_run' 8 (by kernel_rfl) (by kernel_rfl)) (by kernel_rfl) (by kernel_rfl)
theorem cub_of_laid {W : World} (h : laidMetH Tryd.prog laidL W) : Go.Fx.Cub W := by
  rw [MakeChecks.laidMetH_plain _ _ _ (by kernel_rfl)] at h
  obtain ⟨ps, ⟨g0, t0, cs0, f0, p0, q0, hg0, ht0, hv0, hd0, _, _⟩, _, _⟩ := h
  obtain rfl := Option.some.inj (gCubes.symm.trans hg0)
  obtain rfl := Option.some.inj (tCubes.symm.trans ht0)
  have hcs : cs0.toList = Go.Fx.wvs Go.Fx.cubesL := by
    obtain ⟨xs, m1, _, hx1, hlen, hn3, hel⟩ := DataW.trod_array Go.Fx.U_a64_uint32 hd0
    have c1 : Tryd.prog.cellsOf Go.Fx.T_uint32 = 1 := by kernel_rfl
    have c64 : Tryd.prog.cellsOf Go.Fx.T_a64_uint32 = 64 := by kernel_rfl
    rw [c64] at hlen
    rw [c1] at hel
    have hd : (Rows.laid_flurry_sha_cubes : DataW Unit) = .agg (Go.Fx.cubesL.map fun x => .lit (.int .u32 x.toNat)) := by kernel_rfl
    rw [hd] at hx1
    simp only [Prod.mk.injEq, DataW.agg.injEq] at hx1
    apply List.ext_getElem?
    intro i
    by_cases hi : i < 64
    · have h1 := hel i hi
      have hx : xs[i]? = some (xs[i]'(by omega)) := List.getElem?_eq_getElem _
      rw [hx] at h1
      generalize xs[i]'(by omega) = y at *
      obtain ⟨k, e1, e2, _⟩ := DataW.trod_int Go.Fx.U_uint32 h1
      have h2 := congrArg (·[i]?) hx1.1
      simp only [List.getElem?_map, hx, e2, Option.map_some] at h2
      have h3 : cs0.toList[i]? = some (.int .u32 k) := by
        have : ((cs0.toList.drop (i * 1)).take 1)[0]? = some (.int .u32 k) := by rw [e1]; rfl
        rw [List.getElem?_take_of_lt (by omega), List.getElem?_drop, Nat.mul_one, Nat.add_zero] at this
        exact this
      rw [h3, Go.Fx.wvs, List.getElem?_map]
      cases hc : Go.Fx.cubesL[i]? with
      | none => rw [hc] at h2; cases h2
      | some z =>
        rw [hc] at h2
        simp only [Option.map_some, Option.some.injEq, DataW.lit.injEq, Lit.int.injEq, true_and] at h2
        rw [Option.map_some, ← h2]
        rfl
    · rw [List.getElem?_eq_none (by omega), List.getElem?_eq_none (by rw [Go.Fx.wvs, List.length_map]; show 64 ≤ i; omega)]
  have hv1 := hv0
  unfold World.var? at hv1
  rw [hg0] at hv1
  simp only [Option.bind_some] at hv1
  cases hh : W.heap[0]? with
  | none => rw [hh] at hv1; cases hv1
  | some o =>
    rw [hh] at hv1
    cases o with
    | cells cs t fr =>
      simp only [Option.some.injEq] at hv1
      subst hv1
      refine ⟨t, fr, ?_⟩
      rw [hh]
      have : cs = (Go.Fx.wvs Go.Fx.cubesL).toArray := by apply Array.ext'; simpa using hcs
      rw [this]
    | _ => cases hv1
end Go.Proofs.YtcnpediagjjnbaaDoor
set_option linter.unusedVariables false
set_option linter.unusedSimpArgs false
namespace Go.Proofs.YtcnpediagjjnbaaDoor
open Go.ChangeShapes Go.WideShapes Go.ChangeAt Go.RowKit
set_option maxRecDepth 100000 in
theorem liftedChainStays (os : Os) (started : os.Started) (H : Type) (enc : TypeId × Value → H) :
    ReturnsInHanded {} Tryd.checked os 3 .any (fun w args => (Rows.chainStaysSpec.pre enc Tryd.prog Tryd.f3 [] false w args ∧ laidMetH Tryd.prog laidL w) ∧ sizedMet enc Tryd.prog Tryd.f3 (OpenSpec.ofChange Rows.chainStaysSpec) false w args) (Rows.chainStaysSpec.post enc Tryd.prog Tryd.f3 false true false false) := by
  refine returnsInHanded_of_change_and (C := Tryd.checked) (X := fun w _ => laidMetH Tryd.prog laidL w) (fun _ _ _ hh h => h.of_heap hh) own started (by kernel_rfl) Tryd.func3
    (ChangeSpec.witness_shaped (enc := enc) (C := Tryd.checked) (os := os) (X := fun w _ => laidMetH Tryd.prog laidL w) false (World.doorLaid Tryd.prog 400 os) #[.slice none 0 0] 8 rfl (World.shaped_of_RefB (by kernel_rfl) (by kernel_rfl)) (by kernel_rfl) (by kernel_rfl) (by kernel_rfl) (door_met os _)) ?_
  intro W base args ds gs before hval0 hW _ _ hL _
  have hcub : Go.Fx.Cub W := cub_of_laid hL
  have hval : ∀ (j : Nat) t v, Tryd.f3.params[j]? = some t → args[j]? = some v → Value.okWide Tryd.prog W .any base t v := hval0
  have hW' := hW
  obtain ⟨p, q, hA0, hV, rfl, hfz, hnd⟩ := hW
  have hA : DataW.TrodAll enc Tryd.prog W 0 (fun _ => true) true Tryd.f3.params.toList args.toList ds p := hA0
  rw [Tryd.params3] at hA hval
  obtain ⟨v0, vs0, d0, ds0, p0, q0, hargs, rfl, rfl, h0, r0⟩ := trodAll_cons hA
  obtain ⟨rfl, rfl, rfl⟩ := trodAll_nil r0
  obtain rfl : args = #[v0] := by cases args; simp_all
  obtain ⟨rfl, rfl⟩ := trodVars_none hV
  obtain ⟨a0, len0, cap0, rfl⟩ := okWide_slice Tryd.underlying22 (hval 0 22 v0 rfl rfl)
  have k0 := h0
  have lt0 : ∀ x ∈ p0, x.block < W.heap.size := by obtain ⟨m, hm⟩ := k0; exact DataW.trod_lt m _ _ _ hm
  obtain ⟨f0, hf0⟩ := h0
  have hx0 := Go.Fx.O_sl_flurrylaw10_Op hf0
  obtain ⟨l0, rd0⟩ := hx0
  clear hA0 hval0
  have hcal := Go.Fx.lChainStays hcub rd0
  refine Calls.mono hcal fun e W' ⟨v, he, hv, hf⟩ => ?_
  subst hv
  subst he
  have bel : Below W.heap.size W W' := hf.below (by simp)
  exact ⟨_, rfl, _, _, _, [], _, [], hW', trodAll_mk1 (shut_bool Tryd.underlying4 _), (trodAll_cons_mk (Below.trod laidOut (by kernel_rfl) (of_decide_eq_true (by kernel_rfl)) k0 bel lt0) trodAll_mk0), rfl, bel.frame _, fun h => by cases h⟩
theorem chainStays : Rows.ChainStaysSaid :=
  OpenClaim.holds_of_wide 3 Tryd.f3 rfl rfl rfl rfl rfl rfl rfl ⟨rfl, rfl, rfl, rfl, rfl⟩ rfl rfl rfl rfl rfl (by kernel_rfl) Tryd.func3 (by kernel_rfl)
    (of_decide_eq_true (by kernel_rfl)) (by unfold Func.isWrapper; first | (rw [if_pos (by decide +kernel)]; kernel_rfl) | (rw [if_neg (by decide +kernel)]; exact ⟨rfl, rfl⟩))
    (fun os started H enc _ => liftedChainStays os started H enc)
theorem chainStaysCard : Rows.ChainStaysCardSaid :=
  Claim7.holds_tied_plain_at .later [] [.data] true (true, "c83371658870c949f76b811468b20a9b244050ba1db075bfa9639a34adfea364") false
    chainStays (fun _ h => by cases h) (by kernel_rfl) (fun _ h => by cases h) chainStays_row_tie rfl ⟨rfl, rfl⟩ (by kernel_rfl) rfl
    (fun f fn hf hfn => by
      obtain rfl : f = 3 := Option.some.inj ((show Tryd.prog.funcNamed "flurry/flurrylaw10.ChainStays" = some 3 by kernel_rfl).symm.trans hf) |>.symm
      obtain rfl : fn = Tryd.f3 := (Option.some.inj (Tryd.func3.symm.trans hfn)).symm
      exact ⟨by kernel_rfl, fun j t ht => by
        rw [Tryd.params3] at ht
        have hm : t ∈ [22] := by simpa using Array.mem_of_getElem? ht
        have hall : ([22].all fun u => !Tryd.prog.wantsStandIn u) = true := by kernel_rfl
        exact (show Tryd.prog.wantsStandIn t = false by simpa using List.all_eq_true.1 hall t hm)⟩)
    (by kernel_rfl)
#print axioms chainStaysCard
end Go.Proofs.YtcnpediagjjnbaaDoor
