/-
  The message of bytes: the document's, walked.
-/
import Derived.Test.YtaodibbogbkgdaaMgN
set_option linter.unusedVariables false
set_option linter.unusedSimpArgs false
namespace Go.Fx
theorem RdB.mid {h : Heap} {av : Option Addr} {cv i j : Nat} {l : List UInt8} (hr : RdB h (.slice av l.length cv) l) (hc : l.length ≤ cv) (hi : i ≤ j) (hj : j ≤ l.length) : RdB h (.slice (if cv = i then av else av.map (·.add (i * 1))) (j - i) (cv - i)) ((l.drop i).take (j - i)) :=
  (hr.drop (k := i) (by omega) hc (cv - i)).take (k := j - i) (by omega) (cv - i)
theorem part_full {o : List UInt8} {n : Nat} (h : o.length = n) : part o n = o := by subst h; exact part_all
section
variable {w0 w : World} {As : List Asn} {v : Value} {l : List UInt8}
theorem mrParse_spec (hb : RdB w.heap v l) (hcap : capOk v) (hl : l.length ≤ 100000) : cal P f_ref04_Parse [v] w fun r w' => ∃ m e iv bv L, r = .tuple #[mq m iv bv, .int .i64 e] ∧ IsParse l m e ∧ L.map (·.l) = m.bs ∧ Sep w w' (mown m iv bv L) := by
  refine s_ref04_Parse fun R hR => ?_
  unfold c_ref04_Parse
  obtain ⟨av, cv, rfl⟩ := hb.form
  have hcv : l.length ≤ cv := hcap _ _ _ rfl
  refine alloc_s (Sep.start w) (A_api_Msg w) fun g2 w1 hs1 => ?_
  have bad : ∀ {z : World} {Bs : List Asn}, Sep w z (zb g2 :: Bs) → IsParse l Msg.zero 40 → rdP P (Instr.build T_api_Msg #[]) z fun t52 => stN 4 (.pointer (some ⟨g2, 0, none⟩)) t52 z fun w => ldN 4 (.pointer (some ⟨g2, 0, none⟩)) w.heap fun r1 => R (.tuple #[r1, .int .i64 40]) w := fun {z Bs} h hp => by
    rw [B_api_Msg]
    refine St_api_Msg h (one_api_Msg rfl rfl) fun w10 hs10 => ?_
    simp only [L_api_Msg hs10.blk, L_api_Msg__Kind hs10.blk, L_api_Msg__Req hs10.blk, L_api_Msg__IDs hs10.blk, L_api_Msg__Blocks hs10.blk]
    exact hR _ _ ⟨Msg.zero, 40, _, _, [], rfl, hp, rfl, ((Sep.start w).old hs10.fr0).nilR.nilR⟩
  simp only [nilc_some, fad_mk, pik_true, pik_false, cnd_true, cnd_false, gif_same, gif_tf, gif_ft, gif_undef, bi_add, bi_sub, bi_mul, bi_eql, bi_neq, bi_lss, bi_leq, bi_gtr, bi_geq, notB_bool, cvi_int, lenS_mk, lenT_mk, ext0, ext1, ext2, nilP_mk, nilS_mk, fldv_agg, jn0_k, jn1_k, jn2_k, jn1_and, jn1_or, ex_some, Option.isNone_some, Option.isNone_none, Bool.false_bne, Bool.bne_true, Bool.bne_false, Bool.true_bne, Bool.not_true, Bool.not_false, Bool.and_true, Bool.true_and, Bool.and_false, Bool.false_and, Bool.or_true, Bool.true_or, Bool.or_false, Bool.false_or, cond_true, cond_false, List.getElem?_toArray, List.getElem?_cons_zero, List.getElem?_cons_succ, Nat.zero_add, Nat.add_zero, Nat.reduceAdd, forall_const, hb.len]
  rw [cnd_bool]
  refine ⟨fun h => ?_, fun h => ?_⟩
  · have h : l.length < 5 := by simp at h; omega
    exact bad hs1 (short_no h)
  have h5 : 5 ≤ l.length := by simp at h; omega
  obtain ⟨k, hk⟩ : ∃ k : Int, k = ((l[0]'(by omega)).toNat : Int) := ⟨_, rfl⟩
  obtain ⟨q, hq⟩ : ∃ q : Int, q = numM l 1 := ⟨_, rfl⟩
  refine drH_S hs1 fun w2 hs2 _ => ?_
  refine ⟨fun t w' => ∃ g4, t = .pointer (some ⟨g4, 0, none⟩) ∧ Sep w w' [blk g4 (Rdr.cells Q_api_Msg (k, q, Value.slice none 0 0, Value.slice none 0 0)).toArray T_api_Msg, zb g2], ?_, ?_⟩
  · change ixs _ _ _ _
    refine ldxB_S hs2 (fun u hu => hu.rdB hb) (j := 0) (by omega) ?_
    have e : IntKind.i64.wrap ((l[0]'(by omega)).toNat : Int) = k := by
      have := (l[0]'(by omega)).toNat_lt
      rw [wi64 (by omega) (by omega), hk]
    rw [Go.Fx.bv, cvi_int, e]
    refine ⟨efS_i (cal_i (num_spec (hs2.rdB hb) hl 1 (by omega)) ?_), efS_i (alloc_s hs2 (A_api_Msg w2) fun g4 w3 hs3 => ⟨hs3.tail, efS_i (cal_i (num_spec (hs3.rdB hb) hl 1 (by omega)) ?_)⟩), trivial⟩
    · rintro _ w3 ⟨rfl, hf⟩
      have hs3 := hs2.old hf
      rw [← hq]
      refine ⟨hs3, ⟨_, fun u _ => (B_api_Msg_0_1 _).mpr rfl, ?_⟩⟩
      refine efS_i (alloc_s hs3 (A_api_Msg w3) fun g4 w4 hs4 => ⟨hs4.tail, ?_⟩)
      refine efC_stN (St_api_Msg hs4 (one_api_Msg rfl rfl) fun w6 hs6 => ⟨g4, rfl, hs6⟩)
    · rintro _ w4 ⟨rfl, hf⟩
      have hs4 := hs3.old hf
      rw [← hq]
      refine ⟨hs4.tail, ⟨_, fun u _ => (B_api_Msg_0_1 _).mpr rfl, ?_⟩⟩
      refine efC_stN (St_api_Msg hs4 (one_api_Msg rfl rfl) fun w6 hs6 => ⟨g4, rfl, hs6⟩)
  · rintro _ w3 ⟨g4, rfl, hs3⟩ _
    simp only [nilc_some, fad_mk, pik_true, pik_false, cnd_true, cnd_false, gif_same, gif_tf, gif_ft, gif_undef, bi_add, bi_sub, bi_mul, bi_eql, bi_neq, bi_lss, bi_leq, bi_gtr, bi_geq, notB_bool, cvi_int, lenS_mk, lenT_mk, ext0, ext1, ext2, nilP_mk, nilS_mk, fldv_agg, jn0_k, jn1_k, jn2_k, jn1_and, jn1_or, ex_some, Option.isNone_some, Option.isNone_none, Bool.false_bne, Bool.bne_true, Bool.bne_false, Bool.true_bne, Bool.not_true, Bool.not_false, Bool.and_true, Bool.true_and, Bool.and_false, Bool.false_and, Bool.or_true, Bool.true_or, Bool.or_false, Bool.false_or, cond_true, cond_false, List.getElem?_toArray, List.getElem?_cons_zero, List.getElem?_cons_succ, Nat.zero_add, Nat.add_zero, Nat.reduceAdd, forall_const, L_api_Msg hs3.blk, L_api_Msg__Kind hs3.blk, L_api_Msg__Req hs3.blk, L_api_Msg__IDs hs3.blk, L_api_Msg__Blocks hs3.blk]
    refine cal_i (rbears_spec k) ?_
    rintro _ _ ⟨rfl, rfl⟩
    simp only [nilc_some, fad_mk, pik_true, pik_false, cnd_true, cnd_false, gif_same, gif_tf, gif_ft, gif_undef, bi_add, bi_sub, bi_mul, bi_eql, bi_neq, bi_lss, bi_leq, bi_gtr, bi_geq, notB_bool, cvi_int, lenS_mk, lenT_mk, ext0, ext1, ext2, nilP_mk, nilS_mk, fldv_agg, jn0_k, jn1_k, jn2_k, jn1_and, jn1_or, ex_some, Option.isNone_some, Option.isNone_none, Bool.false_bne, Bool.bne_true, Bool.bne_false, Bool.true_bne, Bool.not_true, Bool.not_false, Bool.and_true, Bool.true_and, Bool.and_false, Bool.false_and, Bool.or_true, Bool.true_or, Bool.or_false, Bool.false_or, cond_true, cond_false, List.getElem?_toArray, List.getElem?_cons_zero, List.getElem?_cons_succ, Nat.zero_add, Nat.add_zero, Nat.reduceAdd, forall_const]
    refine ⟨fun x y w' => ∃ N a : Nat, x = .int .i64 N ∧ y = .int .i64 a ∧ N ≤ 32 ∧ a ≤ l.length ∧ Fit l N a 0 ⟨k, q, [], []⟩ ∧ Sep w w' [blk g4 (Rdr.cells Q_api_Msg (k, q, Value.slice none 0 0, Value.slice none 0 0)).toArray T_api_Msg, zb g2], ?_, ?_⟩
    · change cnd _ _ _
      rw [cnd_bool]
      refine ⟨fun hc => ?_, fun hc => ?_⟩
      · have hc : (bearsR k).2.2 = 2 ∨ (bearsR k).2.2 = 4 := by simpa using hc
        refine cal_i (num_spec (hs3.rdB hb) hl 5 (by omega)) ?_
        rintro _ w4 ⟨rfl, hf⟩
        have hs4 := hs3.old hf
        simp only [nilc_some, fad_mk, pik_true, pik_false, cnd_true, cnd_false, gif_same, gif_tf, gif_ft, gif_undef, bi_add, bi_sub, bi_mul, bi_eql, bi_neq, bi_lss, bi_leq, bi_gtr, bi_geq, notB_bool, cvi_int, lenS_mk, lenT_mk, ext0, ext1, ext2, nilP_mk, nilS_mk, fldv_agg, jn0_k, jn1_k, jn2_k, jn1_and, jn1_or, ex_some, Option.isNone_some, Option.isNone_none, Bool.false_bne, Bool.bne_true, Bool.bne_false, Bool.true_bne, Bool.not_true, Bool.not_false, Bool.and_true, Bool.true_and, Bool.and_false, Bool.false_and, Bool.or_true, Bool.true_or, Bool.or_false, Bool.false_or, cond_true, cond_false, List.getElem?_toArray, List.getElem?_cons_zero, List.getElem?_cons_succ, Nat.zero_add, Nat.add_zero, Nat.reduceAdd, forall_const]
        rw [cnd_bool]
        refine ⟨fun hn => ?_, fun hn => ?_⟩
        · refine bad hs4.p1 (.inr ⟨rfl, rfl, fun n hn' hb' => ?_⟩)
          obtain ⟨_, _, e3, e4, _⟩ := Fit.count h5 hk hq hc hn' hb'
          simp only [Bool.or_eq_true, decide_eq_true_eq] at hn
          omega
        · simp only [Bool.or_eq_false_iff, decide_eq_false_iff_not] at hn
          have h32 : (bearsR k).2.1 ≤ 32 := by
            unfold bearsR at *
            repeat' split
            all_goals simp
          have h9 : 9 ≤ l.length := by
            refine Nat.le_of_not_lt fun h9 => hn.1 ?_
            unfold numM
            rw [if_pos (by omega)]
            decide
          refine ⟨(numM l 5).toNat, 9, by congr 1; omega, rfl, by omega, h9, Fit.startN h5 hk hq hc (by omega), hs4⟩
      · have hc : ¬ ((bearsR k).2.2 = 2 ∨ (bearsR k).2.2 = 4) := by simpa using hc
        have h32 : (bearsR k).2.1 ≤ 32 := by
          unfold bearsR
          repeat' split
          all_goals simp
        exact ⟨_, 5, rfl, rfl, h32, h5, Fit.start h5 hk hq hc, hs3⟩
    · rintro _ _ w4 ⟨N, a, rfl, rfl, hN, ha, hF, hs4⟩ _
      refine ⟨fun x y w' => ∃ (a i : Nat) (m : Msg) (iv bv : Value) (L : List (Sl UInt8)), x = .int .i64 a ∧ y = .int .i64 i ∧ a ≤ l.length ∧ i ≤ N ∧ m.k = k ∧ m.ids.length ≤ i ∧ m.bs.length ≤ i ∧ Fit l N a i m ∧ L.map (·.l) = m.bs ∧
          Sep w w' (rows (rVec 32) iv m.ids :: rows qv bv (L.map (·.v)) :: mb g4 m iv bv :: (L.map oB ++ [zb g2])), fun _ y _ => (N - RowKit.intOf y).toNat,
        ⟨a, 0, ⟨k, q, [], []⟩, _, _, [], rfl, rfl, ha, by omega, rfl, by simp, by simp, hF, rfl, hs4.nilR.nilR⟩, ?_⟩
      rintro _ _ w5 ⟨a, i, m, iv, bv, L, rfl, rfl, ha, hi, hmk, hml, hmb, hF, hL, hs5⟩ -
      have hLl : L.length ≤ 32 := by have := congrArg List.length hL; rw [List.length_map] at this; omega
      have hhow : m.how = (bearsR k).2.2 := by unfold Msg.how; rw [hmk]
      rw [← hhow]
      simp only [nilc_some, fad_mk, pik_true, pik_false, cnd_true, cnd_false, gif_same, gif_tf, gif_ft, gif_undef, bi_add, bi_sub, bi_mul, bi_eql, bi_neq, bi_lss, bi_leq, bi_gtr, bi_geq, notB_bool, cvi_int, lenS_mk, lenT_mk, ext0, ext1, ext2, nilP_mk, nilS_mk, fldv_agg, jn0_k, jn1_k, jn2_k, jn1_and, jn1_or, ex_some, Option.isNone_some, Option.isNone_none, Bool.false_bne, Bool.bne_true, Bool.bne_false, Bool.true_bne, Bool.not_true, Bool.not_false, Bool.and_true, Bool.true_and, Bool.and_false, Bool.false_and, Bool.or_true, Bool.true_or, Bool.or_false, Bool.false_or, cond_true, cond_false, List.getElem?_toArray, List.getElem?_cons_zero, List.getElem?_cons_succ, Nat.zero_add, Nat.add_zero, Nat.reduceAdd, forall_const, hb.len]
      rw [cnd_bool]
      refine ⟨fun hc => ?_, fun hc => ?_⟩
      · simp only [Bool.and_eq_true, decide_eq_true_eq] at hc
        have hlt : i < N := by omega
        refine ⟨fun x w' => ∃ (a : Nat) (m : Msg) (iv bv : Value) (L : List (Sl UInt8)), x = .int .i64 a ∧ a ≤ l.length ∧ m.k = k ∧ m.ids.length ≤ i + 1 ∧ m.bs.length ≤ i + 1 ∧ Fit l N a (i + 1) m ∧ L.map (·.l) = m.bs ∧
          Sep w w' (rows (rVec 32) iv m.ids :: rows qv bv (L.map (·.v)) :: mb g4 m iv bv :: (L.map oB ++ [zb g2])), ?_, ?_⟩
        · change cnd _ _ _
          rw [cnd_bool]
          refine ⟨fun hk3 => ?_, fun hk3 => ?_⟩
          · have hk3 : m.how < 3 := by simpa using hk3
            rw [cnd_bool]
            refine ⟨fun h32 => ?_, fun h32 => ?_⟩
            · rw [wi64 (by omega) (by omega)] at h32
              exact bad (Sep.mid (As := rows (rVec 32) iv m.ids :: rows qv bv (L.map fun s : Sl UInt8 => s.v) :: mb g4 m iv bv :: L.map oB) (A := zb g2) (Bs := []) hs5) (Fit.nameS hF hk3 hlt (by simp at h32; omega))
            · rw [wi64 (by omega) (by omega)] at h32
              have ha32 : a + 32 ≤ l.length := by simp at h32; omega
              obtain ⟨x, hx⟩ : ∃ x : Vec 32, x.1 = (l.drop a).take 32 := ⟨⟨(l.drop a).take 32, by simp; omega⟩, rfl⟩
              have hx2 := x.2
              refine alloc_s hs5 (A_api_ID w5) fun g11 w6 hs6 => ?_
              refine ⟨fun y w' => ∃ (j : Nat) (p : Vec 32), y = .int .i64 j ∧ j ≤ 32 ∧ p.1 = part x.1 j ∧ Sep w w' (blk g11 (Rdr.cells (rVec 32) p).toArray T_api_ID :: rows (rVec 32) iv m.ids :: rows qv bv (L.map (·.v)) :: mb g4 m iv bv :: (L.map oB ++ [zb g2])), fun y _ => (32 - RowKit.intOf y).toNat,
                ⟨0, vz 32, rfl, by omega, by rw [part_zero, hx2]; rfl, hs6⟩, ?_⟩
              rintro _ w7 ⟨j, p, rfl, hj, hp, hs7⟩ -
              simp only [nilc_some, fad_mk, pik_true, pik_false, cnd_true, cnd_false, gif_same, gif_tf, gif_ft, gif_undef, bi_add, bi_sub, bi_mul, bi_eql, bi_neq, bi_lss, bi_leq, bi_gtr, bi_geq, notB_bool, cvi_int, lenS_mk, lenT_mk, ext0, ext1, ext2, nilP_mk, nilS_mk, fldv_agg, jn0_k, jn1_k, jn2_k, jn1_and, jn1_or, ex_some, Option.isNone_some, Option.isNone_none, Bool.false_bne, Bool.bne_true, Bool.bne_false, Bool.true_bne, Bool.not_true, Bool.not_false, Bool.and_true, Bool.true_and, Bool.and_false, Bool.false_and, Bool.or_true, Bool.true_or, Bool.or_false, Bool.false_or, cond_true, cond_false, List.getElem?_toArray, List.getElem?_cons_zero, List.getElem?_cons_succ, Nat.zero_add, Nat.add_zero, Nat.reduceAdd, forall_const]
              rw [cnd_bool]
              refine ⟨fun h => ?_, fun h => ?_⟩
              · have hj32 : j < 32 := by simp at h; omega
                have e : IntKind.i64.wrap ((a : Int) + (j : Int)) = ((a + j : Nat) : Int) := by rw [wi64 (by omega) (by omega)]; omega
                rw [e]
                refine ldxB (hs7.rdB hb) (by omega) ?_
                rw [ixa_w .i64 hj32]
                have hby : x.1[j]? = some (l[a + j]'(by omega)) := by
                  rw [hx, List.getElem?_take_of_lt hj32, List.getElem?_drop, List.getElem?_eq_getElem (by omega)]
                have hs7' : Sep w w7 (blk g11 (bvs (part x.1 j)).toArray T_api_ID :: rows (rVec 32) iv m.ids :: rows qv bv (L.map (·.v)) :: mb g4 m iv bv :: (L.map oB ++ [zb g2])) := by rw [← hp]; exact hs7
                refine st_b hs7' hby fun w8 hs8 => ?_
                rw [wi64 (by omega) (by omega)]
                exact ⟨⟨j + 1, ⟨part x.1 (j + 1), by rw [part_len _ (by omega), hx2]⟩, by simp, by omega, rfl, hs8⟩, by simp [RowKit.intOf]; omega⟩
              · have hj32 : j = 32 := by simp at h; omega
                subst hj32
                have hpx : p = x := Subtype.ext (by rw [hp]; exact part_full hx2)
                subst hpx
                have q4 := hs7.memB (g := g4) (o := .cells (Rdr.cells Q_api_Msg (m.k, m.q, iv, bv)).toArray T_api_Msg (0, 0)) (by simp)
                simp only [L_api_Msg q4, L_api_Msg__Kind q4, L_api_Msg__Req q4, L_api_Msg__IDs q4, L_api_Msg__Blocks q4]
                rw [L_api_ID hs7.blk]
                refine rows_lit hs7 S_sl_api_ID (l := [p]) (V := fun a => .agg (Rdr.cells (rVec 32) a).toArray) (fun a => rfl) rfl rfl (by decide) (by decide) fun g8 w8 hs8 => ?_
                refine rows_app S_sl_api_ID U_sl_api_ID (by simp) (hs8.pick [2, 0, 3, 4] 5) (Sep.rows hs8) ?_ (by simp; omega) (by simp; omega) fun v9 w9 hs9 => ?_
                · simp only [List.flatMap_cons, List.flatMap_nil, List.append_nil]
                  exact oneVec
                refine St_api_Msg__IDs (b := v9) (hs9.pick [3, 0, 2] 4) (Sep.oneR hs9) fun w10 hs10 => ?_
                rw [wi64 (by omega) (by omega)]
                exact ⟨a + 32, { m with ids := m.ids ++ [p] }, v9, bv, L, by simp, by omega, hmk, by simp; omega, by simp; omega, Fit.nameN hF hk3 hlt hx, hL, hs10.pick [1, 2, 0] 3⟩
          · have hk3 : 3 ≤ m.how := by simp at hk3; omega
            refine cal_i (num_spec (hs5.rdB hb) hl a (by omega)) ?_
            rintro _ w6 ⟨rfl, hf⟩
            have hs6 := hs5.old hf
            have e1 : IntKind.i64.wrap (IntKind.i64.wrap ((l.length : Int) - (a : Int)) - 4) = (l.length : Int) - a - 4 := by
              rw [wi64 (x := (l.length : Int) - (a : Int)) (by omega) (by omega), wi64 (by omega) (by omega)]
            have e2 : IntKind.i64.wrap ((a : Int) + 4) = ((a + 4 : Nat) : Int) := by rw [wi64 (by omega) (by omega)]; omega
            rw [e1, e2]
            simp only [nilc_some, fad_mk, pik_true, pik_false, cnd_true, cnd_false, gif_same, gif_tf, gif_ft, gif_undef, bi_add, bi_sub, bi_mul, bi_eql, bi_neq, bi_lss, bi_leq, bi_gtr, bi_geq, notB_bool, cvi_int, lenS_mk, lenT_mk, ext0, ext1, ext2, nilP_mk, nilS_mk, fldv_agg, jn0_k, jn1_k, jn2_k, jn1_and, jn1_or, ex_some, Option.isNone_some, Option.isNone_none, Bool.false_bne, Bool.bne_true, Bool.bne_false, Bool.true_bne, Bool.not_true, Bool.not_false, Bool.and_true, Bool.true_and, Bool.and_false, Bool.false_and, Bool.or_true, Bool.true_or, Bool.or_false, Bool.false_or, cond_true, cond_false, List.getElem?_toArray, List.getElem?_cons_zero, List.getElem?_cons_succ, Nat.zero_add, Nat.add_zero, Nat.reduceAdd, forall_const]
            rw [cnd_bool]
            refine ⟨fun hn => ?_, fun hn => ?_⟩
            · simp only [Bool.or_eq_true, decide_eq_true_eq] at hn
              exact bad (Sep.mid (As := rows (rVec 32) iv m.ids :: rows qv bv (L.map fun s : Sl UInt8 => s.v) :: mb g4 m iv bv :: L.map oB) (A := zb g2) (Bs := []) hs6) (Fit.blockS hF hk3 hlt (by omega))
            · simp only [Bool.or_eq_false_iff, decide_eq_false_iff_not] at hn
              obtain ⟨c, hnc⟩ : ∃ c : Nat, numM l a = (c : Int) := ⟨(numM l a).toNat, by omega⟩
              rw [hnc] at hn ⊢
              have hac : a + 4 + c ≤ l.length := by omega
              have e3 : IntKind.i64.wrap (((a + 4 : Nat) : Int) + (c : Int)) = ((a + 4 + c : Nat) : Int) := by rw [wi64 (by omega) (by omega)]; omega
              have e4 : IntKind.i64.wrap ((a : Int) + IntKind.i64.wrap (4 + (c : Int))) = ((a + (4 + c) : Nat) : Int) := by rw [wi64 (x := 4 + (c : Int)) (by omega) (by omega), wi64 (by omega) (by omega)]; omega
              obtain ⟨Bs, hBs⟩ : ∃ Bs, Bs = rows (rVec 32) iv m.ids :: rows qv bv (L.map (·.v)) :: mb g4 m iv bv :: (L.map oB ++ [zb g2]) := ⟨_, rfl⟩
              have q4 : ∀ {z : World}, Sep w z Bs → z.heap[g4]? = some (.cells (Rdr.cells Q_api_Msg (m.k, m.q, iv, bv)).toArray T_api_Msg (0, 0)) := fun {z} h => h.memB (by rw [hBs]; simp)
              rw [← hBs] at hs6
              refine drH_S hs6 fun w7 hs7 _ => ?_
              refine rdS_ld (v := bv) (fun u hu K hk => (L_api_Msg__Blocks (q4 hu) K).mpr hk) ?_
              rw [e3, slc_mid (by omega) (by omega)]
              refine efS_i (appB_s S_sl_uint8 U_sl_uint8 (by simp) hs7.nil (RdB.mid (hs7.rdB hb) hcv (by omega) hac) (by simp; omega) fun v8 w8 hs8 => ⟨hs8.tail, ?_⟩)
              rw [List.nil_append] at hs8
              have hbd := one_build w8 v8 (Sep.one hs8)
              refine efS_i (rows_build (q := qv) (l := [v8]) hs8 rfl hbd fun g9 w9 hs9 => ⟨hs9.tail.tail, ?_⟩)
              rw [hBs] at hs9
              refine efC_efP (rows_app S_sl_sl_uint8 U_sl_sl_uint8 (by simp) (hs9.pick [3, 0, 1, 2, 4] 5) (Sep.rows hs9) ?_ (by simp; omega) (by simp; omega) fun v10 w10 hs10 => ?_)
              · simp only [List.flatMap_cons, List.flatMap_nil, List.append_nil]
                exact oneV (Sep.one hs9.p1)
              refine efC_st1 (St_api_Msg__Blocks (b := v10) (hs10.pick [4, 0, 2, 3] 5) (Sep.oneR hs10) fun w11 hs11 => ?_)
              rw [e4]
              refine ⟨a + (4 + c), { m with bs := m.bs ++ [(l.drop (a + 4)).take (a + 4 + c - (a + 4))] }, iv, v10, L ++ [⟨v8, (l.drop (a + 4)).take (a + 4 + c - (a + 4))⟩], rfl, by omega, hmk, by simp; omega, by simp; omega, ?_, by simp [hL], ?_⟩
              · exact Fit.blockN hF hk3 hlt hnc (by rw [Nat.add_sub_cancel_left])
              · have h1 := hs11.pick [2, 3, 1, 0] 4
                have := Sep.put (f := oB) (s := ⟨v8, (l.drop (a + 4)).take (a + 4 + c - (a + 4))⟩) (Xs := [rows (rVec 32) iv m.ids, rows qv v10 (L.map (·.v) ++ [v8]), mb g4 m iv v10]) (L := L) (T := [zb g2]) h1
                simpa using this
        · rintro _ w6 ⟨a, m, iv, bv, L, rfl, h1, h2, h3, h4, h5, h6, h7⟩ _
          rw [wi64 (by omega) (by omega)]
          exact ⟨⟨a, i + 1, m, iv, bv, L, rfl, by simp, h1, by omega, h2, h3, h4, h5, h6, h7⟩, by simp [RowKit.intOf]; omega⟩
      · have he : N ≤ i ∨ m.how < 0 := by
          simp only [Bool.and_eq_false_iff, decide_eq_false_iff_not] at hc
          omega
        have hp := Fit.parse hF he
        have q4 := hs5.memB (g := g4) (o := .cells (Rdr.cells Q_api_Msg (m.k, m.q, iv, bv)).toArray T_api_Msg (0, 0)) (by simp)
        simp only [L_api_Msg q4, L_api_Msg__Kind q4, L_api_Msg__Req q4, L_api_Msg__IDs q4, L_api_Msg__Blocks q4]
        have hs6 := (hs5.pick [2, 0, 1] 3).tail
        refine cal_i (mrBytes_spec (mown_rd (Bs := [zb g2]) hs6 hL.symm) (by omega)) ?_
        rintro _ w6 ⟨s, rfl, hs7⟩
        replace hs7 := hs5.join hs7
        have hz := hs7.pick [3, 0, 1, 2] 4
        simp only [nilc_some, fad_mk, pik_true, pik_false, cnd_true, cnd_false, gif_same, gif_tf, gif_ft, gif_undef, bi_add, bi_sub, bi_mul, bi_eql, bi_neq, bi_lss, bi_leq, bi_gtr, bi_geq, notB_bool, cvi_int, lenS_mk, lenT_mk, ext0, ext1, ext2, nilP_mk, nilS_mk, fldv_agg, jn0_k, jn1_k, jn2_k, jn1_and, jn1_or, ex_some, Option.isNone_some, Option.isNone_none, Bool.false_bne, Bool.bne_true, Bool.bne_false, Bool.true_bne, Bool.not_true, Bool.not_false, Bool.and_true, Bool.true_and, Bool.and_false, Bool.false_and, Bool.or_true, Bool.true_or, Bool.or_false, Bool.false_or, cond_true, cond_false, List.getElem?_toArray, List.getElem?_cons_zero, List.getElem?_cons_succ, Nat.zero_add, Nat.add_zero, Nat.reduceAdd, forall_const]
        by_cases hok : m.ok
        · have h0 : m.chk = 0 := Msg.chk_ok.2 hok
          have hout : m.out = m.bytes := if_pos hok
          rw [hout] at hs7
          rw [h0]
          simp only [nilc_some, fad_mk, pik_true, pik_false, cnd_true, cnd_false, gif_same, gif_tf, gif_ft, gif_undef, bi_add, bi_sub, bi_mul, bi_eql, bi_neq, bi_lss, bi_leq, bi_gtr, bi_geq, notB_bool, cvi_int, lenS_mk, lenT_mk, ext0, ext1, ext2, nilP_mk, nilS_mk, fldv_agg, jn0_k, jn1_k, jn2_k, jn1_and, jn1_or, ex_some, Option.isNone_some, Option.isNone_none, Bool.false_bne, Bool.bne_true, Bool.bne_false, Bool.true_bne, Bool.not_true, Bool.not_false, Bool.and_true, Bool.true_and, Bool.and_false, Bool.false_and, Bool.or_true, Bool.true_or, Bool.or_false, Bool.false_or, cond_true, cond_false, List.getElem?_toArray, List.getElem?_cons_zero, List.getElem?_cons_succ, Nat.zero_add, Nat.add_zero, Nat.reduceAdd, forall_const, show ((0 : Int) != 0) = false from rfl]
          refine jn1_dup ?_
          rw [rdP_eq (conv_str UT_bytes UT_uint8 UT_string hs7.rd), rdP_eq (conv_str UT_bytes UT_uint8 UT_string (hs7.rdB hb)), neS_str]
          intro _
          have hs8 := Sep.mid (As := ownB s m.bytes :: rows (rVec 32) iv m.ids :: rows qv bv (L.map fun s : Sl UInt8 => s.v) :: mb g4 m iv bv :: L.map oB) (A := zb g2) (Bs := []) hs7
          rw [cnd_bool]
          refine ⟨fun hne => ?_, fun heq => ?_⟩
          · have hne : ¬ m.bytes = l := by simpa using hne
            rw [if_neg (fun h => hne h.2), if_neg (fun h => hne h.2)] at hp
            exact bad hs8 hp
          · have heq : m.bytes = l := by simpa using heq
            rw [if_pos ⟨hok, heq⟩, if_pos ⟨hok, heq⟩] at hp
            have q4 := hs8.memB (g := g4) (o := .cells (Rdr.cells Q_api_Msg (m.k, m.q, iv, bv)).toArray T_api_Msg (0, 0)) (by simp)
            simp only [L_api_Msg q4, L_api_Msg__Kind q4, L_api_Msg__Req q4, L_api_Msg__IDs q4, L_api_Msg__Blocks q4]
            refine St_api_Msg (b := (m.k, m.q, iv, bv)) hs8 (one_api_Msg (Sep.oneR (hs8.pick [2] 3)) (Sep.oneR (hs8.pick [3] 4))) fun w8 hs9 => ?_
            simp only [L_api_Msg hs9.blk, L_api_Msg__Kind hs9.blk, L_api_Msg__Req hs9.blk, L_api_Msg__IDs hs9.blk, L_api_Msg__Blocks hs9.blk]
            exact hR _ _ ⟨m, 0, iv, bv, L, rfl, hp, hL, Sep.dropR (As := rows (rVec 32) iv m.ids :: rows qv bv (L.map fun s : Sl UInt8 => s.v) :: L.map oB) (Bs := []) (hs9.pick [2, 3] 5)⟩
        · have h0 : m.chk = 40 := by rw [Msg.chk, if_neg hok]
          rw [if_neg (fun h => hok h.1), if_neg (fun h => hok h.1)] at hp
          rw [h0]
          simp only [nilc_some, fad_mk, pik_true, pik_false, cnd_true, cnd_false, gif_same, gif_tf, gif_ft, gif_undef, bi_add, bi_sub, bi_mul, bi_eql, bi_neq, bi_lss, bi_leq, bi_gtr, bi_geq, notB_bool, cvi_int, lenS_mk, lenT_mk, ext0, ext1, ext2, nilP_mk, nilS_mk, fldv_agg, jn0_k, jn1_k, jn2_k, jn1_and, jn1_or, ex_some, Option.isNone_some, Option.isNone_none, Bool.false_bne, Bool.bne_true, Bool.bne_false, Bool.true_bne, Bool.not_true, Bool.not_false, Bool.and_true, Bool.true_and, Bool.and_false, Bool.false_and, Bool.or_true, Bool.true_or, Bool.or_false, Bool.false_or, cond_true, cond_false, List.getElem?_toArray, List.getElem?_cons_zero, List.getElem?_cons_succ, Nat.zero_add, Nat.add_zero, Nat.reduceAdd, forall_const, show ((40 : Int) != 0) = true from rfl]
          exact bad (Sep.mid (As := ownB s m.out :: rows (rVec 32) iv m.ids :: rows qv bv (L.map fun s : Sl UInt8 => s.v) :: mb g4 m iv bv :: L.map oB) (A := zb g2) (Bs := []) hs7) hp
end
end Go.Fx
