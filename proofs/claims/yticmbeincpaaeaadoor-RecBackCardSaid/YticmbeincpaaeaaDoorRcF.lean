/-
  Scans: the program's and the document's; whether two rows of blocks are the same.
-/
import Derived.Test.YticmbeincpaaeaaDoorRcE
set_option linter.unusedVariables false
set_option linter.unusedSimpArgs false
namespace Go.Fx
abbrev oV (x : BV) : Asn := ownB x.2 x.1.d
/-- A row of blocks that the call owns. -/
def brow (v : Value) (B : List BV) : List Asn := rows Q_api_Block v (B.map BV.t) :: B.map oV
theorem brow_rd {w0 w : World} {v : Value} {B : List BV} {Bs : List Asn} (h : Sep w0 w (brow v B ++ Bs)) : BRows w.heap v B := by
  refine ⟨Sep.rows h, fun s hs => ?_⟩
  obtain ⟨F, hF⟩ := h.onL (A := ownB s.2 s.1.d) (by simp only [brow, List.cons_append, List.mem_cons, List.mem_append, List.mem_map]; exact .inr (.inl ⟨s, hs, rfl⟩))
  exact OwnB.rd hF
theorem Rows'.ldI {w : World} {v : Value} {l : List Int} {j : Nat} {a : Int} (hr : Rows' (rInt .i64) w.heap v l) (hj : l[j]? = some a) (k : IntKind) {K : Value → Prop} (h : K (.int .i64 a)) : ixs 1 v (.int k (j : Int)) fun t => Go.Fx.ld1 t w.heap K := by
  obtain ⟨g, o, ha, hx⟩ := hr.ix (by decide) hj
  have hx' : ∀ K, ixs 1 v (.int k (j : Int)) K = K (.pointer (some ⟨g, o, none⟩)) := hx k
  rw [hx', At.ld1 (v := .int .i64 a) ha]
  exact h
/-- A row, read in a region that draws. -/
theorem rdS_rowN {α : Type} {q : Rdr α} {S : World → Prop} {w : World} {v : Value} {l : List α} {j : Nat} {a : α} {K : Value → Prop} (hp : 0 < q.size)
    (hw : S w) (hS : ∀ u, S u → Rows' q u.heap v l) (hj : l[j]? = some a) (k : IntKind) (h : K (.agg (q.cells a).toArray)) : ixs q.size v (.int k (j : Int)) fun t => rdS S (fun w => ldN q.size t w.heap) K := by
  obtain ⟨g, o, c, rfl⟩ := (hS w hw).form hp hj
  have hlt := (List.getElem?_eq_some_iff.1 hj).1
  rw [ixs_mk _ _ _ _ _ _ _ _ (by omega) (by omega), Int.toNat_natCast]
  refine ⟨.agg (q.cells a).toArray, fun z hz => ?_, h⟩
  have hat := At.of hp (hS z hz) hj
  exact (At.ldN hat (q.len a) _).mpr rfl
/-- Where the records end. -/
def endsOf (L : List Blk) : List Int := (List.range L.length).map fun i => ((layL (L.take (i + 1))).length : Int)
theorem endsOf_snoc (L : List Blk) (x : Blk) : endsOf (L ++ [x]) = endsOf L ++ [((layL (L ++ [x])).length : Int)] := by
  unfold endsOf
  rw [List.length_append, List.length_singleton, List.range_succ, List.map_append, List.map_singleton]
  congr 1
  · apply List.map_congr_left
    intro i hi
    have := List.mem_range.1 hi
    rw [List.take_append_of_le_length (by omega)]
  · rw [List.take_of_length_le (by simp)]
theorem endsOf_len (L : List Blk) : (endsOf L).length = L.length := by simp [endsOf]
theorem endsOf_last {L : List Blk} (h : L ≠ []) : (endsOf L)[L.length - 1]? = some ((layL L).length : Int) := by
  have hl : 0 < L.length := List.length_pos_iff.2 h
  unfold endsOf
  rw [List.getElem?_map, List.getElem?_range (by omega)]
  simp only [Option.map_some]
  rw [List.take_of_length_le (by omega)]
section
variable {w0 w : World} {As T : List Asn} {v u : Value} {l : List UInt8} {B C : List BV}
/-- 'append(l, x)', one block more. -/
theorem app_blk {Xs : List Asn} {g : Nat} {x : Blk} {vx : Value} {K : Value → World → Prop} (hs : Sep w0 w (bb g x vx :: ownB vx x.d :: rows Q_api_Block u (B.map BV.t) :: (Xs ++ (B.map oV ++ T)))) (hB : B.length ≤ 1000000)
    (h : ∀ v' w', Sep w0 w' (rows Q_api_Block v' ((B ++ [(x, vx)]).map BV.t) :: (Xs ++ ((B ++ [(x, vx)]).map oV ++ T))) → K v' w') :
    efP P (Instr.buildSlice T_sl_api_Block 1 #[(0, bq x vx)]) w fun t w => efP P (Builtin.append_ #[T_sl_api_Block, T_sl_api_Block] T_sl_api_Block #[u, t]) w K := by
  have h1 := Sep.one hs.p1
  refine rows_lit hs S_sl_api_Block (l := [(x.p, x.h, vx)]) (V := fun a => .agg (Rdr.cells Q_api_Block a).toArray) qV rfl rfl (by decide) (by decide) fun g4 w4 hs4 => ?_
  refine rows_app S_sl_api_Block U_sl_api_Block (by simp) hs4.p3 (Sep.rows hs4) ?_ (by simp; omega) (by simp; omega) fun v' w2 hs2 => ?_
  · simp only [List.flatMap_cons, List.flatMap_nil, List.append_nil]
    exact one_api_Block h1
  · refine h v' w2 ?_
    rw [List.map_append]
    exact Sep.put (f := oV) (s := (x, vx)) (Xs := rows Q_api_Block v' (B.map BV.t ++ [BV.t (x, vx)]) :: Xs) (hs2.pick [3, 0] 4)
theorem takeX_at {k : Nat} (hk : k ≤ l.length) : takeX l (k : Int) = ((takeR (l.drop k)).1, (if (takeR (l.drop k)).2.2 = 0 then (k : Int) + (takeR (l.drop k)).2.1 else 0), (takeR (l.drop k)).2.2) := by unfold takeX; rw [if_neg (by omega)]; rfl
theorem scan_spec (hc : Cub w) (hb : RdB w.heap v l) (hcap : capOk v) (hl : l.length ≤ 1000000) : cal P f_rec_scan [v] w fun r w' => ∃ (x y : Value) (B : List BV), r = .tuple #[x, y] ∧ IsScan l (B.map (·.1)) ∧ Sep w w' (rows Q_api_Block x (B.map BV.t) :: rows (rInt .i64) y (endsOf (B.map (·.1))) :: B.map oV) := by
  refine s_rec_scan fun R hR => ?_
  unfold c_rec_scan
  refine ⟨fun x y z w' => ∃ (B : List BV) (t : List UInt8), z = .int .i64 (layL (B.map (·.1))).length ∧ goodB (B.map (·.1)) ∧ l = layL (B.map (·.1)) ++ t ∧ Sep w w' (rows Q_api_Block x (B.map BV.t) :: rows (rInt .i64) y (endsOf (B.map (·.1))) :: (B.map oV ++ [])), fun _ _ z _ => (l.length - RowKit.intOf z).toNat,
    ⟨[], l, rfl, by intro b hb; simp at hb, rfl, (Sep.start w).nilR.nilR⟩, ?_⟩
  rintro x y _ w1 ⟨B, t, rfl, hg, hlt, hs1⟩ -
  obtain ⟨L, hL⟩ : ∃ L, L = B.map (·.1) := ⟨_, rfl⟩
  rw [← hL] at hg hlt hs1 ⊢
  have hle : (layL L).length ≤ l.length := by rw [hlt]; simp
  have hLl : L.length = B.length := by rw [hL]; simp
  have h66 := layL_ge L
  refine cal_i (recTake_spec (a := ((layL L).length : Nat)) (hc.fr hs1.fr0) (hs1.rdB hb) hcap (by omega) (by omega)) ?_
  rintro _ w2 ⟨v2, rfl, hs2⟩
  replace hs2 := hs1.join hs2
  have hd : l.drop (layL L).length = t := by rw [hlt]; exact List.drop_left' rfl
  rw [takeX_at hle, hd] at hs2
  rw [takeX_at hle, hd]
  simp only [nilc_some, fad_mk, pik_true, pik_false, cnd_true, cnd_false, gif_same, gif_tf, gif_ft, gif_undef, bi_add, bi_sub, bi_mul, bi_eql, bi_neq, bi_lss, bi_leq, bi_gtr, bi_geq, notB_bool, cvi_int, lenS_mk, lenT_mk, ext0, ext1, ext2, nilP_mk, nilS_mk, fldv_agg, jn0_k, jn1_k, jn2_k, jn1_and, jn1_or, ex_some, Option.isNone_some, Option.isNone_none, Bool.false_bne, Bool.bne_true, Bool.bne_false, Bool.true_bne, Bool.not_true, Bool.not_false, Bool.and_true, Bool.true_and, Bool.and_false, Bool.false_and, Bool.or_true, Bool.true_or, Bool.or_false, Bool.false_or, cond_true, cond_false, List.getElem?_toArray, List.getElem?_cons_zero, List.getElem?_cons_succ, Nat.zero_add, Nat.add_zero, Nat.reduceAdd, forall_const]
  refine alloc_s hs2 (A_api_Block w2) fun g3 w3 hs3 => ?_
  refine St_api_Block hs3 (one_api_Block (Sep.one hs3.p1)) fun w4 hs4 => ?_
  rcases takeR_err t with h0 | ⟨hn, hn0, hne⟩
  · obtain ⟨b, n, hx⟩ : ∃ b n, takeR t = (b, n, 0) := ⟨_, _, by rw [← h0]⟩
    rw [hx] at hs4 ⊢
    have hinv := take_inv hx
    simp only [nilc_some, fad_mk, pik_true, pik_false, cnd_true, cnd_false, gif_same, gif_tf, gif_ft, gif_undef, bi_add, bi_sub, bi_mul, bi_eql, bi_neq, bi_lss, bi_leq, bi_gtr, bi_geq, notB_bool, cvi_int, lenS_mk, lenT_mk, ext0, ext1, ext2, nilP_mk, nilS_mk, fldv_agg, jn0_k, jn1_k, jn2_k, jn1_and, jn1_or, ex_some, Option.isNone_some, Option.isNone_none, Bool.false_bne, Bool.bne_true, Bool.bne_false, Bool.true_bne, Bool.not_true, Bool.not_false, Bool.and_true, Bool.true_and, Bool.and_false, Bool.false_and, Bool.or_true, Bool.true_or, Bool.or_false, Bool.false_or, cond_true, cond_false, List.getElem?_toArray, List.getElem?_cons_zero, List.getElem?_cons_succ, Nat.zero_add, Nat.add_zero, Nat.reduceAdd, forall_const, show ((0 : Int) != 0) = false from rfl, ↓reduceIte]
    simp only [L_api_Block hs4.blk, L_api_Block__Parent hs4.blk, L_api_Block__Height hs4.blk, L_api_Block__Data hs4.blk]
    have e : L ++ [b] = (B ++ [(b, v2)]).map (·.1) := by rw [hL]; simp
    refine app_blk (x := b) (vx := v2) (Xs := [rows (rInt .i64) y (endsOf L)]) (T := []) hs4 (by omega) fun v5 w5 hs5 => ?_
    have hb66 := b.rec_len
    have hends : ((layL L).length : Int) + (n : Int) = ((layL (L ++ [b])).length : Int) := by
      rw [layL_append, List.length_append, hinv.2.2.1]
      show _ = (((layL L).length + (layL [b]).length : Nat) : Int)
      rw [layL_cons]
      simp [layL]
    rw [hends]
    refine rows_lit hs5 S_sl_int (q := rInt .i64) (l := [((layL (L ++ [b])).length : Int)]) (V := fun a => .int .i64 a) (fun a => rfl) rfl rfl (by decide) (by decide) fun g6 w6 hs6 => ?_
    refine rows_app S_sl_int U_sl_int (q := rInt .i64) (by simp) hs6.p2 (Sep.rows hs6) ?_ ?_ ?_ fun v7 w7 hs7 => ?_
    · simp only [List.flatMap_cons, List.flatMap_nil, List.append_nil]
      exact oneI
    · rw [endsOf_len]; simp; omega
    · rw [endsOf_len]; simp; omega
    have hlen : (layL (L ++ [b])).length ≤ l.length := by
      have h3 := congrArg List.length hinv.2.2.2
      have h4 := congrArg List.length hlt
      rw [layL_append, List.length_append]
      simp only [List.length_append] at h3 h4
      have : (layL [b]).length = b.rcd.length := by rw [layL_cons]; simp [layL]
      omega
    refine ⟨⟨B ++ [(b, v2)], t.drop n, by rw [← e], ?_, ?_, ?_⟩, ?_⟩
    · rw [← e]
      intro z hz
      rcases List.mem_append.1 hz with hz | hz
      · exact hg z hz
      · obtain rfl : z = b := by simpa using hz
        exact ⟨hinv.1, hinv.2.1⟩
    · rw [← e, layL_append, hlt, List.append_assoc]
      congr 1
      rw [hinv.2.2.2]
      rw [layL_cons]
      simp [layL, ← hinv.2.2.1]
    · rw [← e, endsOf_snoc]
      exact hs7.pick [2, 0] 3
    · have : (layL L).length < (layL (L ++ [b])).length := by omega
      simp only [RowKit.intOf]
      omega
  · have e : ((takeR t).2.2 != 0) = true := by rcases hne with h | h <;> rw [h] <;> rfl
    simp only [nilc_some, fad_mk, pik_true, pik_false, cnd_true, cnd_false, gif_same, gif_tf, gif_ft, gif_undef, bi_add, bi_sub, bi_mul, bi_eql, bi_neq, bi_lss, bi_leq, bi_gtr, bi_geq, notB_bool, cvi_int, lenS_mk, lenT_mk, ext0, ext1, ext2, nilP_mk, nilS_mk, fldv_agg, jn0_k, jn1_k, jn2_k, jn1_and, jn1_or, ex_some, Option.isNone_some, Option.isNone_none, Bool.false_bne, Bool.bne_true, Bool.bne_false, Bool.true_bne, Bool.not_true, Bool.not_false, Bool.and_true, Bool.true_and, Bool.and_false, Bool.false_and, Bool.or_true, Bool.true_or, Bool.or_false, Bool.false_or, cond_true, cond_false, List.getElem?_toArray, List.getElem?_cons_zero, List.getElem?_cons_succ, Nat.zero_add, Nat.add_zero, Nat.reduceAdd, forall_const, e]
    refine hR _ _ ⟨x, y, B, rfl, ?_, ?_⟩
    · rw [← hL]
      refine ⟨hg, t, hlt, by omega⟩
    · have h := Sep.tail (Sep.tail hs4)
      rw [List.append_nil] at h
      rw [← hL]
      exact h
theorem Scan_spec (hc : Cub w) (hb : RdB w.heap v l) (hcap : capOk v) (hl : l.length ≤ 1000000) : cal P f_rec_Scan [v] w fun r w' => ∃ (x : Value) (B : List BV), r = .tuple #[x, .int .i64 (layL (B.map (·.1))).length] ∧ IsScan l (B.map (·.1)) ∧ Sep w w' (brow x B) := by
  refine s_rec_Scan fun R hR => ?_
  unfold c_rec_Scan
  refine cal_i (scan_spec hc hb hcap hl) ?_
  rintro _ w1 ⟨x, y, B, rfl, hsc, hs1⟩
  have hrl := (Sep.rows hs1.p1).len
  have hle := layL_ge (B.map (·.1))
  have hsl := hsc.len
  rw [endsOf_len] at hrl
  simp only [nilc_some, fad_mk, pik_true, pik_false, cnd_true, cnd_false, gif_same, gif_tf, gif_ft, gif_undef, bi_add, bi_sub, bi_mul, bi_eql, bi_neq, bi_lss, bi_leq, bi_gtr, bi_geq, notB_bool, cvi_int, lenS_mk, lenT_mk, ext0, ext1, ext2, nilP_mk, nilS_mk, fldv_agg, jn0_k, jn1_k, jn2_k, jn1_and, jn1_or, ex_some, Option.isNone_some, Option.isNone_none, Bool.false_bne, Bool.bne_true, Bool.bne_false, Bool.true_bne, Bool.not_true, Bool.not_false, Bool.and_true, Bool.true_and, Bool.and_false, Bool.false_and, Bool.or_true, Bool.true_or, Bool.or_false, Bool.false_or, cond_true, cond_false, List.getElem?_toArray, List.getElem?_cons_zero, List.getElem?_cons_succ, Nat.zero_add, Nat.add_zero, Nat.reduceAdd, forall_const, hrl]
  by_cases h0 : B = []
  · subst h0
    simp only [List.map_nil, List.length_nil, nilc_some, fad_mk, pik_true, pik_false, cnd_true, cnd_false, gif_same, gif_tf, gif_ft, gif_undef, bi_add, bi_sub, bi_mul, bi_eql, bi_neq, bi_lss, bi_leq, bi_gtr, bi_geq, notB_bool, cvi_int, lenS_mk, lenT_mk, ext0, ext1, ext2, nilP_mk, nilS_mk, fldv_agg, jn0_k, jn1_k, jn2_k, jn1_and, jn1_or, ex_some, Option.isNone_some, Option.isNone_none, Bool.false_bne, Bool.bne_true, Bool.bne_false, Bool.true_bne, Bool.not_true, Bool.not_false, Bool.and_true, Bool.true_and, Bool.and_false, Bool.false_and, Bool.or_true, Bool.true_or, Bool.or_false, Bool.false_or, cond_true, cond_false, List.getElem?_toArray, List.getElem?_cons_zero, List.getElem?_cons_succ, Nat.zero_add, Nat.add_zero, Nat.reduceAdd, forall_const, show (((0 : Nat) : Int) == 0) = true from rfl]
    exact hR _ _ ⟨.slice none 0 0, [], rfl, hsc, hs1.tail.tail.nilR⟩
  · have hpos : 0 < B.length := List.length_pos_iff.2 h0
    have e : (((B.map (·.1)).length : Int) == 0) = false := by simp; omega
    simp only [nilc_some, fad_mk, pik_true, pik_false, cnd_true, cnd_false, gif_same, gif_tf, gif_ft, gif_undef, bi_add, bi_sub, bi_mul, bi_eql, bi_neq, bi_lss, bi_leq, bi_gtr, bi_geq, notB_bool, cvi_int, lenS_mk, lenT_mk, ext0, ext1, ext2, nilP_mk, nilS_mk, fldv_agg, jn0_k, jn1_k, jn2_k, jn1_and, jn1_or, ex_some, Option.isNone_some, Option.isNone_none, Bool.false_bne, Bool.bne_true, Bool.bne_false, Bool.true_bne, Bool.not_true, Bool.not_false, Bool.and_true, Bool.true_and, Bool.and_false, Bool.false_and, Bool.or_true, Bool.true_or, Bool.or_false, Bool.false_or, cond_true, cond_false, List.getElem?_toArray, List.getElem?_cons_zero, List.getElem?_cons_succ, Nat.zero_add, Nat.add_zero, Nat.reduceAdd, forall_const, e]
    refine drw_s hs1 fun w2 hs2 _ => ?_
    have hi : IntKind.i64.wrap (((B.map (·.1)).length : Int) - 1) = (((B.map (·.1)).length - 1 : Nat) : Int) := by
      simp only [List.length_map] at *
      rw [wi64 (by omega) (by omega)]; omega
    simp only [nilc_some, fad_mk, pik_true, pik_false, cnd_true, cnd_false, gif_same, gif_tf, gif_ft, gif_undef, bi_add, bi_sub, bi_mul, bi_eql, bi_neq, bi_lss, bi_leq, bi_gtr, bi_geq, notB_bool, cvi_int, lenS_mk, lenT_mk, ext0, ext1, ext2, nilP_mk, nilS_mk, fldv_agg, jn0_k, jn1_k, jn2_k, jn1_and, jn1_or, ex_some, Option.isNone_some, Option.isNone_none, Bool.false_bne, Bool.bne_true, Bool.bne_false, Bool.true_bne, Bool.not_true, Bool.not_false, Bool.and_true, Bool.true_and, Bool.and_false, Bool.false_and, Bool.or_true, Bool.true_or, Bool.or_false, Bool.false_or, cond_true, cond_false, List.getElem?_toArray, List.getElem?_cons_zero, List.getElem?_cons_succ, Nat.zero_add, Nat.add_zero, Nat.reduceAdd, forall_const, hi]
    refine Rows'.ldI (Sep.rows hs2.p1) (endsOf_last (by simpa using h0)) .i64 ?_
    refine hR _ _ ⟨x, B, rfl, hsc, ?_⟩
    exact (hs2.p1).tail
theorem rScan_spec (hb : RdB w.heap v l) (hcap : capOk v) (hl : l.length ≤ 1000000) : cal P f_ref09_Scan [v] w fun r w' => ∃ (x : Value) (B : List BV), r = .tuple #[x, .int .i64 (layL (B.map (·.1))).length] ∧ IsScan l (B.map (·.1)) ∧ Sep w w' (brow x B) := by
  refine s_ref09_Scan fun R hR => ?_
  unfold c_ref09_Scan
  refine ⟨fun x z w' => ∃ (B : List BV) (t : List UInt8), z = .int .i64 (layL (B.map (·.1))).length ∧ goodB (B.map (·.1)) ∧ l = layL (B.map (·.1)) ++ t ∧ Sep w w' (rows Q_api_Block x (B.map BV.t) :: (B.map oV ++ [])), fun _ z _ => (l.length - RowKit.intOf z).toNat,
    ⟨[], l, rfl, by intro b hb; simp at hb, rfl, (Sep.start w).nilR⟩, ?_⟩
  rintro x _ w1 ⟨B, t, rfl, hg, hlt, hs1⟩ -
  obtain ⟨L, hL⟩ : ∃ L, L = B.map (·.1) := ⟨_, rfl⟩
  rw [← hL] at hg hlt ⊢
  have hle : (layL L).length ≤ l.length := by rw [hlt]; simp
  have hLl : L.length = B.length := by rw [hL]; simp
  have h66 := layL_ge L
  refine cal_i (rRecTake_spec (a := ((layL L).length : Nat)) (hs1.rdB hb) hcap (by omega) (by omega)) ?_
  rintro _ w2 ⟨v2, rfl, hs2⟩
  replace hs2 := hs1.join hs2
  have hd : l.drop (layL L).length = t := by rw [hlt]; exact List.drop_left' rfl
  rw [takeX_at hle, hd] at hs2
  rw [takeX_at hle, hd]
  simp only [nilc_some, fad_mk, pik_true, pik_false, cnd_true, cnd_false, gif_same, gif_tf, gif_ft, gif_undef, bi_add, bi_sub, bi_mul, bi_eql, bi_neq, bi_lss, bi_leq, bi_gtr, bi_geq, notB_bool, cvi_int, lenS_mk, lenT_mk, ext0, ext1, ext2, nilP_mk, nilS_mk, fldv_agg, jn0_k, jn1_k, jn2_k, jn1_and, jn1_or, ex_some, Option.isNone_some, Option.isNone_none, Bool.false_bne, Bool.bne_true, Bool.bne_false, Bool.true_bne, Bool.not_true, Bool.not_false, Bool.and_true, Bool.true_and, Bool.and_false, Bool.false_and, Bool.or_true, Bool.true_or, Bool.or_false, Bool.false_or, cond_true, cond_false, List.getElem?_toArray, List.getElem?_cons_zero, List.getElem?_cons_succ, Nat.zero_add, Nat.add_zero, Nat.reduceAdd, forall_const]
  refine alloc_s hs2 (A_api_Block w2) fun g3 w3 hs3 => ?_
  refine St_api_Block hs3 (one_api_Block (Sep.one hs3.p1)) fun w4 hs4 => ?_
  rcases takeR_err t with h0 | ⟨hn, hn0, hne⟩
  · obtain ⟨b, n, hx⟩ : ∃ b n, takeR t = (b, n, 0) := ⟨_, _, by rw [← h0]⟩
    rw [hx] at hs4 ⊢
    have hinv := take_inv hx
    simp only [nilc_some, fad_mk, pik_true, pik_false, cnd_true, cnd_false, gif_same, gif_tf, gif_ft, gif_undef, bi_add, bi_sub, bi_mul, bi_eql, bi_neq, bi_lss, bi_leq, bi_gtr, bi_geq, notB_bool, cvi_int, lenS_mk, lenT_mk, ext0, ext1, ext2, nilP_mk, nilS_mk, fldv_agg, jn0_k, jn1_k, jn2_k, jn1_and, jn1_or, ex_some, Option.isNone_some, Option.isNone_none, Bool.false_bne, Bool.bne_true, Bool.bne_false, Bool.true_bne, Bool.not_true, Bool.not_false, Bool.and_true, Bool.true_and, Bool.and_false, Bool.false_and, Bool.or_true, Bool.true_or, Bool.or_false, Bool.false_or, cond_true, cond_false, List.getElem?_toArray, List.getElem?_cons_zero, List.getElem?_cons_succ, Nat.zero_add, Nat.add_zero, Nat.reduceAdd, forall_const, show ((0 : Int) != 0) = false from rfl, ↓reduceIte]
    simp only [L_api_Block hs4.blk, L_api_Block__Parent hs4.blk, L_api_Block__Height hs4.blk, L_api_Block__Data hs4.blk]
    have e : L ++ [b] = (B ++ [(b, v2)]).map (·.1) := by rw [hL]; simp
    refine app_blk (x := b) (vx := v2) (Xs := []) (T := []) hs4 (by omega) fun v5 w5 hs5 => ?_
    have hb66 := b.rec_len
    have hends : ((layL L).length : Int) + (n : Int) = ((layL (L ++ [b])).length : Int) := by
      rw [layL_append, List.length_append, hinv.2.2.1]
      show _ = (((layL L).length + (layL [b]).length : Nat) : Int)
      rw [layL_cons]
      simp [layL]
    rw [hends]
    have hlen : (layL (L ++ [b])).length ≤ l.length := by
      have h3 := congrArg List.length hinv.2.2.2
      have h4 := congrArg List.length hlt
      rw [layL_append, List.length_append]
      simp only [List.length_append] at h3 h4
      have : (layL [b]).length = b.rcd.length := by rw [layL_cons]; simp [layL]
      omega
    refine ⟨⟨B ++ [(b, v2)], t.drop n, by rw [← e], ?_, ?_, hs5⟩, ?_⟩
    · rw [← e]
      intro z hz
      rcases List.mem_append.1 hz with hz | hz
      · exact hg z hz
      · obtain rfl : z = b := by simpa using hz
        exact ⟨hinv.1, hinv.2.1⟩
    · rw [← e, layL_append, hlt, List.append_assoc]
      congr 1
      rw [hinv.2.2.2]
      rw [layL_cons]
      simp [layL, ← hinv.2.2.1]
    · have : (layL L).length < (layL (L ++ [b])).length := by omega
      simp only [RowKit.intOf]
      omega
  · have e : ((takeR t).2.2 != 0) = true := by rcases hne with h | h <;> rw [h] <;> rfl
    simp only [nilc_some, fad_mk, pik_true, pik_false, cnd_true, cnd_false, gif_same, gif_tf, gif_ft, gif_undef, bi_add, bi_sub, bi_mul, bi_eql, bi_neq, bi_lss, bi_leq, bi_gtr, bi_geq, notB_bool, cvi_int, lenS_mk, lenT_mk, ext0, ext1, ext2, nilP_mk, nilS_mk, fldv_agg, jn0_k, jn1_k, jn2_k, jn1_and, jn1_or, ex_some, Option.isNone_some, Option.isNone_none, Bool.false_bne, Bool.bne_true, Bool.bne_false, Bool.true_bne, Bool.not_true, Bool.not_false, Bool.and_true, Bool.true_and, Bool.and_false, Bool.false_and, Bool.or_true, Bool.true_or, Bool.or_false, Bool.false_or, cond_true, cond_false, List.getElem?_toArray, List.getElem?_cons_zero, List.getElem?_cons_succ, Nat.zero_add, Nat.add_zero, Nat.reduceAdd, forall_const, e]
    refine hR _ _ ⟨x, B, by rw [← hL], ?_, ?_⟩
    · rw [← hL]
      refine ⟨hg, t, hlt, by omega⟩
    · have h := Sep.tail (Sep.tail hs4)
      rw [List.append_nil] at h
      exact h
theorem SameAll_spec (hu : BRows w.heap u B) (hv : BRows w.heap v C) (h63 : B.length ≤ 9223372036854775807) : cal P f_ref09_SameAll [u, v] w fun r w' => r = .bool (decide (B.map (·.1) = C.map (·.1))) ∧ Fr [] w w' := by
  refine s_ref09_SameAll fun R hR => ?_
  unfold c_ref09_SameAll
  simp only [hu.len, hv.len, nilc_some, fad_mk, pik_true, pik_false, cnd_true, cnd_false, gif_same, gif_tf, gif_ft, gif_undef, bi_add, bi_sub, bi_mul, bi_eql, bi_neq, bi_lss, bi_leq, bi_gtr, bi_geq, notB_bool, cvi_int, lenS_mk, lenT_mk, ext0, ext1, ext2, nilP_mk, nilS_mk, fldv_agg, jn0_k, jn1_k, jn2_k, jn1_and, jn1_or, ex_some, Option.isNone_some, Option.isNone_none, Bool.false_bne, Bool.bne_true, Bool.bne_false, Bool.true_bne, Bool.not_true, Bool.not_false, Bool.and_true, Bool.true_and, Bool.and_false, Bool.false_and, Bool.or_true, Bool.true_or, Bool.or_false, Bool.false_or, cond_true, cond_false, List.getElem?_toArray, List.getElem?_cons_zero, List.getElem?_cons_succ, Nat.zero_add, Nat.add_zero, Nat.reduceAdd, forall_const]
  rw [cnd_bool]
  refine ⟨fun h => ?_, fun h => ?_⟩
  · refine hR _ _ ⟨?_, Fr.refl _ _⟩
    have h : ¬ B.length = C.length := by simp at h; omega
    rw [decide_eq_false fun he => h (by have := congrArg List.length he; simpa using this)]
  · have hlen : B.length = C.length := by simp at h; omega
    refine ⟨fun y w' => ∃ i : Nat, y = .int .i64 i ∧ i ≤ B.length ∧ (B.map (·.1)).take i = (C.map (·.1)).take i ∧ Sep w w' [], fun y _ => (B.length - RowKit.intOf y).toNat, ⟨0, rfl, by omega, by simp, Sep.start w⟩, ?_⟩
    rintro _ w1 ⟨i, rfl, hi, heq, hs1⟩ -
    simp only [nilc_some, fad_mk, pik_true, pik_false, cnd_true, cnd_false, gif_same, gif_tf, gif_ft, gif_undef, bi_add, bi_sub, bi_mul, bi_eql, bi_neq, bi_lss, bi_leq, bi_gtr, bi_geq, notB_bool, cvi_int, lenS_mk, lenT_mk, ext0, ext1, ext2, nilP_mk, nilS_mk, fldv_agg, jn0_k, jn1_k, jn2_k, jn1_and, jn1_or, ex_some, Option.isNone_some, Option.isNone_none, Bool.false_bne, Bool.bne_true, Bool.bne_false, Bool.true_bne, Bool.not_true, Bool.not_false, Bool.and_true, Bool.true_and, Bool.and_false, Bool.false_and, Bool.or_true, Bool.true_or, Bool.or_false, Bool.false_or, cond_true, cond_false, List.getElem?_toArray, List.getElem?_cons_zero, List.getElem?_cons_succ, Nat.zero_add, Nat.add_zero, Nat.reduceAdd, forall_const]
    rw [cnd_bool]
    refine ⟨fun h => ?_, fun h => ?_⟩
    · have hlt : i < B.length := by simp at h; omega
      have hx := List.getElem?_eq_getElem hlt
      have hy := List.getElem?_eq_getElem (show i < C.length by omega)
      generalize B[i] = x at hx
      generalize C[i] = y at hy
      refine drH_S hs1 fun w2 hs2 _ => ?_
      refine rdS_rowN (q := Q_api_Block) (l := B.map BV.t) (a := x.t) (by decide) hs2 (fun u hu' => (hu.fr hu'.fr0).1) (by rw [List.getElem?_map, hx]; rfl) .i64 ?_
      refine rdS_rowN (q := Q_api_Block) (l := C.map BV.t) (a := y.t) (by decide) hs2 (fun u hu' => (hv.fr hu'.fr0).1) (by rw [List.getElem?_map, hy]; rfl) .i64 ?_
      refine efC_calA (w0 := w) (As := []) (cal_i (rSame_spec (a := x.1) (b := y.1) (u := x.2) (v := y.2) (hs2.rdB (hu.get hx)) (hs2.rdB (hv.get hy))) ?_)
      rintro _ w3 ⟨rfl, hf3⟩
      have hs3 := hs2.old hf3
      refine ⟨hs3, ?_⟩
      have hx' : (B.map (·.1))[i]? = some x.1 := by rw [List.getElem?_map, hx]; rfl
      have hy' : (C.map (·.1))[i]? = some y.1 := by rw [List.getElem?_map, hy]; rfl
      simp only [nilc_some, fad_mk, pik_true, pik_false, cnd_true, cnd_false, gif_same, gif_tf, gif_ft, gif_undef, bi_add, bi_sub, bi_mul, bi_eql, bi_neq, bi_lss, bi_leq, bi_gtr, bi_geq, notB_bool, cvi_int, lenS_mk, lenT_mk, ext0, ext1, ext2, nilP_mk, nilS_mk, fldv_agg, jn0_k, jn1_k, jn2_k, jn1_and, jn1_or, ex_some, Option.isNone_some, Option.isNone_none, Bool.false_bne, Bool.bne_true, Bool.bne_false, Bool.true_bne, Bool.not_true, Bool.not_false, Bool.and_true, Bool.true_and, Bool.and_false, Bool.false_and, Bool.or_true, Bool.true_or, Bool.or_false, Bool.false_or, cond_true, cond_false, List.getElem?_toArray, List.getElem?_cons_zero, List.getElem?_cons_succ, Nat.zero_add, Nat.add_zero, Nat.reduceAdd, forall_const]
      rw [cnd_bool]
      refine ⟨fun hne => ?_, fun he => ?_⟩
      · have hne : ¬ x.1 = y.1 := by simpa using hne
        refine hR _ _ ⟨?_, hs3.fr0⟩
        rw [decide_eq_false fun he => hne ?_]
        rw [he, hy'] at hx'
        exact (Option.some.inj hx').symm
      · have he : x.1 = y.1 := by simpa using he
        rw [wi64 (by omega) (by omega)]
        refine ⟨⟨i + 1, by simp, by omega, take_more heq (by rw [hx', hy', he]), hs3⟩, by simp [RowKit.intOf]; omega⟩
    · have hge : i = B.length := by simp at h; omega
      subst hge
      refine hR _ _ ⟨?_, hs1.fr0⟩
      rw [List.take_of_length_le (by simp), List.take_of_length_le (by simp; omega)] at heq
      rw [decide_eq_true heq]
end
end Go.Fx
