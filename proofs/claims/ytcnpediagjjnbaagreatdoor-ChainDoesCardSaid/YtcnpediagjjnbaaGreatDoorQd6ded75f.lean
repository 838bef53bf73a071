/-
  Chains: the law's world (a tape, a chain on it, and what they must be): both are opened anew; both accept.
-/
import Derived.MapKept
import Derived.WideKeyRuns
import Derived.Maps.RangeRun
import Derived.LaidEqlPtr
import Derived.Test.YtcnpediagjjnbaaGreatDoorQ5c92ddea
import Derived.Test.YtcnpediagjjnbaaGreatDoorQ3cb80874
import Derived.Test.YtcnpediagjjnbaaGreatDoorQ301ba823
import Derived.Test.YtcnpediagjjnbaaGreatDoorQ3611c588
import Derived.Test.YtcnpediagjjnbaaGreatDoorQ469e9b02
import Derived.Test.YtcnpediagjjnbaaGreatDoorQ6269320c
set_option linter.unusedVariables false
set_option linter.unusedSimpArgs false
namespace Go.Fx
abbrev oV (x : BV) : Asn := ownB x.2 x.1.d
/-- A row of blocks that the call owns. -/
def brow (v : Value) (B : List BV) : List Asn := rows Q_api_Block v (B.map BV.t) :: B.map oV
theorem brow_rd {w0 w : World} {v : Value} {B : List BV} {Bs : List Asn} (h : Sep w0 w (brow v B ++ Bs)) : BRows w.heap v B := by
  refine ⟨Sep.rows h, fun s hs => ?_⟩
  obtain ⟨F, hF⟩ := h.onL (A := ownB s.2 s.1.d) (by simp only [brow, List.cons_append, List.mem_cons, List.mem_append, List.mem_map]; exact .inr (.inl ⟨s, hs, rfl⟩))
  exact OwnB.rd hF
theorem Rows'.ldI {w : World} {v : Value} {l : List Int} {j : Nat} {a : Int} (hr : Rows' (rInt .i64) w.heap v l) (hj : l[j]? = some a) (k : IntKind) {K : Value → Prop} (h : K (.int .i64 a)) : ixs 1 v (.int k (j : Int)) fun t => Go.Fx.ld1 t w.heap K := by
  obtain ⟨g, o, ha, hx⟩ := hr.ix (by decide) hj
  have hx' : ∀ K, ixs 1 v (.int k (j : Int)) K = K (.pointer (some ⟨g, o, none⟩)) := hx k
  rw [hx', At.ld1 (v := .int .i64 a) ha]
  exact h
/-- A row, read in a region that draws. -/
theorem rdS_rowN {α : Type} {q : Rdr α} {S : World → Prop} {w : World} {v : Value} {l : List α} {j : Nat} {a : α} {K : Value → Prop} (hp : 0 < q.size)
    (hw : S w) (hS : ∀ u, S u → Rows' q u.heap v l) (hj : l[j]? = some a) (k : IntKind) (h : K (.agg (q.cells a).toArray)) : ixs q.size v (.int k (j : Int)) fun t => rdS S (fun w => ldN q.size t w.heap) K := by
  obtain ⟨g, o, c, rfl⟩ := (hS w hw).form hp hj
  have hlt := (List.getElem?_eq_some_iff.1 hj).1
  rw [ixs_mk _ _ _ _ _ _ _ _ (by omega) (by omega), Int.toNat_natCast]
  refine ⟨.agg (q.cells a).toArray, fun z hz => ?_, h⟩
  have hat := At.of hp (hS z hz) hj
  exact (At.ldN hat (q.len a) _).mpr rfl
/-- Where the records end. -/
def endsOf (L : List Blk) : List Int := (List.range L.length).map fun i => ((layL (L.take (i + 1))).length : Int)
theorem endsOf_snoc (L : List Blk) (x : Blk) : endsOf (L ++ [x]) = endsOf L ++ [((layL (L ++ [x])).length : Int)] := by
  unfold endsOf
  rw [List.length_append, List.length_singleton, List.range_succ, List.map_append, List.map_singleton]
  congr 1
  · apply List.map_congr_left
    intro i hi
    have := List.mem_range.1 hi
    rw [List.take_append_of_le_length (by omega)]
  · rw [List.take_of_length_le (by simp)]
theorem endsOf_len (L : List Blk) : (endsOf L).length = L.length := by simp [endsOf]
theorem endsOf_last {L : List Blk} (h : L ≠ []) : (endsOf L)[L.length - 1]? = some ((layL L).length : Int) := by
  have hl : 0 < L.length := List.length_pos_iff.2 h
  unfold endsOf
  rw [List.getElem?_map, List.getElem?_range (by omega)]
  simp only [Option.map_some]
  rw [List.take_of_length_le (by omega)]
section
variable {w0 w : World} {As T : List Asn} {v u : Value} {l : List UInt8} {B C : List BV}
/-- 'append(l, x)', one block more. -/
theorem app_blk {Xs : List Asn} {g : Nat} {x : Blk} {vx : Value} {K : Value → World → Prop} (hs : Sep w0 w (bb g x vx :: ownB vx x.d :: rows Q_api_Block u (B.map BV.t) :: (Xs ++ (B.map oV ++ T)))) (hB : B.length ≤ 1000000)
    (h : ∀ v' w', Sep w0 w' (rows Q_api_Block v' ((B ++ [(x, vx)]).map BV.t) :: (Xs ++ ((B ++ [(x, vx)]).map oV ++ T))) → K v' w') :
    efP P (Instr.buildSlice T_sl_api_Block 1 #[(0, bq x vx)]) w fun t w => efP P (Builtin.append_ #[T_sl_api_Block, T_sl_api_Block] T_sl_api_Block #[u, t]) w K := by
  have h1 := Sep.one hs.p1
  refine rows_lit hs S_sl_api_Block (l := [(x.p, x.h, vx)]) (V := fun a => .agg (Rdr.cells Q_api_Block a).toArray) qV rfl rfl (by decide) (by decide) fun g4 w4 hs4 => ?_
  refine rows_app S_sl_api_Block U_sl_api_Block (by simp) hs4.p3 (Sep.rows hs4) ?_ (by simp; omega) (by simp; omega) fun v' w2 hs2 => ?_
  · simp only [List.flatMap_cons, List.flatMap_nil, List.append_nil]
    exact one_api_Block h1
  · refine h v' w2 ?_
    rw [List.map_append]
    exact Sep.put (f := oV) (s := (x, vx)) (Xs := rows Q_api_Block v' (B.map BV.t ++ [BV.t (x, vx)]) :: Xs) (hs2.pick [3, 0] 4)
theorem takeX_at {k : Nat} (hk : k ≤ l.length) : takeX l (k : Int) = ((takeR (l.drop k)).1, (if (takeR (l.drop k)).2.2 = 0 then (k : Int) + (takeR (l.drop k)).2.1 else 0), (takeR (l.drop k)).2.2) := by unfold takeX; rw [if_neg (by omega)]; rfl
theorem scan_spec (hc : Cub w) (hb : RdB w.heap v l) (hcap : capOk v) (hl : l.length ≤ 1000000) : cal P f_rec_scan [v] w fun r w' => ∃ (x y : Value) (B : List BV), r = .tuple #[x, y] ∧ IsScan l (B.map (·.1)) ∧ Sep w w' (rows Q_api_Block x (B.map BV.t) :: rows (rInt .i64) y (endsOf (B.map (·.1))) :: B.map oV) := by
  refine s_rec_scan fun R hR => ?_
  unfold c_rec_scan
  refine ⟨fun x y z w' => ∃ (B : List BV) (t : List UInt8), z = .int .i64 (layL (B.map (·.1))).length ∧ goodB (B.map (·.1)) ∧ l = layL (B.map (·.1)) ++ t ∧ Sep w w' (rows Q_api_Block x (B.map BV.t) :: rows (rInt .i64) y (endsOf (B.map (·.1))) :: (B.map oV ++ [])), fun _ _ z _ => (l.length - RowKit.intOf z).toNat,
    ⟨[], l, rfl, by intro b hb; simp at hb, rfl, (Sep.start w).nilR.nilR⟩, ?_⟩
  rintro x y _ w1 ⟨B, t, rfl, hg, hlt, hs1⟩ -
  obtain ⟨L, hL⟩ : ∃ L, L = B.map (·.1) := ⟨_, rfl⟩
  rw [← hL] at hg hlt hs1 ⊢
  have hle : (layL L).length ≤ l.length := by rw [hlt]; simp
  have hLl : L.length = B.length := by rw [hL]; simp
  have h66 := layL_ge L
  refine cal_i (recTake_spec (a := ((layL L).length : Nat)) (hc.fr hs1.fr0) (hs1.rdB hb) hcap (by omega) (by omega)) ?_
  rintro _ w2 ⟨v2, rfl, hs2⟩
  replace hs2 := hs1.join hs2
  have hd : l.drop (layL L).length = t := by rw [hlt]; exact List.drop_left' rfl
  rw [takeX_at hle, hd] at hs2
  rw [takeX_at hle, hd]
  simp only [fx, Nat.reduceAdd, forall_const]
  refine alloc_s hs2 (A_api_Block w2) fun g3 w3 hs3 => ?_
  refine St_api_Block hs3 (one_api_Block (Sep.one hs3.p1)) fun w4 hs4 => ?_
  rcases takeR_err t with h0 | ⟨hn, hn0, hne⟩
  · obtain ⟨b, n, hx⟩ : ∃ b n, takeR t = (b, n, 0) := ⟨_, _, by rw [← h0]⟩
    rw [hx] at hs4 ⊢
    have hinv := take_inv hx
    simp only [fx, Nat.reduceAdd, forall_const, show ((0 : Int) != 0) = false from rfl, ↓reduceIte]
    simp only [L_api_Block hs4.blk, L_api_Block__Parent hs4.blk, L_api_Block__Height hs4.blk, L_api_Block__Data hs4.blk]
    have e : L ++ [b] = (B ++ [(b, v2)]).map (·.1) := by rw [hL]; simp
    refine app_blk (x := b) (vx := v2) (Xs := [rows (rInt .i64) y (endsOf L)]) (T := []) hs4 (by omega) fun v5 w5 hs5 => ?_
    have hb66 := b.rec_len
    have hends : ((layL L).length : Int) + (n : Int) = ((layL (L ++ [b])).length : Int) := by
      rw [layL_append, List.length_append, hinv.2.2.1]
      show _ = (((layL L).length + (layL [b]).length : Nat) : Int)
      rw [layL_cons]
      simp [layL]
    rw [hends]
    refine rows_lit hs5 S_sl_int (q := rInt .i64) (l := [((layL (L ++ [b])).length : Int)]) (V := fun a => .int .i64 a) (fun a => rfl) rfl rfl (by decide) (by decide) fun g6 w6 hs6 => ?_
    refine rows_app S_sl_int U_sl_int (q := rInt .i64) (by simp) hs6.p2 (Sep.rows hs6) ?_ ?_ ?_ fun v7 w7 hs7 => ?_
    · simp only [List.flatMap_cons, List.flatMap_nil, List.append_nil]
      exact oneI
    · rw [endsOf_len]; simp; omega
    · rw [endsOf_len]; simp; omega
    have hlen : (layL (L ++ [b])).length ≤ l.length := by
      have h3 := congrArg List.length hinv.2.2.2
      have h4 := congrArg List.length hlt
      rw [layL_append, List.length_append]
      simp only [List.length_append] at h3 h4
      have : (layL [b]).length = b.rcd.length := by rw [layL_cons]; simp [layL]
      omega
    refine ⟨⟨B ++ [(b, v2)], t.drop n, by rw [← e], ?_, ?_, ?_⟩, ?_⟩
    · rw [← e]
      intro z hz
      rcases List.mem_append.1 hz with hz | hz
      · exact hg z hz
      · obtain rfl : z = b := by simpa using hz
        exact ⟨hinv.1, hinv.2.1⟩
    · rw [← e, layL_append, hlt, List.append_assoc]
      congr 1
      rw [hinv.2.2.2]
      rw [layL_cons]
      simp [layL, ← hinv.2.2.1]
    · rw [← e, endsOf_snoc]
      exact hs7.pick [2, 0] 3
    · have : (layL L).length < (layL (L ++ [b])).length := by omega
      simp only [RowKit.intOf]
      omega
  · have e : ((takeR t).2.2 != 0) = true := by rcases hne with h | h <;> rw [h] <;> rfl
    simp only [fx, Nat.reduceAdd, forall_const, e]
    refine hR _ _ ⟨x, y, B, rfl, ?_, ?_⟩
    · rw [← hL]
      refine ⟨hg, t, hlt, by omega⟩
    · have h := Sep.tail (Sep.tail hs4)
      rw [List.append_nil] at h
      rw [← hL]
      exact h
theorem Scan_spec (hc : Cub w) (hb : RdB w.heap v l) (hcap : capOk v) (hl : l.length ≤ 1000000) : cal P f_rec_Scan [v] w fun r w' => ∃ (x : Value) (B : List BV), r = .tuple #[x, .int .i64 (layL (B.map (·.1))).length] ∧ IsScan l (B.map (·.1)) ∧ Sep w w' (brow x B) := by
  refine s_rec_Scan fun R hR => ?_
  unfold c_rec_Scan
  refine cal_i (scan_spec hc hb hcap hl) ?_
  rintro _ w1 ⟨x, y, B, rfl, hsc, hs1⟩
  have hrl := (Sep.rows hs1.p1).len
  have hle := layL_ge (B.map (·.1))
  have hsl := hsc.len
  rw [endsOf_len] at hrl
  simp only [fx, Nat.reduceAdd, forall_const, hrl]
  by_cases h0 : B = []
  · subst h0
    simp only [List.map_nil, List.length_nil, fx, Nat.reduceAdd, forall_const, show (((0 : Nat) : Int) == 0) = true from rfl]
    exact hR _ _ ⟨.slice none 0 0, [], rfl, hsc, hs1.tail.tail.nilR⟩
  · have hpos : 0 < B.length := List.length_pos_iff.2 h0
    have e : (((B.map (·.1)).length : Int) == 0) = false := by simp; omega
    simp only [fx, Nat.reduceAdd, forall_const, e]
    refine drw_s hs1 fun w2 hs2 _ => ?_
    have hi : IntKind.i64.wrap (((B.map (·.1)).length : Int) - 1) = (((B.map (·.1)).length - 1 : Nat) : Int) := by
      simp only [List.length_map] at *
      rw [wi64 (by omega) (by omega)]; omega
    simp only [fx, Nat.reduceAdd, forall_const, hi]
    refine Rows'.ldI (Sep.rows hs2.p1) (endsOf_last (by simpa using h0)) .i64 ?_
    refine hR _ _ ⟨x, B, rfl, hsc, ?_⟩
    exact (hs2.p1).tail
theorem rScan_spec (hb : RdB w.heap v l) (hcap : capOk v) (hl : l.length ≤ 1000000) : cal P f_ref09_Scan [v] w fun r w' => ∃ (x : Value) (B : List BV), r = .tuple #[x, .int .i64 (layL (B.map (·.1))).length] ∧ IsScan l (B.map (·.1)) ∧ Sep w w' (brow x B) := by
  refine s_ref09_Scan fun R hR => ?_
  unfold c_ref09_Scan
  refine ⟨fun x z w' => ∃ (B : List BV) (t : List UInt8), z = .int .i64 (layL (B.map (·.1))).length ∧ goodB (B.map (·.1)) ∧ l = layL (B.map (·.1)) ++ t ∧ Sep w w' (rows Q_api_Block x (B.map BV.t) :: (B.map oV ++ [])), fun _ z _ => (l.length - RowKit.intOf z).toNat,
    ⟨[], l, rfl, by intro b hb; simp at hb, rfl, (Sep.start w).nilR⟩, ?_⟩
  rintro x _ w1 ⟨B, t, rfl, hg, hlt, hs1⟩ -
  obtain ⟨L, hL⟩ : ∃ L, L = B.map (·.1) := ⟨_, rfl⟩
  rw [← hL] at hg hlt ⊢
  have hle : (layL L).length ≤ l.length := by rw [hlt]; simp
  have hLl : L.length = B.length := by rw [hL]; simp
  have h66 := layL_ge L
  refine cal_i (rRecTake_spec (a := ((layL L).length : Nat)) (hs1.rdB hb) hcap (by omega) (by omega)) ?_
  rintro _ w2 ⟨v2, rfl, hs2⟩
  replace hs2 := hs1.join hs2
  have hd : l.drop (layL L).length = t := by rw [hlt]; exact List.drop_left' rfl
  rw [takeX_at hle, hd] at hs2
  rw [takeX_at hle, hd]
  simp only [fx, Nat.reduceAdd, forall_const]
  refine alloc_s hs2 (A_api_Block w2) fun g3 w3 hs3 => ?_
  refine St_api_Block hs3 (one_api_Block (Sep.one hs3.p1)) fun w4 hs4 => ?_
  rcases takeR_err t with h0 | ⟨hn, hn0, hne⟩
  · obtain ⟨b, n, hx⟩ : ∃ b n, takeR t = (b, n, 0) := ⟨_, _, by rw [← h0]⟩
    rw [hx] at hs4 ⊢
    have hinv := take_inv hx
    simp only [fx, Nat.reduceAdd, forall_const, show ((0 : Int) != 0) = false from rfl, ↓reduceIte]
    simp only [L_api_Block hs4.blk, L_api_Block__Parent hs4.blk, L_api_Block__Height hs4.blk, L_api_Block__Data hs4.blk]
    have e : L ++ [b] = (B ++ [(b, v2)]).map (·.1) := by rw [hL]; simp
    refine app_blk (x := b) (vx := v2) (Xs := []) (T := []) hs4 (by omega) fun v5 w5 hs5 => ?_
    have hb66 := b.rec_len
    have hends : ((layL L).length : Int) + (n : Int) = ((layL (L ++ [b])).length : Int) := by
      rw [layL_append, List.length_append, hinv.2.2.1]
      show _ = (((layL L).length + (layL [b]).length : Nat) : Int)
      rw [layL_cons]
      simp [layL]
    rw [hends]
    have hlen : (layL (L ++ [b])).length ≤ l.length := by
      have h3 := congrArg List.length hinv.2.2.2
      have h4 := congrArg List.length hlt
      rw [layL_append, List.length_append]
      simp only [List.length_append] at h3 h4
      have : (layL [b]).length = b.rcd.length := by rw [layL_cons]; simp [layL]
      omega
    refine ⟨⟨B ++ [(b, v2)], t.drop n, by rw [← e], ?_, ?_, hs5⟩, ?_⟩
    · rw [← e]
      intro z hz
      rcases List.mem_append.1 hz with hz | hz
      · exact hg z hz
      · obtain rfl : z = b := by simpa using hz
        exact ⟨hinv.1, hinv.2.1⟩
    · rw [← e, layL_append, hlt, List.append_assoc]
      congr 1
      rw [hinv.2.2.2]
      rw [layL_cons]
      simp [layL, ← hinv.2.2.1]
    · have : (layL L).length < (layL (L ++ [b])).length := by omega
      simp only [RowKit.intOf]
      omega
  · have e : ((takeR t).2.2 != 0) = true := by rcases hne with h | h <;> rw [h] <;> rfl
    simp only [fx, Nat.reduceAdd, forall_const, e]
    refine hR _ _ ⟨x, B, by rw [← hL], ?_, ?_⟩
    · rw [← hL]
      refine ⟨hg, t, hlt, by omega⟩
    · have h := Sep.tail (Sep.tail hs4)
      rw [List.append_nil] at h
      exact h
theorem SameAll_spec (hu : BRows w.heap u B) (hv : BRows w.heap v C) (h63 : B.length ≤ 9223372036854775807) : cal P f_ref09_SameAll [u, v] w fun r w' => r = .bool (decide (B.map (·.1) = C.map (·.1))) ∧ Fr [] w w' := by
  refine s_ref09_SameAll fun R hR => ?_
  unfold c_ref09_SameAll
  simp only [hu.len, hv.len, fx, Nat.reduceAdd, forall_const]
  rw [cnd_bool]
  refine ⟨fun h => ?_, fun h => ?_⟩
  · refine hR _ _ ⟨?_, Fr.refl _ _⟩
    have h : ¬ B.length = C.length := by simp at h; omega
    rw [decide_eq_false fun he => h (by have := congrArg List.length he; simpa using this)]
  · have hlen : B.length = C.length := by simp at h; omega
    refine ⟨fun y w' => ∃ i : Nat, y = .int .i64 i ∧ i ≤ B.length ∧ (B.map (·.1)).take i = (C.map (·.1)).take i ∧ Sep w w' [], fun y _ => (B.length - RowKit.intOf y).toNat, ⟨0, rfl, by omega, by simp, Sep.start w⟩, ?_⟩
    rintro _ w1 ⟨i, rfl, hi, heq, hs1⟩ -
    simp only [fx, Nat.reduceAdd, forall_const]
    rw [cnd_bool]
    refine ⟨fun h => ?_, fun h => ?_⟩
    · have hlt : i < B.length := by simp at h; omega
      have hx := List.getElem?_eq_getElem hlt
      have hy := List.getElem?_eq_getElem (show i < C.length by omega)
      generalize B[i] = x at hx
      generalize C[i] = y at hy
      refine drH_S hs1 fun w2 hs2 _ => ?_
      refine rdS_rowN (q := Q_api_Block) (l := B.map BV.t) (a := x.t) (by decide) hs2 (fun u hu' => (hu.fr hu'.fr0).1) (by rw [List.getElem?_map, hx]; rfl) .i64 ?_
      refine rdS_rowN (q := Q_api_Block) (l := C.map BV.t) (a := y.t) (by decide) hs2 (fun u hu' => (hv.fr hu'.fr0).1) (by rw [List.getElem?_map, hy]; rfl) .i64 ?_
      refine efC_calA (w0 := w) (As := []) (cal_i (rSame_spec (a := x.1) (b := y.1) (u := x.2) (v := y.2) (hs2.rdB (hu.get hx)) (hs2.rdB (hv.get hy))) ?_)
      rintro _ w3 ⟨rfl, hf3⟩
      have hs3 := hs2.old hf3
      refine ⟨hs3, ?_⟩
      have hx' : (B.map (·.1))[i]? = some x.1 := by rw [List.getElem?_map, hx]; rfl
      have hy' : (C.map (·.1))[i]? = some y.1 := by rw [List.getElem?_map, hy]; rfl
      simp only [fx, Nat.reduceAdd, forall_const]
      rw [cnd_bool]
      refine ⟨fun hne => ?_, fun he => ?_⟩
      · have hne : ¬ x.1 = y.1 := by simpa using hne
        refine hR _ _ ⟨?_, hs3.fr0⟩
        rw [decide_eq_false fun he => hne ?_]
        rw [he, hy'] at hx'
        exact (Option.some.inj hx').symm
      · have he : x.1 = y.1 := by simpa using he
        rw [wi64 (by omega) (by omega)]
        refine ⟨⟨i + 1, by simp, by omega, take_more heq (by rw [hx', hy', he]), hs3⟩, by simp [RowKit.intOf]; omega⟩
    · have hge : i = B.length := by simp at h; omega
      subst hge
      refine hR _ _ ⟨?_, hs1.fr0⟩
      rw [List.take_of_length_le (by simp), List.take_of_length_le (by simp; omega)] at heq
      rw [decide_eq_true heq]
end
end Go.Fx
set_option linter.unusedVariables false
set_option linter.unusedSimpArgs false
namespace Go.Fx
/-- Each is a child of the one ahead of it. -/
def linked : Blk → List Blk → Prop
  | _, [] => True
  | a, b :: l => b.link a = 0 ∧ linked b l
def linkT : Blk → List Blk → List Blk
  | _, [] => []
  | a, b :: l => if b.link a = 0 then b :: linkT b l else []
def lastB : Blk → List Blk → Blk
  | a, [] => a
  | _, b :: l => lastB b l
theorem lastB_get : ∀ (a : Blk) (l : List Blk), (a :: l)[l.length]? = some (lastB a l)
  | a, [] => rfl
  | a, b :: l => by
    rw [List.length_cons, List.getElem?_cons_succ]
    exact lastB_get b l
theorem linkT_self : ∀ {a : Blk} {l : List Blk}, linked a l → linkT a l = l
  | a, [], _ => rfl
  | a, b :: l, h => by
    unfold linkT
    rw [if_pos h.1, linkT_self h.2]
theorem linkT_linked : ∀ (a : Blk) (l : List Blk), linked a (linkT a l)
  | a, [] => trivial
  | a, b :: l => by
    unfold linkT
    by_cases h : b.link a = 0
    · rw [if_pos h]
      exact ⟨h, linkT_linked b l⟩
    · rw [if_neg h]
      trivial
theorem linked_snoc : ∀ {a : Blk} {l : List Blk} {b : Blk}, linked a l → b.link (lastB a l) = 0 → linked a (l ++ [b])
  | a, [], b, _, h => ⟨h, trivial⟩
  | a, c :: l, b, hl, h => ⟨hl.1, linked_snoc hl.2 h⟩
theorem linkT_take : ∀ {l : List Blk} {a b : Blk} {i : Nat}, linked a (l.take i) → l[i]? = some b → b.link (lastB a (l.take i)) ≠ 0 → linkT a l = l.take i
  | [], a, b, i, _, h, _ => by simp at h
  | c :: l, a, b, 0, _, h, hn => by
    simp only [List.getElem?_cons_zero, Option.some.injEq] at h
    subst h
    have hn : c.link a ≠ 0 := hn
    unfold linkT
    rw [if_neg hn]
    rfl
  | c :: l, a, b, i + 1, hl, h, hn => by
    rw [List.take_succ_cons] at hl hn ⊢
    unfold linkT
    rw [if_pos hl.1, linkT_take hl.2 (by simpa using h) hn]
theorem linkT_pre : ∀ (a : Blk) (l : List Blk), ∃ t, l = linkT a l ++ t
  | a, [] => ⟨[], rfl⟩
  | a, b :: l => by
    unfold linkT
    by_cases h : b.link a = 0
    · obtain ⟨t, ht⟩ := linkT_pre b l
      rw [if_pos h]
      exact ⟨t, by rw [List.cons_append, ← ht]⟩
    · rw [if_neg h]
      exact ⟨b :: l, rfl⟩
theorem link_chk {c b : Blk} (h : c.link b = 0) : c.chk = 0 ∧ b.chk = 0 ∧ c.p = b.id ∧ c.h = b.h + 1 := by
  unfold Blk.link at h
  split at h
  · cases h
  rename_i h1
  split at h
  · rename_i h2
    exact ⟨Decidable.byContradiction fun hc => h1 (.inr hc) |> fun h => h, Decidable.byContradiction fun hc => h1 (.inl hc), h2⟩
  · cases h
/-- What a tape's bytes are scanned as, whatever is left of a record that the power cut off. -/
theorem scan_part {L : List Blk} (hg : goodB L) {b : Blk} (hc : b.chk = 0) {j : Nat} (hj : j < b.rcd.length) : IsScan (layL L ++ b.rcd.take j) L := by
  refine ⟨hg, b.rcd.take j, rfl, ?_⟩
  have h := take_cut (s := []) hc hj
  rw [List.append_nil] at h
  rw [h]
  decide
theorem scan_all {L : List Blk} (hg : goodB L) : IsScan (layL L) L := ⟨hg, [], (List.append_nil _).symm, by rw [takeR_nil]; decide⟩
end Go.Fx
set_option linter.unusedVariables false
set_option linter.unusedSimpArgs false
namespace Go.Fx
/-- An entry: its key, its value, and when it came. -/
abbrev Ent (n : Nat) := Vec n × Value × Nat
abbrev kv {n : Nat} (k : Vec n) : Value := .agg (Rdr.cells (rVec n) k).toArray
def entM {n : Nat} (x : Ent n) : MapEntry := { key := kv x.1, val := x.2.1, born := x.2.2 }
def ents {n : Nat} (l : List (Ent n)) : Array MapEntry := (l.map entM).toArray
/-- Where a key stands, and what it has. -/
def findE {n : Nat} (k : Vec n) : List (Ent n) → Nat → Option (Nat × Value)
  | [], _ => none
  | x :: l, i => if k = x.1 then some (i, x.2.1) else findE k l (i + 1)
/-- The facts on a type of keys. -/
structure KeyT (P : Program) (T E n : Nat) : Prop where
  und : P.underlying T = some (.array n E)
  el : P.underlying E = some (.int .u8)
  siz : size? P E = some 1
  agg : aggr P E = some false
  eq : EqT P T (rVec n) true 2
section
variable {P : Program} {T E n : Nat} {w : World}
theorem run_key (hT : KeyT P T E n) (k : Vec n) (b : Bool) (d : Nat) : (Instr.checkKey b (d + 2) T (kv k)).run P w = .ok () w := by
  rw [show d + 2 = (d + 1) + 1 from rfl, Instr.checkKey]
  simp only [Sem.run_bind, run_underlying hT.und, Result.andThen_ok]
  simp only [Std.Legacy.Range.forIn_eq_forIn_range', Std.Legacy.Range.size, Nat.sub_zero, Nat.add_one_sub_one, Nat.div_one]
  have each : ∀ j ∈ List.range' 0 n, j < n := fun j hj => by simpa using hj
  generalize List.range' 0 n = is at each
  induction is with
  | nil => simp
  | cons j is ih =>
    have hj := each j (by simp)
    have hv : (Rdr.cells (rVec n) k).toArray[j]? = some (bv (k.1[j]'(by rw [k.2]; exact hj))) := by
      show (bvs k.1).toArray[j]? = _
      rw [List.getElem?_toArray]
      unfold bvs
      rw [List.getElem?_map, List.getElem?_eq_getElem (by rw [k.2]; exact hj)]
      rfl
    have p1 : (Go.part E (Rdr.cells (rVec n) k).toArray (j * 1)).run P w = .ok (bv (k.1[j]'(by rw [k.2]; exact hj))) w := by
      unfold Go.part
      simp [run_isAgg hT.agg, hv]
    have p2 : (Instr.checkKey b (d + 1) E (bv (k.1[j]'(by rw [k.2]; exact hj)))).run P w = .ok () w := by
      rw [Instr.checkKey]
      simp [run_underlying hT.el, bv]
    simp only [List.forIn_cons, Sem.run_bind, run_sizeOf hT.siz, Result.andThen_ok, p1, p2, Sem.run_pure]
    exact ih fun y hy => each y (by simp [hy])
theorem run_keyEq (hT : KeyT P T E n) (a b : Vec n) : (Op.equal T (kv a) (kv b)).run P w = .ok (decide (a = b)) w := hT.eq.eq 10000 (by decide) w a b
theorem run_find (hT : KeyT P T E n) (k : Vec n) : ∀ (l : List (Ent n)) (i : Nat), (Instr.findAsking T (kv k) (l.map entM) i).run P w = .ok (findE k l i) w
  | [], i => by simp [Instr.findAsking, findE]
  | x :: l, i => by
    rw [List.map_cons, Instr.findAsking]
    have h := run_keyEq (w := w) hT k x.1
    simp only [Sem.run_bind]
    rw [show (entM x).key = kv x.1 from rfl, h]
    simp only [Result.andThen_ok, findE]
    by_cases hk : k = x.1
    · simp [hk, entM]
    · simp only [hk, decide_false, Bool.false_eq_true, if_false]
      exact run_find hT k l (i + 1)
theorem run_findKey (hT : KeyT P T E n) (k : Vec n) (l : List (Ent n)) : (Instr.findKey T (kv k) (ents l).toList).run P w = .ok (findE k l 0) w := by
  rw [run_findKey_eq w (by rw [hT.und])]
  exact run_find hT k l 0
theorem get_map {g c : Nat} {es : Array MapEntry} (hg : w.heap[g]? = some (.map es c)) : (getObj g).run P w = .ok (.map es c) w := by simp [getObj, Sem.run, hg]
theorem set_map {g c : Nat} {es : Array MapEntry} (o : Obj) (hg : w.heap[g]? = some (.map es c)) : (setObj g o).run P w = .ok () (setBlk w g o) := by simp [setObj, Sem.run, hg, setBlk]
/-- What a key has. -/
def getE (k : Vec n) (l : List (Ent n)) : Option Value := (l.find? fun x => decide (k = x.1)).map (·.2.1)
theorem findE_get (k : Vec n) : ∀ (l : List (Ent n)) (i : Nat), (findE k l i).map (·.2) = getE k l
  | [], i => rfl
  | x :: l, i => by
    unfold findE getE
    by_cases h : k = x.1
    · simp [h]
    · simp only [h, if_false, List.find?_cons, decide_false]
      exact findE_get k l (i + 1)
theorem lookup_map {M V g c : Nat} {l : List (Ent n)} {z : Value} (hM : P.underlying M = some (.map T V)) (hT : KeyT P T E n) (hz : (zeroValue V).run P w = .ok z w) (hg : w.heap[g]? = some (.map (ents l) c)) (k : Vec n) (K : Value → Prop) :
    rdP P (Instr.lookup M (.map (some g)) (kv k) true) w K = K (.tuple #[(getE k l).getD z, .bool (getE k l).isSome]) := by
  refine rdP_eq ?_ K
  unfold Instr.lookup
  simp only [Sem.run_bind, run_underlying hM, Result.andThen_ok, get_map hg, Sem.run_pure, run_key hT k _ 9998, run_findKey hT k l]
  rw [← findE_get k l 0]
  cases h : findE k l 0 with
  | none => simp [hz]
  | some x => simp
theorem getE_none {k : Vec n} {l : List (Ent n)} (h : getE k l = none) (i : Nat) : findE k l i = none := by
  have := findE_get k l i
  rw [h] at this
  simpa using this
abbrev mp (g : Nat) (l : List (Ent n)) (c : Nat) : Asn := Asn.obj g (.map (ents l) c)
variable {w0 : World} {As : List Asn}
theorem makeMap_s {t : TypeId} {K : Value → World → Prop} (hs : Sep w0 w As) (h : ∀ g w', Sep w0 w' (mp (n := n) g [] 0 :: As) → K (.map (some g)) w') : efP P (Instr.makeMap t none) w K :=
  ⟨.map (some w.heap.size), w.alloc (.map #[] 0), rfl, h _ _ (hs.new (fr_alloc w _) (B := mp _ [] 0) ⟨alloc_new w _, rfl⟩ (by simp))⟩
theorem Sep.map {g c : Nat} {l : List (Ent n)} (hs : Sep w0 w (mp g l c :: As)) : w.heap[g]? = some (.map (ents l) c) := by
  obtain ⟨F, hF, _⟩ := hs.head
  exact hF
/-- A key that is not there yet. -/
theorem putNew_s {M V g c : Nat} {l : List (Ent n)} {k : Vec n} {v : Value} {K : World → Prop} (hM : P.underlying M = some (.map T V)) (hT : KeyT P T E n) (hs : Sep w0 w (mp g l c :: As)) (hk : getE k l = none)
    (h : ∀ w', Sep w0 w' (mp g (l ++ [(k, v, c)]) (c + 1) :: As) → K w') : efU P (Instr.mapUpdate M (.map (some g)) (kv k) v) w K := by
  have hg := hs.map
  obtain ⟨F, ⟨hb, rfl⟩, hu⟩ := hs.upd
  have e : (ents l).push (entM (k, v, c)) = ents (l ++ [(k, v, c)]) := by
    apply Array.ext'
    simp [ents]
  refine ⟨setBlk w g (.map (ents (l ++ [(k, v, c)])) (c + 1)), ?_, h _ (hu _ [g] (mp g _ _) ⟨setBlk_self w g _ _ hb, rfl⟩ (fr_setBlk w g _) (Grew.refl _ _))⟩
  unfold Instr.mapUpdate
  simp only [Sem.run_bind, run_underlying hM, Result.andThen_ok, get_map hg, run_key hT k _ 9998, run_findKey hT k l, getE_none hk 0]
  rw [← e]
  exact set_map _ hg
end
end Go.Fx
set_option linter.unusedVariables false
set_option linter.unusedSimpArgs false
namespace Go.Fx
section
variable {P : Program} {n : Nat} {w0 w : World} {As : List Asn}
end
end Go.Fx
set_option linter.unusedVariables false
set_option linter.unusedSimpArgs false
namespace Go.Fx
section
variable {P : Program} {T E n : Nat} {w0 w : World} {As : List Asn}
theorem bits_bv : ∀ (l : List UInt8) (m : Nat), ((bvs l).zip (bvs l)).all (fun x => Instr.sameBits (m + 1) x.1 x.2) = true
  | [], m => rfl
  | b :: l, m => by
    have ih := bits_bv l m
    unfold bvs at ih ⊢
    rw [List.map_cons, List.zip_cons_cons, List.all_cons, ih]
    simp [Instr.sameBits, bv]
theorem same_key (k : Vec n) (m : Nat) : Instr.sameBits (m + 2) (kv k) (kv k) = true := by
  show (((bvs k.1).toArray.size == (bvs k.1).toArray.size) && ((bvs k.1).toArray.toList.zip (bvs k.1).toArray.toList).all fun x => Instr.sameBits (m + 1) x.1 x.2) = true
  rw [List.toList_toArray, bits_bv]
  simp
theorem run_stays (k : Vec n) : (Instr.keyThatStays (kv k) (kv k)).run P w = .ok (kv k) w := by
  unfold Instr.keyThatStays
  rw [if_pos (same_key k 9998)]
  rfl
/-- An entry with another value. -/
def updE (k : Vec n) (v : Value) : List (Ent n) → List (Ent n)
  | [] => []
  | x :: l => if k = x.1 then (k, v, x.2.2) :: l else x :: updE k v l
theorem updE_born (k : Vec n) (v : Value) : ∀ l : List (Ent n), (updE k v l).map (·.2.2) = l.map (·.2.2)
  | [] => rfl
  | x :: l => by
    unfold updE
    split
    · rfl
    · rw [List.map_cons, updE_born k v l, List.map_cons]
theorem updE_get (k : Vec n) (v : Value) (k' : Vec n) : ∀ l : List (Ent n), (getE k l).isSome = true → getE k' (updE k v l) = if k' = k then some v else getE k' l
  | [], h => by simp [getE] at h
  | x :: l, h => by
    unfold updE
    by_cases hk : k = x.1
    · rw [if_pos hk]
      by_cases hk' : k' = k
      · unfold getE; rw [List.find?_cons_of_pos (by simpa using hk'), if_pos hk']; rfl
      · unfold getE
        rw [if_neg hk', List.find?_cons_of_neg (by simpa using hk'), List.find?_cons_of_neg (by rw [← hk]; simpa using hk')]
    · have h1 : (getE k l).isSome = true := by
        unfold getE at h ⊢
        rwa [List.find?_cons_of_neg (by simpa using hk)] at h
      have ih := updE_get k v k' l h1
      rw [if_neg hk]
      unfold getE at ih ⊢
      by_cases hx : k' = x.1
      · rw [List.find?_cons_of_pos (by simpa using hx), List.find?_cons_of_pos (by simpa using hx), if_neg (by rw [hx]; exact fun he => hk he.symm)]
      · rw [List.find?_cons_of_neg (by simpa using hx), List.find?_cons_of_neg (by simpa using hx)]
        exact ih
theorem findE_ge (k : Vec n) : ∀ (l : List (Ent n)) (i j : Nat) (y : Value), findE k l i = some (j, y) → i ≤ j
  | [], i, j, y, h => by simp [findE] at h
  | x :: l, i, j, y, h => by
    unfold findE at h
    split at h
    · simp only [Option.some.injEq, Prod.mk.injEq] at h; omega
    · have := findE_ge k l (i + 1) j y h; omega
theorem findE_key (k : Vec n) : ∀ (l : List (Ent n)) (i j : Nat) (y : Value), findE k l i = some (j, y) → ∃ x, l[j - i]? = some x ∧ x.1 = k ∧ x.2.1 = y
  | [], i, j, y, h => by simp [findE] at h
  | x :: l, i, j, y, h => by
    unfold findE at h
    split at h
    · rename_i hk
      simp only [Option.some.injEq, Prod.mk.injEq] at h
      refine ⟨x, ?_, hk.symm, h.2⟩
      rw [show j - i = 0 by omega]; rfl
    · have hg := findE_ge k l (i + 1) j y h
      obtain ⟨z, hz, h2⟩ := findE_key k l (i + 1) j y h
      refine ⟨z, ?_, h2⟩
      rw [show j - i = (j - (i + 1)) + 1 by omega]
      exact hz
theorem updE_mod (k : Vec n) (v : Value) : ∀ (l : List (Ent n)) (i j : Nat) (y : Value), findE k l i = some (j, y) → (l.map entM).modify (j - i) (fun e => { e with key := kv k, val := v }) = (updE k v l).map entM
  | [], i, j, y, h => by simp [findE] at h
  | x :: l, i, j, y, h => by
    unfold findE at h
    unfold updE
    split at h
    · rename_i hk
      simp only [Option.some.injEq, Prod.mk.injEq] at h
      rw [if_pos hk, show j - i = 0 by omega]
      rfl
    · rename_i hk
      have hg := findE_ge k l (i + 1) j y h
      have ih := updE_mod k v l (i + 1) j y h
      rw [if_neg hk, show j - i = (j - (i + 1)) + 1 by omega, List.map_cons, List.modify_succ_cons, ih, List.map_cons]
structure MOk (l : List (Ent n)) (c : Nat) : Prop where
  nd : (l.map (·.2.2)).Nodup
  lt : ∀ x ∈ l, x.2.2 < c
theorem MOk.nil : MOk ([] : List (Ent n)) 0 := ⟨by simp, fun x hx => by cases hx⟩
theorem MOk.push {l : List (Ent n)} {c : Nat} (h : MOk l c) (k : Vec n) (v : Value) : MOk (l ++ [(k, v, c)]) (c + 1) := by
  refine ⟨?_, fun x hx => ?_⟩
  · rw [List.map_append, List.nodup_append]
    refine ⟨h.nd, by simp, fun x hx y hy he => ?_⟩
    simp only [List.map_cons, List.map_nil, List.mem_singleton] at hy
    subst hy
    obtain ⟨z, hz, rfl⟩ := List.mem_map.1 hx
    have := h.lt z hz
    omega
  · rcases List.mem_append.1 hx with hx | hx
    · have := h.lt x hx; omega
    · obtain rfl : x = (k, v, c) := by simpa using hx
      show c < c + 1
      omega
theorem MOk.upd {l : List (Ent n)} {c : Nat} (h : MOk l c) (k : Vec n) (v : Value) : MOk (updE k v l) c := by
  refine ⟨by rw [updE_born]; exact h.nd, fun x hx => ?_⟩
  have h1 : x.2.2 ∈ (updE k v l).map (·.2.2) := List.mem_map_of_mem hx
  rw [updE_born] at h1
  obtain ⟨z, hz, he⟩ := List.mem_map.1 h1
  have := h.lt z hz
  omega
theorem push_get (k : Vec n) (v : Value) (c : Nat) {l : List (Ent n)} (hn : getE k l = none) (k' : Vec n) : getE k' (l ++ [(k, v, c)]) = if k' = k then some v else getE k' l := by
  unfold getE at hn ⊢
  rw [Option.map_eq_none_iff] at hn
  rw [List.find?_append]
  by_cases hk : k' = k
  · subst hk
    rw [hn, if_pos rfl]
    simp
  · rw [if_neg hk, List.find?_cons_of_neg (by simpa using hk)]
    simp
/-- A map, by what each key has. -/
def MpR (h : Heap) (g : Nat) (f : Vec n → Option Value) : Prop := ∃ l c, MOk l c ∧ (∀ k, getE k l = f k) ∧ h[g]? = some (.map (ents l) c)
def mpF (g : Nat) (f : Vec n → Option Value) : Asn := Asn.ex fun l => Asn.ex fun c => (Asn.pr (MOk l c ∧ ∀ k, getE k l = f k)).star (mp g l c)
def updF (f : Vec n → Option Value) (k : Vec n) (v : Value) : Vec n → Option Value := fun k' => if k' = k then some v else f k'
theorem mpF_open {g : Nat} {f : Vec n → Option Value} (h : Sep w0 w (mpF g f :: As)) : ∃ l c, (MOk l c ∧ ∀ k, getE k l = f k) ∧ Sep w0 w (mp g l c :: As) := by
  unfold mpF at h
  rw [Sep_ex] at h
  obtain ⟨l, h⟩ := h
  rw [Sep_ex] at h
  obtain ⟨c, h⟩ := h
  rw [Sep_star, Sep_pr] at h
  exact ⟨l, c, h.1, h.2⟩
theorem mpF_close {g c : Nat} {f : Vec n → Option Value} {l : List (Ent n)} (hl : MOk l c ∧ ∀ k, getE k l = f k) (h : Sep w0 w (mp g l c :: As)) : Sep w0 w (mpF g f :: As) := by
  unfold mpF
  rw [Sep_ex]
  refine ⟨l, ?_⟩
  rw [Sep_ex]
  exact ⟨c, by rw [Sep_star, Sep_pr]; exact ⟨hl, h⟩⟩
theorem mpF_rd {g : Nat} {f : Vec n → Option Value} (h : Sep w0 w (mpF g f :: As)) : MpR w.heap g f := by
  obtain ⟨l, c, hl, hs⟩ := mpF_open h
  exact ⟨l, c, hl.1, hl.2, hs.map⟩
theorem makeF_s {t : TypeId} {K : Value → World → Prop} (hs : Sep w0 w As) (h : ∀ g w', Sep w0 w' (mpF (n := n) g (fun _ => none) :: As) → K (.map (some g)) w') : efP P (Instr.makeMap t none) w K :=
  makeMap_s (n := n) hs fun g w' hs' => h g w' (mpF_close ⟨MOk.nil, fun _ => rfl⟩ hs')
/-- A key gets a value. -/
theorem putF_s {M V g : Nat} {f : Vec n → Option Value} {k : Vec n} {v : Value} {K : World → Prop} (hM : P.underlying M = some (.map T V)) (hT : KeyT P T E n) (hs : Sep w0 w (mpF g f :: As))
    (h : ∀ w', Sep w0 w' (mpF g (updF f k v) :: As) → K w') : efU P (Instr.mapUpdate M (.map (some g)) (kv k) v) w K := by
  obtain ⟨l, c, ⟨hok, hf⟩, hs⟩ := mpF_open hs
  cases hk : getE k l with
  | none => exact putNew_s hM hT hs hk fun w' hs' => h w' (mpF_close ⟨hok.push k v, fun k' => by rw [push_get k v c hk]; unfold updF; rw [hf]⟩ hs')
  | some y =>
    have hg := hs.map
    obtain ⟨F, ⟨hb, rfl⟩, hu⟩ := hs.upd
    have hfe := findE_get k l 0
    rw [hk] at hfe
    obtain ⟨⟨i, y'⟩, hfi, _⟩ := Option.map_eq_some_iff.1 hfe
    obtain ⟨x, hx, hxk, _⟩ := findE_key k l 0 i y' hfi
    have hm := updE_mod k v l 0 i y' hfi
    rw [Nat.sub_zero] at hx hm
    have e2 : (ents l).modify i (fun e => { e with key := kv k, val := v }) = ents (updE k v l) := by
      apply Array.ext'
      unfold ents
      rw [Array.toList_modify]
      exact hm
    refine ⟨setBlk w g (.map (ents (updE k v l)) c), ?_, h _ (mpF_close ⟨hok.upd k v, fun k' => by rw [updE_get k v k' l (by rw [hk]; rfl)]; unfold updF; rw [hf]⟩ (hu _ [g] (mp g _ _) ⟨setBlk_self w g _ _ hb, rfl⟩ (fr_setBlk w g _) (Grew.refl _ _)))⟩
    have e1 : (((ents l)[i]?).map (·.key)).getD (kv k) = kv k := by
      unfold ents
      rw [List.getElem?_toArray, List.getElem?_map, hx]
      show kv x.1 = kv k
      rw [hxk]
    unfold Instr.mapUpdate
    simp only [Sem.run_bind, run_underlying hM, Result.andThen_ok, get_map hg, run_key hT k _ 9998, run_findKey hT k l, hfi, e1, run_stays]
    rw [← e2]
    exact set_map _ hg
end
end Go.Fx
set_option linter.unusedVariables false
set_option linter.unusedSimpArgs false
namespace Go.Fx
/-- An effect that is a cut, behind which whatever holds. -/
theorem efC_cut {f : World → (Value → World → Prop) → Prop} {w : World} {K : (World → Prop) → Value → World → Prop} (h : f w fun v w' => ∃ S : World → Prop, S w' ∧ K S v w') : efC f w K := h
/-- An iterator of n values: what it hands over at place i is known by 'arg'; M: the memory that it looks at is as it was. -/
def Iter (P : Program) (g : Value) (M : Heap → Prop) (n : Nat) (arg : Nat → World → List Value → Prop) : Prop :=
  ∃ gf cap, g = .func (.func gf) #[] cap ∧ callable P gf = true ∧ ∀ (y : Value) (w0 w : World) (J : Nat → List Asn → Prop) (X : List Asn → Prop) (As : List Asn), y.oneCell' = true → J 0 As → Sep w0 w As →
    (∀ i Bs Ls z, J i Bs → Sep w0 z (Bs ++ Ls) → M z.heap) →
    (∀ i args z Bs Ls, i < n → arg i z args → J i Bs → Sep w0 z (Bs ++ Ls) → calY P y args z fun r z' => (r = .bool true ∧ ∃ Cs, J (i + 1) Cs ∧ Sep w0 z' (Cs ++ Ls)) ∨ (r = .bool false ∧ ∃ Cs, X Cs ∧ Sep w0 z' (Cs ++ Ls))) →
    cal P gf (y :: cap.toList) w fun r z' => r = .tuple #[] ∧ ((∃ Cs, J n Cs ∧ Sep w0 z' Cs) ∨ ∃ Cs, X Cs ∧ Sep w0 z' Cs)
section
variable {w0 w w' : World} {As Bs : List Asn}
theorem Sep.rot (h : Sep w0 w (As ++ Bs)) : Sep w0 w (Bs ++ As) := h.perm List.perm_append_comm
theorem Sep.objUpd {g : Nat} {o : Obj} (o' : Obj) (h : Sep w0 w (.obj g o :: As)) : Sep w0 (setBlk w g o') (.obj g o' :: As) := by
  obtain ⟨F, ⟨hb, rfl⟩, hk⟩ := h.upd
  exact hk _ [g] (.obj g o') ⟨setBlk_self w g _ _ hb, rfl⟩ (fr_setBlk w g _) (Grew.refl _ _)
theorem Sep.objAt {g : Nat} {o : Obj} (h : Sep w0 w (.obj g o :: As)) : w.heap[g]? = some o := by
  obtain ⟨F, ⟨hb, rfl⟩, hk⟩ := h.upd
  exact hb
theorem takeD_s {D : Nat} {K : World → Prop} (hs : Sep w0 w (.obj D dfB :: As)) (h : ∀ w', Sep w0 w' As → K w') : takeD [D] w K :=
  ⟨hs.objAt, h _ (hs.objUpd _).tail⟩
theorem rng_s {P : Program} {g : Value} {M : Heap → Prop} {n k : Nat} {arg : Nat → World → List Value → Prop} {rnd : List Value → World → (World → (World → Prop) → Prop) → (Option Code → World → Prop) → Prop}
    {out : Nat → List (Option Code × (World → Prop))} (hs : Sep w0 w As) (hit : Iter P g M n arg) (hk : ∀ i z args, arg i z args → args.length = k)
    (J : Nat → List Asn → Prop) (X : Code → List Asn → Prop) (h0 : J 0 As) (hM : ∀ i Bs Ls z, J i Bs → Sep w0 z (Bs ++ Ls) → M z.heap)
    (hrnd : ∀ (i : Nat) (args : List Value) (z : World) (Bs LR LB : List Asn) (bg : World → (World → Prop) → Prop) (fin : Option Code → World → Prop), i < n → J i Bs → arg i z args → Sep w0 z (Bs ++ LR) →
      (∀ z' Cs K, Sep w0 z' (Cs ++ LR) → (∀ z'', Sep w0 z'' (Cs ++ LB) → K z'') → bg z' K) →
      (∀ z' Cs, J (i + 1) Cs → Sep w0 z' (Cs ++ LB) → fin none z') → (∀ j z' Cs, X j Cs → Sep w0 z' (Cs ++ LB) → fin (some j) z') → rnd args z bg fin)
    (hN : ∀ D Bs z, J n Bs → Sep w0 z (.obj D dfB :: Bs) → outL none z (out D)) (hX : ∀ D j Bs z, X j Bs → Sep w0 z (.obj D dfB :: Bs) → outL (some j) z (out D)) : rng P g k w rnd out := by
  obtain ⟨gf, cap, hg, hcal, hI⟩ := hit
  refine ⟨gf, cap, hg, hcal, fun y rec h1 hy => ?_⟩
  have swap2 : ∀ {z : World} {Cs : List Asn} {A B : Asn}, Sep w0 z (Cs ++ [A, B]) → Sep w0 z (A :: B :: Cs) := fun h => Sep.rot h
  have swap3 : ∀ {z : World} {Cs : List Asn} {A B : Asn}, Sep w0 z (A :: B :: Cs) → Sep w0 z (Cs ++ [A, B]) := fun {z Cs A B} h => Sep.rot (As := [A, B]) h
  -- the record at the head, and back
  have hd : ∀ {z : World} {Cs Ls : List Asn} {A : Asn}, Sep w0 z (Cs ++ (A :: Ls)) → Sep w0 z (A :: (Cs ++ Ls)) := fun h => h.perm List.perm_middle
  have bk : ∀ {z : World} {Cs Ls : List Asn} {A : Asn}, Sep w0 z (A :: (Cs ++ Ls)) → Sep w0 z (Cs ++ (A :: Ls)) := fun h => h.perm List.perm_middle.symm
  refine cal_i (hI y w0 _ (fun i Bs => ∃ Cs, J i Cs ∧ Bs = Cs ++ [.obj (w.heap.size + 1) (rec .ready none), .obj w.heap.size dfB])
    (fun Bs => ∃ j Cs, X j Cs ∧ Bs = Cs ++ [.obj (w.heap.size + 1) (rec .done (some j)), .obj w.heap.size dfB]) (As ++ [.obj (w.heap.size + 1) (rec .ready none), .obj w.heap.size dfB]) h1 ⟨As, h0, rfl⟩ (swap3 ?_) ?_ ?_) ?_
  · have h2 : Sep w0 (w.alloc dfB) (.obj w.heap.size dfB :: As) := hs.new (F' := [w.heap.size]) (fr_alloc w _) (B := .obj w.heap.size dfB) ⟨alloc_new w _, rfl⟩ (by simp)
    have e : (w.alloc dfB).heap.size = w.heap.size + 1 := by simp
    refine h2.new (F' := [w.heap.size + 1]) (fr_alloc _ _) (B := .obj (w.heap.size + 1) (rec .ready none)) ⟨?_, rfl⟩ (by simp)
    have := alloc_new (w.alloc dfB) (rec .ready none)
    rwa [e] at this
  · rintro i _ Ls z ⟨Cs, hJ, rfl⟩ hB
    rw [List.append_assoc] at hB
    exact hM i Cs _ z hJ hB
  · rintro i args z _ Ls hi harg ⟨Bs, hJ, rfl⟩ hB
    rw [List.append_assoc] at hB
    refine hy args z _ (hk i z args harg) (hd hB).objAt ?_
    refine hrnd i args z Bs _ (.obj (w.heap.size + 1) (rec .busy none) :: .obj w.heap.size dfB :: Ls) _ _ hi hJ harg hB ?_ ?_ ?_
    · intro z' Cs K hz hK
      exact ⟨(hd hz).objAt, hK _ (bk ((hd hz).objUpd _))⟩
    · intro z' Cs hC hz
      exact ⟨(hd hz).objAt, .inl ⟨rfl, _, ⟨Cs, hC, rfl⟩, by rw [List.append_assoc]; exact bk ((hd hz).objUpd _)⟩⟩
    · intro j z' Cs hC hz
      exact ⟨(hd hz).objAt, .inr ⟨rfl, _, ⟨j, Cs, hC, rfl⟩, by rw [List.append_assoc]; exact bk ((hd hz).objUpd _)⟩⟩
  · rintro v z ⟨-, ⟨_, ⟨Bs, hJ, rfl⟩, hB⟩ | ⟨_, ⟨j, Bs, hX', rfl⟩, hB⟩⟩
    · exact ⟨none, (swap2 hB).objAt, hN _ Bs _ hJ ((swap2 hB).objUpd _).tail⟩
    · exact ⟨some j, (swap2 hB).objAt, hX _ j Bs _ hX' ((swap2 hB).objUpd _).tail⟩
end
end Go.Fx
set_option linter.unusedVariables false
set_option linter.unusedSimpArgs false
namespace Go.Fx
theorem tpEqual_spec {w : World} {x y : Value} {a b : List UInt8} (hx : RdB w.heap x a) (hy : RdB w.heap y b) : cal P f_bytes_Equal [x, y] w fun v w' => v = .bool (a == b) ∧ w = w' := by
  refine s_bytes_Equal fun R hR => ?_
  unfold c_bytes_Equal
  rw [rdP_eq (conv_str UT_bytes UT_uint8 UT_string hx), rdP_eq (conv_str UT_bytes UT_uint8 UT_string hy), eqS_str]
  exact hR _ _ ⟨rfl, rfl⟩
structure Tp where
  b : List UInt8
  armed : Int
  off : Bool
  made : Bool
def Tp.may (x : Tp) : Int := if x.made then (if x.off then 5 else 0) else 2
/-- A tape that may be. -/
def Tp.Ok (x : Tp) : Prop := x.b.length ≤ 262144 ∧ -1 ≤ x.armed ∧ x.armed ≤ 9223372036854775807
def tp (p : Value) (x : Tp) : Asn :=
  .ex fun g => .ex fun s => .star (.pr (p = .pointer (some ⟨g, 0, none⟩))) (.star (blk g #[s, .int .i64 x.armed, .bool x.off, .bool x.made] T_tape_Tape) (ownB s x.b))
def Tp.goes (x : Tp) : Tp := { x with off := true, armed := -1 }
def Tp.append (x : Tp) (a : List UInt8) : Tp × Int :=
  if x.may ≠ 0 then (x, x.may) else if 262144 < x.b.length + a.length then (x, 6) else if x.armed = -1 then ({ x with b := x.b ++ a }, 0) else
  if (a.length : Int) ≤ x.armed then ({ x with b := x.b ++ a, armed := x.armed - a.length }, 0) else ({ x with b := x.b ++ a.take x.armed.toNat, off := true, armed := -1 }, 5)
def Tp.truncate (x : Tp) (n : Int) : Tp × Int :=
  if x.may ≠ 0 then (x, x.may) else if n < 0 ∨ (x.b.length : Int) < n then (x, 1) else ({ x with b := x.b.take n.toNat }, 0)
def Tp.arm (x : Tp) (n : Int) : Tp × Int := if x.may ≠ 0 then (x, x.may) else if n < 0 then (x, 1) else ({ x with armed := n }, 0)
def Tp.crash (x : Tp) : Tp × Int := if x.may ≠ 0 then (x, x.may) else (x.goes, 0)
def Tp.restart (x : Tp) : Tp × Int := if x.may = 0 then (x, 7) else if x.may = 5 then ({ x with off := false }, 0) else (x, 2)
def joined (l : List (Sl UInt8)) : List UInt8 := l.flatMap (·.l)
theorem joined_take_succ {l : List (Sl UInt8)} {k : Nat} {a : Sl UInt8} (h : l[k]? = some a) : joined (l.take (k + 1)) = joined (l.take k) ++ a.l := by
  rw [List.take_add_one, h]
  simp [joined]
theorem joined_take_le (l : List (Sl UInt8)) (k : Nat) : (joined (l.take k)).length ≤ (joined l).length := by
  conv => rhs; rw [← List.take_append_drop k l]
  unfold joined
  rw [List.flatMap_append, List.length_append]
  omega
section
variable {w0 w : World} {As : List Asn} {p : Value} {x : Tp}
theorem tp_open : Sep w0 w (tp p x :: As) = ∃ g s, p = .pointer (some ⟨g, 0, none⟩) ∧ Sep w0 w (blk g #[s, .int .i64 x.armed, .bool x.off, .bool x.made] T_tape_Tape :: ownB s x.b :: As) := by
  simp only [tp, Sep_ex, Sep_star, Sep_pr]
theorem tp_i {g : Nat} {s : Value} (hs : Sep w0 w (blk g #[s, .int .i64 x.armed, .bool x.off, .bool x.made] T_tape_Tape :: ownB s x.b :: As)) : Sep w0 w (tp (.pointer (some ⟨g, 0, none⟩)) x :: As) := by
  rw [tp_open]; exact ⟨g, s, rfl, hs⟩
theorem tp_nilP (hs : Sep w0 w (tp p x :: As)) (b : Bool) (K : Value → Prop) : nilP b p K = K (.bool b) := by
  rw [tp_open] at hs
  obtain ⟨g, s, rfl, hs⟩ := hs
  rw [nilP_mk]
  cases b <;> rfl
theorem tpMay_spec (hs : Sep w0 w (tp p x :: As)) : cal P f_tape_Tape_may [p] w fun v w' => v = .int .i64 x.may ∧ w = w' := by
  rw [tp_open] at hs
  obtain ⟨g, s, rfl, hs⟩ := hs
  have hg := hs.blk
  refine s_tape_Tape_may fun R hR => ?_
  unfold c_tape_Tape_may
  obtain ⟨b, armed, off, made⟩ := x
  cases made <;> cases off <;> simp only [fx, Nat.reduceAdd, forall_const, ld1_eq hg] <;> exact hR _ _ ⟨rfl, rfl⟩
theorem tpGoes_spec (hs : Sep w0 w (tp p x :: As)) : cal P f_tape_Tape_goes [p] w fun v w' => v = .tuple #[] ∧ Sep w0 w' (tp p x.goes :: As) := by
  rw [tp_open] at hs
  obtain ⟨g, s, rfl, hs⟩ := hs
  refine s_tape_Tape_goes fun R hR => ?_
  unfold c_tape_Tape_goes
  simp only [fx, Nat.reduceAdd, forall_const]
  refine st1_s hs (by simp) rfl fun w1 hs => ?_
  refine st1_s hs (by simp) rfl fun w2 hs => ?_
  exact hR _ _ ⟨rfl, tp_i hs⟩
theorem tpTold_spec {v : Value} {l : List UInt8} (hb : RdB w.heap v l) (hl : l.length ≤ 281474976710656) : cal P f_tape_told [v] w fun r w' => Sep w w' [ownB r l] := by
  refine s_tape_told fun R hR => ?_
  unfold c_tape_told
  rw [hb.len]
  refine mkB_s (Sep.start w) ST_bytes ZC_uint8 hl fun g w1 hs => ?_
  refine cpyB_s ST_bytes hs (hs.rdB hb) fun w2 hs => ?_
  have e1 : l.take (List.replicate l.length (0 : UInt8)).length ++ (List.replicate l.length (0 : UInt8)).drop l.length = l := by simp
  rw [e1] at hs
  have e2 : min l.length (List.replicate l.length (0 : UInt8)).length = l.length := by simp
  rw [e2, slc3 UT_bytes ST_bytes.siz (Nat.le_refl _)]
  exact hR _ _ hs
theorem tpNew_spec : cal P f_tape_New [] w fun v w' => Sep w w' [tp v ⟨[], -1, false, true⟩] := by
  refine s_tape_New fun R hR => ?_
  unfold c_tape_New
  have hb : (Instr.build T_tape_Tape #[(1, .int .i64 (-1)), (3, .bool true)]).run P w = .ok (.agg #[.slice none 0 0, .int .i64 (-1), .bool false, .bool true]) w := by kernel_rfl
  rw [rdP_eq hb]
  refine bx_s (Sep.start w) fun g w1 hs => ?_
  exact hR _ _ (tp_i hs.nil.p1)
theorem tpOf_spec {v : Value} {l : List UInt8} (hb : RdB w.heap v l) : cal P f_tape_Of [v] w fun r w' =>
    (262144 < l.length ∧ r = .tuple #[.pointer none, .int .i64 3] ∧ w = w') ∨ (l.length ≤ 262144 ∧ ∃ p, r = .tuple #[p, .int .i64 0] ∧ Sep w w' [tp p ⟨l, -1, false, true⟩]) := by
  refine s_tape_Of fun R hR => ?_
  unfold c_tape_Of
  simp only [fx, Nat.reduceAdd, forall_const, hb.len]
  rw [cnd_bool]
  refine ⟨fun h => ?_, fun h => ?_⟩
  · exact hR _ _ (.inl ⟨by simp at h; omega, rfl, rfl⟩)
  · have h : l.length ≤ 262144 := by simp at h; omega
    refine cal_i tpNew_spec ?_
    rintro p w1 hs
    refine cal_i (tpTold_spec (hs.rdB hb) (by omega)) ?_
    rintro r w2 hs2
    replace hs := (hs.join hs2).p1
    clear hs2
    rw [tp_open] at hs
    obtain ⟨g, s, rfl, hs⟩ := hs
    simp only [fx, Nat.reduceAdd, forall_const]
    refine st1_s hs (by simp) hs.p2.one fun w3 hs => ?_
    exact hR _ _ (.inr ⟨h, _, rfl, tp_i hs.d1⟩)
theorem tpAppend_spec {s : Sl (Sl UInt8)} (hs : Sep w0 w (tp p x :: As)) (hx : x.Ok) (hv : ∀ w', Sep w0 w' As → (rSl rBytes).ok w'.heap s) :
    cal P f_tape_Tape_Append [p, s.v] w fun v w' => v = .int .i64 (x.append (joined s.l)).2 ∧ Sep w0 w' (tp p (x.append (joined s.l)).1 :: As) := by
  refine s_tape_Tape_Append fun R hR => ?_
  unfold c_tape_Tape_Append
  refine cal_i (tpMay_spec hs) ?_
  rintro _ _ ⟨rfl, rfl⟩
  simp only [fx, Nat.reduceAdd, forall_const]
  rw [cnd_bool]
  refine ⟨fun h => ?_, fun h => ?_⟩
  · have h : x.may ≠ 0 := by simpa using h
    exact hR _ _ ⟨by simp [Tp.append, h], by simpa [Tp.append, h] using hs⟩
  have hmay : x.may = 0 := by simpa using h
  obtain ⟨xb, armed, off, made⟩ := x
  obtain ⟨rfl, rfl⟩ : made = true ∧ off = false := by cases made <;> cases off <;> simp [Tp.may] at hmay ⊢
  obtain ⟨hx1, hx2, hx3⟩ := hx
  simp only at hx1 hx2 hx3
  have hok := hv w hs.tail
  have hlen := hok.2.1
  rw [tp_open] at hs
  obtain ⟨g, sv, rfl, hs⟩ := hs
  have hg := hs.blk
  simp only [fx, Nat.reduceAdd, forall_const, ld1_eq hg, hs.p1.rd.len, rSl_len hok]
  rw [wi64 (by omega) (by omega)]
  refine ⟨fun y i w' => ∃ k : Nat, w' = w ∧ k ≤ s.l.length ∧ i = .int .i64 k ∧ y = .int .i64 (262144 - xb.length - (joined (s.l.take k)).length) ∧ xb.length + (joined (s.l.take k)).length ≤ 262144,
    fun _ i _ => (s.l.length - RowKit.intOf i).toNat, ⟨0, rfl, by omega, rfl, by simp [joined], by simp [joined]; omega⟩, ?_⟩
  rintro _ _ _ ⟨k, rfl, hk, rfl, rfl, hsum⟩ -
  simp only [fx, Nat.reduceAdd, forall_const]
  rw [cnd_bool]
  refine ⟨fun h => ?_, fun h => ?_⟩
  · have hlt : k < s.l.length := by simpa using h
    obtain ⟨a, ha⟩ : ∃ a, s.l[k]? = some a := ⟨_, List.getElem?_eq_getElem hlt⟩
    have hak := rSl_ok hok ha
    refine rSl_ld1 hok ha rfl ?_
    simp only [fx, Nat.reduceAdd, forall_const, rBytes_len hak]
    have hj := joined_take_succ ha
    have hjl := congrArg List.length hj
    rw [List.length_append] at hjl
    have hal := hak.2.1
    rw [cnd_bool]
    refine ⟨fun h => ?_, fun h => ?_⟩
    · have hle := joined_take_le s.l (k + 1)
      have h6 : 262144 < xb.length + (joined s.l).length := by simp at h; omega
      exact hR _ _ ⟨by simp [Tp.append, Tp.may, h6], by simpa [Tp.append, Tp.may, h6] using tp_i (x := ⟨xb, armed, false, true⟩) hs⟩
    · have h : a.l.length ≤ 262144 - xb.length - (joined (s.l.take k)).length := by simp at h; omega
      rw [wi64 (by omega) (by omega), wi64 (by omega) (by omega)]
      exact ⟨⟨k + 1, by simp, by omega, by simp, by congr 1; omega, by omega⟩, by simp [RowKit.intOf]; omega⟩
  have hkl : k = s.l.length := by simp at h; omega
  subst hkl
  rw [List.take_length] at hsum
  have h6 : ¬ 262144 < xb.length + (joined s.l).length := by omega
  refine ⟨fun i w' => ∃ (k : Nat) (sv : Value) (arm : Int), k ≤ s.l.length ∧ i = .int .i64 k ∧ (armed = -1 → arm = -1) ∧ (armed ≠ -1 → arm = armed - (joined (s.l.take k)).length ∧ 0 ≤ arm) ∧
      Sep w0 w' (blk g #[sv, .int .i64 arm, .bool false, .bool true] T_tape_Tape :: ownB sv (xb ++ joined (s.l.take k)) :: As),
    fun i _ => (s.l.length - RowKit.intOf i).toNat, ⟨0, sv, armed, by omega, rfl, id, fun h => ⟨by simp [joined], by omega⟩, by simpa [joined] using hs⟩, ?_⟩
  rintro _ w1 ⟨k, sv1, arm, hk, rfl, hm1, hm2, hs1⟩ -
  simp only [fx, Nat.reduceAdd, forall_const]
  rw [cnd_bool]
  refine ⟨fun h => ?_, fun h => ?_⟩
  · have hlt : k < s.l.length := by simpa using h
    obtain ⟨a, ha⟩ : ∃ a, s.l[k]? = some a := ⟨_, List.getElem?_eq_getElem hlt⟩
    have hok1 := hv w1 hs1.tail.tail
    have hak := rSl_ok hok1 ha
    refine rSl_ld1 hok1 ha rfl ?_
    have hg1 := hs1.blk
    have hj := joined_take_succ ha
    have hle := joined_take_le s.l (k + 1)
    have hjl := congrArg List.length hj
    rw [List.length_append] at hjl
    have hal := hak.2.1
    obtain ⟨ap, ac, hav⟩ := hak.1.form
    have hac := hak.2.2 _ _ _ hav
    simp only [fx, Nat.reduceAdd, forall_const, rBytes_len hak, ld1_eq hg1]
    refine ⟨fun y w' => ∃ (n : Nat) (arm' : Int), y = .int .i64 n ∧ n ≤ a.l.length ∧ (armed = -1 → n = a.l.length ∧ arm' = -1) ∧ (armed ≠ -1 → n = min a.l.length arm.toNat ∧ arm' = arm - n) ∧
        Sep w0 w' (blk g #[sv1, .int .i64 arm', .bool false, .bool true] T_tape_Tape :: ownB sv1 (xb ++ joined (s.l.take k)) :: As), ?_, ?_⟩
    · change cnd _ _ _
      rw [cnd_bool]
      refine ⟨fun h => ?_, fun h => ?_⟩
      · have harm : arm ≠ -1 := by simpa using h
        have hne : armed ≠ -1 := fun h => harm (hm1 h)
        obtain ⟨e1, e2⟩ := hm2 hne
        rw [min_int, show min (a.l.length : Int) arm = ((min a.l.length arm.toNat : Nat) : Int) by omega, bi_sub, wi64 (by omega) (by omega)]
        refine st1_s hs1 (by simp) rfl fun w2 hs2 => ?_
        exact ⟨min a.l.length arm.toNat, _, rfl, by omega, fun h => absurd h hne, fun _ => ⟨rfl, rfl⟩, hs2⟩
      · have harm : arm = -1 := by simpa using h
        have hne : armed = -1 := by
          rcases Classical.em (armed = -1) with h | h
          · exact h
          · have := hm2 h; omega
        exact ⟨a.l.length, arm, rfl, by omega, fun _ => ⟨rfl, harm⟩, fun h => absurd hne h, hs1⟩
    · rintro _ w2 ⟨n, arm', rfl, hn, hn1, hn2, hs2⟩ -
      have hs2 := hs2.drew (w2.drawn + 1)
      refine drH_at ?_
      simp only [fx, Nat.reduceAdd, forall_const, rdS_ld1, ld1_eq hs2.blk]
      rw [hav, slc_to (by omega)]
      refine efC_efP ?_
      have hok2 := hv _ hs2.tail.tail
      have hak2 := rSl_ok hok2 ha
      have hr2 := hak2.1
      rw [hav] at hr2
      refine appB_s ST_bytes UT_bytes (by simp) hs2.p1 (hr2.take hn ac) (by simp; omega) fun v' w3 hs3 => ?_
      refine efC_st1 (st1_s hs3.p1 (by simp) hs3.one fun w4 hs4 => ?_)
      rw [cnd_bool]
      refine ⟨fun h => ?_, fun h => ?_⟩
      · have hna : n < a.l.length := by simpa using h
        have hne : armed ≠ -1 := fun h => by have := hn1 h; omega
        obtain ⟨e1, e2⟩ := hm2 hne
        obtain ⟨e3, e4⟩ := hn2 hne
        have hs5 := tp_i (x := ⟨xb ++ joined (s.l.take k) ++ a.l.take n, arm', false, true⟩) hs4
        refine cal_i (tpGoes_spec hs5) ?_
        rintro _ w5 ⟨rfl, hs6⟩
        have h7 : ¬ (joined s.l).length ≤ armed := by omega
        have e8 : (joined s.l).take armed.toNat = joined (s.l.take k) ++ a.l.take n := by
          have e9 : joined s.l = joined (s.l.take k) ++ a.l ++ joined (s.l.drop (k + 1)) := by
            rw [← hj]
            unfold joined
            rw [← List.flatMap_append, List.take_append_drop]
          rw [e9, show armed.toNat = (joined (s.l.take k)).length + n by omega, List.append_assoc, List.take_append, List.take_of_length_le (by omega), Nat.add_sub_cancel_left, List.take_append_of_le_length (by omega)]
        refine hR _ _ ⟨by simp [Tp.append, Tp.may, h6, hne, h7], ?_⟩
        simpa [Tp.append, Tp.may, h6, hne, h7, e8, Tp.goes] using hs6
      · have hna : n = a.l.length := by simp at h; omega
        rw [wi64 (by omega) (by omega)]
        refine ⟨⟨k + 1, v', arm', by omega, by simp, fun h => (hn1 h).2, fun h => ?_, ?_⟩, by simp [RowKit.intOf]; omega⟩
        · have e1 := hm2 h
          have e2 := hn2 h
          omega
        · rw [hj, ← List.append_assoc]
          rw [hna, List.take_length] at hs4
          exact hs4
  · have hkl : k = s.l.length := by simp at h; omega
    subst hkl
    rw [List.take_length] at hs1 hm2
    by_cases hne : armed = -1
    · have e1 := hm1 hne
      subst e1
      exact hR _ _ ⟨by simp [Tp.append, Tp.may, h6, hne], by simpa [Tp.append, Tp.may, h6, hne] using tp_i (x := ⟨xb ++ joined s.l, -1, false, true⟩) hs1⟩
    · obtain ⟨e1, e2⟩ := hm2 hne
      have h7 : (joined s.l).length ≤ armed := by omega
      exact hR _ _ ⟨by simp [Tp.append, Tp.may, h6, hne, h7], by simpa [Tp.append, Tp.may, h6, hne, h7, e1] using tp_i (x := ⟨xb ++ joined s.l, arm, false, true⟩) hs1⟩
end
end Go.Fx
set_option linter.unusedVariables false
set_option linter.unusedSimpArgs false
namespace Go.Fx
theorem Tp.may_zero {x : Tp} : x.may = 0 ↔ x.made = true ∧ x.off = false := by
  obtain ⟨b, armed, off, made⟩ := x
  cases made <;> cases off <;> simp [Tp.may]
theorem Tp.may_five {x : Tp} : x.may = 5 ↔ x.made = true ∧ x.off = true := by
  obtain ⟨b, armed, off, made⟩ := x
  cases made <;> cases off <;> simp [Tp.may]
theorem Tp.append_ok {x : Tp} (h : x.Ok) (a : List UInt8) : (x.append a).1.Ok := by
  unfold Tp.append
  obtain ⟨h1, h2, h3⟩ := h
  repeat' split
  all_goals first | exact ⟨h1, h2, h3⟩ | (refine ⟨?_, ?_, ?_⟩ <;> simp <;> omega)
theorem Tp.arm_ok {x : Tp} (h : x.Ok) {n : Int} (hn : n ≤ 9223372036854775807) : (x.arm n).1.Ok := by
  unfold Tp.arm
  obtain ⟨h1, h2, h3⟩ := h
  repeat' split
  all_goals first | exact ⟨h1, h2, h3⟩ | (refine ⟨?_, ?_, ?_⟩ <;> simp <;> omega)
theorem Tp.crash_ok {x : Tp} (h : x.Ok) : x.crash.1.Ok := by
  unfold Tp.crash Tp.goes
  obtain ⟨h1, h2, h3⟩ := h
  split
  all_goals first | exact ⟨h1, h2, h3⟩ | exact ⟨h1, by simp, by simp⟩
theorem Tp.restart_ok {x : Tp} (h : x.Ok) : x.restart.1.Ok := by
  unfold Tp.restart
  obtain ⟨h1, h2, h3⟩ := h
  repeat' split
  all_goals exact ⟨h1, h2, h3⟩
section
variable {w0 w : World} {As : List Asn} {p : Value} {x : Tp}
theorem tpTruncate_spec {n : Int} (hs : Sep w0 w (tp p x :: As)) (hx : x.Ok) : cal P f_tape_Tape_Truncate [p, .int .i64 n] w fun v w' => v = .int .i64 (x.truncate n).2 ∧ Sep w0 w' (tp p (x.truncate n).1 :: As) := by
  refine s_tape_Tape_Truncate fun R hR => ?_
  unfold c_tape_Tape_Truncate
  refine cal_i (tpMay_spec hs) ?_
  rintro _ _ ⟨rfl, rfl⟩
  simp only [fx, Nat.reduceAdd, forall_const]
  rw [cnd_bool]
  refine ⟨fun h => ?_, fun h => ?_⟩
  · have h : x.may ≠ 0 := by simpa using h
    exact hR _ _ ⟨by simp [Tp.truncate, h], by simpa [Tp.truncate, h] using hs⟩
  have hmay : x.may = 0 := by simpa using h
  obtain ⟨hx1, hx2, hx3⟩ := hx
  rw [tp_open] at hs
  obtain ⟨g, sv, rfl, hs⟩ := hs
  have hg := hs.blk
  simp only [fx, Nat.reduceAdd, forall_const, ld1_eq hg, hs.p1.rd.len]
  rw [cnd_bool]
  refine ⟨fun h => ?_, fun h => ?_⟩
  · have h : n < 0 ∨ (x.b.length : Int) < n := by simpa using h
    exact hR _ _ ⟨by simp [Tp.truncate, hmay, h], by simpa [Tp.truncate, hmay, h] using tp_i hs⟩
  · have h : ¬ (n < 0 ∨ (x.b.length : Int) < n) := by simpa using h
    obtain ⟨m, rfl⟩ := Int.eq_ofNat_of_zero_le (show 0 ≤ n by omega)
    obtain ⟨a, c, rfl, hc⟩ := hs.p1.form
    have hm : m ≤ x.b.length := by omega
    rw [slc_to (by omega)]
    refine cal_i (tpTold_spec (hs.p1.rd.take hm c) (by simp; omega)) ?_
    rintro r w1 hs1
    replace hs := (hs.join hs1).p1
    refine st1_s hs (by simp) hs.p1.one fun w2 hs2 => ?_
    have ht : x.truncate m = ({ x with b := x.b.take m }, 0) := by rw [Tp.truncate, if_neg (by simp [hmay]), if_neg (by omega)]; simp
    exact hR _ _ ⟨by rw [ht], by rw [ht]; exact tp_i (x := { x with b := x.b.take m }) hs2.d2⟩
theorem tpArm_spec {n : Int} (hs : Sep w0 w (tp p x :: As)) : cal P f_tape_Tape_Arm [p, .int .i64 n] w fun v w' => v = .int .i64 (x.arm n).2 ∧ Sep w0 w' (tp p (x.arm n).1 :: As) := by
  refine s_tape_Tape_Arm fun R hR => ?_
  unfold c_tape_Tape_Arm
  refine cal_i (tpMay_spec hs) ?_
  rintro _ _ ⟨rfl, rfl⟩
  simp only [fx, Nat.reduceAdd, forall_const]
  rw [cnd_bool]
  refine ⟨fun h => ?_, fun h => ?_⟩
  · have h : x.may ≠ 0 := by simpa using h
    exact hR _ _ ⟨by simp [Tp.arm, h], by simpa [Tp.arm, h] using hs⟩
  have hmay : x.may = 0 := by simpa using h
  rw [cnd_bool]
  refine ⟨fun h => ?_, fun h => ?_⟩
  · have h : n < 0 := by simpa using h
    exact hR _ _ ⟨by simp [Tp.arm, hmay, h], by simpa [Tp.arm, hmay, h] using hs⟩
  · have h : ¬ n < 0 := by simpa using h
    rw [tp_open] at hs
    obtain ⟨g, sv, rfl, hs⟩ := hs
    simp only [fx, Nat.reduceAdd, forall_const]
    refine st1_s hs (by simp) rfl fun w2 hs2 => ?_
    exact hR _ _ ⟨by simp [Tp.arm, hmay, h], by simpa [Tp.arm, hmay, h] using tp_i (x := { x with armed := n }) hs2⟩
theorem tpCrash_spec (hs : Sep w0 w (tp p x :: As)) : cal P f_tape_Tape_Crash [p] w fun v w' => v = .int .i64 x.crash.2 ∧ Sep w0 w' (tp p x.crash.1 :: As) := by
  refine s_tape_Tape_Crash fun R hR => ?_
  unfold c_tape_Tape_Crash
  refine cal_i (tpMay_spec hs) ?_
  rintro _ _ ⟨rfl, rfl⟩
  simp only [fx, Nat.reduceAdd, forall_const]
  rw [cnd_bool]
  refine ⟨fun h => ?_, fun h => ?_⟩
  · have hmay : x.may = 0 := by simpa using h
    refine cal_i (tpGoes_spec hs) ?_
    rintro _ w1 ⟨rfl, hs⟩
    exact hR _ _ ⟨by simp [Tp.crash, hmay], by simpa [Tp.crash, hmay] using hs⟩
  · have h : x.may ≠ 0 := by simpa using h
    exact hR _ _ ⟨by simp [Tp.crash, h], by simpa [Tp.crash, h] using hs⟩
theorem tpRestart_spec (hs : Sep w0 w (tp p x :: As)) : cal P f_tape_Tape_Restart [p] w fun v w' => v = .int .i64 x.restart.2 ∧ Sep w0 w' (tp p x.restart.1 :: As) := by
  refine s_tape_Tape_Restart fun R hR => ?_
  unfold c_tape_Tape_Restart
  refine cal_i (tpMay_spec hs) ?_
  rintro _ _ ⟨rfl, rfl⟩
  simp only [fx, Nat.reduceAdd, forall_const]
  rw [cnd_bool]
  refine ⟨fun h => ?_, fun h => ?_⟩
  · have hmay : x.may = 0 := by simpa using h
    exact hR _ _ ⟨by simp [Tp.restart, hmay], by simpa [Tp.restart, hmay] using hs⟩
  have h0 : x.may ≠ 0 := by simpa using h
  rw [cnd_bool]
  refine ⟨fun h => ?_, fun h => ?_⟩
  · have h : x.may = 5 := by simpa using h
    rw [tp_open] at hs
    obtain ⟨g, sv, rfl, hs⟩ := hs
    simp only [fx, Nat.reduceAdd, forall_const]
    refine st1_s hs (by simp) rfl fun w2 hs2 => ?_
    exact hR _ _ ⟨by simp [Tp.restart, h], by simpa [Tp.restart, h] using tp_i (x := { x with off := false }) hs2⟩
  · have h : x.may ≠ 5 := by simpa using h
    exact hR _ _ ⟨by simp [Tp.restart, h, h0], by simpa [Tp.restart, h, h0] using hs⟩
theorem tpOn_spec (hs : Sep w0 w (tp p x :: As)) : cal P f_tape_Tape_On [p] w fun v w' => v = .bool (x.made && !x.off) ∧ w = w' := by
  refine s_tape_Tape_On fun R hR => ?_
  unfold c_tape_Tape_On
  refine cal_i (tpMay_spec hs) ?_
  rintro _ _ ⟨rfl, rfl⟩
  simp only [fx, Nat.reduceAdd, forall_const]
  refine hR _ _ ⟨?_, rfl⟩
  obtain ⟨b, armed, off, made⟩ := x
  cases made <;> cases off <;> rfl
theorem tpBytes_spec (hs : Sep w0 w (tp p x :: As)) (hx : x.Ok) (hm : x.made = true) : cal P f_tape_Tape_Bytes [p] w fun v w' => Sep w w' [ownB v x.b] := by
  refine s_tape_Tape_Bytes fun R hR => ?_
  unfold c_tape_Tape_Bytes
  refine cal_i (tpMay_spec hs) ?_
  rintro _ _ ⟨rfl, rfl⟩
  have h2 : (x.may == 2) = false := by cases h : x.off <;> simp [Tp.may, hm, h]
  simp only [fx, Nat.reduceAdd, forall_const, h2]
  rw [tp_open] at hs
  obtain ⟨g, sv, rfl, hs⟩ := hs
  simp only [fx, Nat.reduceAdd, forall_const, ld1_eq hs.blk]
  obtain ⟨hx1, hx2, hx3⟩ := hx
  exact cal_i (tpTold_spec hs.p1.rd (by omega)) fun v w' h => hR _ _ h
theorem tpLen_spec (hs : Sep w0 w (tp p x :: As)) (hm : x.made = true) : cal P f_tape_Tape_Len [p] w fun v w' => v = .int .i64 x.b.length ∧ w = w' := by
  refine s_tape_Tape_Len fun R hR => ?_
  unfold c_tape_Tape_Len
  refine cal_i (tpMay_spec hs) ?_
  rintro _ _ ⟨rfl, rfl⟩
  have h2 : (x.may == 2) = false := by cases h : x.off <;> simp [Tp.may, hm, h]
  simp only [fx, Nat.reduceAdd, forall_const, h2]
  rw [tp_open] at hs
  obtain ⟨g, sv, rfl, hs⟩ := hs
  simp only [fx, Nat.reduceAdd, forall_const, ld1_eq hs.blk, hs.p1.rd.len]
  exact hR _ _ ⟨rfl, rfl⟩
theorem tpClone_spec (hs : Sep w0 w (tp p x :: As)) (hx : x.Ok) (hm : x.made = true) : cal P f_tape_Tape_Clone [p] w fun v w' => Sep w w' [tp v x] := by
  refine s_tape_Tape_Clone fun R hR => ?_
  unfold c_tape_Tape_Clone
  refine cal_i (tpMay_spec hs) ?_
  rintro _ _ ⟨rfl, rfl⟩
  have h2 : (x.may == 2) = false := by cases h : x.off <;> simp [Tp.may, hm, h]
  simp only [fx, Nat.reduceAdd, forall_const, h2]
  rw [tp_open] at hs
  obtain ⟨g, sv, rfl, hs⟩ := hs
  obtain ⟨hx1, hx2, hx3⟩ := hx
  have hr := hs.p1.rd
  have h1 := hs.p1.one
  simp only [fx, Nat.reduceAdd, forall_const, ldN_eq hs.blk]
  refine ⟨by simp, ?_⟩
  refine alloc_s (Sep.start w) (al_tape_Tape w) fun g1 w1 hs1 => ?_
  refine stN_s hs1 (by simp) (by simp) (by simp; exact ⟨h1, rfl, rfl, rfl⟩) fun w2 hs2 => ?_
  have hfr := hs2.fr0
  have hg := hfr.blk hs.blk (by simp)
  simp only [fx, Nat.reduceAdd, forall_const, ld1_eq hg]
  refine cal_i (tpTold_spec (hs2.rdB hr) (by omega)) ?_
  rintro r w3 hs3
  replace hs2 := (hs2.join hs3).p1
  clear hs3
  refine st1_s hs2 (by simp [splice]) hs2.p1.one fun w4 hs4 => ?_
  exact hR _ _ (tp_i hs4)
end
/-! ### One that no call made -/
section
variable {w : World} {p : Value} (hm : ∀ w', w' = w → cal P f_tape_Tape_may [p] w' fun v w'' => v = .int .i64 2 ∧ w' = w'')
include hm
end
end Go.Fx
set_option linter.unusedVariables false
set_option linter.unusedSimpArgs false
namespace Go.Fx
theorem KTc : KeyT P T_api_ID T_uint8 32 := ⟨U_api_ID, U_uint8, by kernel_rfl, by kernel_rfl, EQ_api_ID⟩
/-- A row, read in a region that draws (as in TrC, for other seats). -/
theorem rdS_rowC {α : Type} {q : Rdr α} {S : World → Prop} {w : World} {v : Value} {l : List α} {j : Nat} {a : α} {K : Value → Prop} (hp : 0 < q.size)
    (hw : S w) (hS : ∀ u, S u → Rows' q u.heap v l) (hj : l[j]? = some a) (k : IntKind) (h : K (.agg (q.cells a).toArray)) : ixs q.size v (.int k (j : Int)) fun t => rdS S (fun w => ldN q.size t w.heap) K := by
  obtain ⟨g, o, c, rfl⟩ := (hS w hw).form hp hj
  have hlt := (List.getElem?_eq_some_iff.1 hj).1
  rw [ixs_mk _ _ _ _ _ _ _ _ (by omega) (by omega), Int.toNat_natCast]
  refine ⟨.agg (q.cells a).toArray, fun z hz => ?_, h⟩
  have hat := At.of hp (hS z hz) hj
  exact (At.ldN hat (q.len a) _).mpr rfl
/-- Where each name's block stands: the last one of a name. -/
def atF (L : List Blk) : Vec 32 → Option Value := L.zipIdx.foldl (fun f x => updF f x.1.id (.int .i64 (x.2 : Nat))) fun _ => none
theorem atF_snoc (L : List Blk) (b : Blk) : atF (L ++ [b]) = updF (atF L) b.id (.int .i64 (L.length : Nat)) := by
  unfold atF
  rw [List.zipIdx_append, List.foldl_append]
  simp
abbrev blks (B : List BV) : List Blk := B.map (·.1)
def chH (g gi gm : Nat) (lv iv pt : Value) (over : Bool) (B : List BV) : List Asn :=
  [blk g (Rdr.cells Q_chain_Chain (.pointer (some ⟨gi, 0, none⟩), lv, iv, .map (some gm), over)).toArray T_chain_Chain, blk gi #[pt] T_chain_held, rows Q_api_Block lv (B.map BV.t), rows (rVec 32) iv (B.map (·.1.id)), mpF gm (atF (blks B))]
def DatB (B : List BV) (As : List Asn) : Prop := ∀ x ∈ B, ownB x.2 x.1.d ∈ As
structure ChR (h : Heap) (g gi : Nat) (lv iv m pt : Value) (over : Bool) (B : List BV) : Prop where
  cell : ∃ T fr, h[g]? = some (.cells (Rdr.cells Q_chain_Chain (.pointer (some ⟨gi, 0, none⟩), lv, iv, m, over)).toArray T fr)
  inn : ∃ T fr, h[gi]? = some (.cells #[pt] T fr)
  bw : BRows h lv B
  iw : Rows' (rVec 32) h iv (B.map (·.1.id))
section
variable {w0 w w' : World} {As : List Asn} {g gi gm : Nat} {lv iv m pt : Value} {over : Bool} {B : List BV}
theorem DatB.sub {As Bs : List Asn} (h : DatB B As) (hs : ∀ A ∈ As, A ∈ Bs) : DatB B Bs := fun x hx => hs _ (h x hx)
theorem ChR.fr (h : ChR w.heap g gi lv iv m pt over B) (hf : Fr [] w w') : ChR w'.heap g gi lv iv m pt over B := by
  obtain ⟨⟨T, fr, hc⟩, ⟨T2, fr2, hc2⟩, h3, h4⟩ := h
  exact ⟨⟨T, fr, hf.blk hc (by simp)⟩, ⟨T2, fr2, hf.blk hc2 (by simp)⟩, h3.fr hf, h4.fr hf⟩
theorem Sep.ch (h : Sep w0 w As) (hr : ChR w0.heap g gi lv iv m pt over B) : ChR w.heap g gi lv iv m pt over B := hr.fr h.1
theorem chH_rd (h : Sep w0 w (chH g gi gm lv iv pt over B ++ As)) (hd : DatB B As) : ChR w.heap g gi lv iv (.map (some gm)) pt over B :=
  ⟨⟨_, _, Sep.blk h⟩, ⟨_, _, Sep.blk h.tail⟩, ⟨Sep.rows h.tail.tail, fun x hx => by
    obtain ⟨F, hF⟩ := h.onL (A := ownB x.2 x.1.d) (List.mem_append_right _ (hd x hx))
    exact OwnB.rd hF⟩, Sep.rows h.tail.tail.tail⟩
theorem cNone_spec (hr : ChR w.heap g gi lv iv m pt over B) : cal P f_chain_Chain_none [.pointer (some ⟨g, 0, none⟩)] w fun r w' => r = .bool false ∧ w = w' := by
  refine s_chain_Chain_none fun R hR => ?_
  unfold c_chain_Chain_none
  obtain ⟨T, fr, hc⟩ := hr.cell
  simp only [fx, Nat.reduceAdd, forall_const, Option.isNone_some, L_chain_Chain hc, L_chain_Chain__in hc, L_chain_Chain__l hc, L_chain_Chain__ids hc, L_chain_Chain__at hc, L_chain_Chain__over hc]
  exact hR _ _ ⟨rfl, rfl⟩
theorem cMay_spec (hr : ChR w.heap g gi lv iv m pt over B) : cal P f_chain_Chain_may [.pointer (some ⟨g, 0, none⟩)] w fun r w' => r = .int .i64 (if over = true then 5 else 0) ∧ w = w' := by
  refine s_chain_Chain_may fun R hR => ?_
  unfold c_chain_Chain_may
  refine cal_i (cNone_spec hr) ?_
  rintro _ _ ⟨rfl, rfl⟩
  obtain ⟨T, fr, hc⟩ := hr.cell
  simp only [fx, Nat.reduceAdd, forall_const, L_chain_Chain hc, L_chain_Chain__in hc, L_chain_Chain__l hc, L_chain_Chain__ids hc, L_chain_Chain__at hc, L_chain_Chain__over hc]
  cases over <;> simp only [fx, Nat.reduceAdd, forall_const] <;> exact hR _ _ ⟨rfl, rfl⟩
theorem cLast_spec {x : BV} (hr : ChR w.heap g gi lv iv m pt over B) (hx : B[B.length - 1]? = some x) (hn : B.length ≤ 1000000) : cal P f_chain_Chain_last [.pointer (some ⟨g, 0, none⟩)] w fun r w' => r = bq x.1 x.2 ∧ Fr [] w w' := by
  refine s_chain_Chain_last fun R hR => ?_
  unfold c_chain_Chain_last
  have hpos : 0 < B.length := by
    have := (List.getElem?_eq_some_iff.1 hx).1
    omega
  have hx' : (B.map BV.t)[B.length - 1]? = some x.t := by rw [List.getElem?_map, hx]; rfl
  refine alloc_s (Sep.start w) (A_api_Block w) fun g2 w1 hs1 => ?_
  refine drH_S hs1 fun w2 hs2 _ => ?_
  simp only [fx, Nat.reduceAdd, forall_const]
  refine rdS_ld (v := lv) (fun u hu K hk => by obtain ⟨T, fr, hc⟩ := (hu.ch hr).cell; exact (L_chain_Chain__l hc K).mpr hk) ?_
  refine rdS_ld (v := lv) (fun u hu K hk => by obtain ⟨T, fr, hc⟩ := (hu.ch hr).cell; exact (L_chain_Chain__l hc K).mpr hk) ?_
  rw [hr.bw.len]
  simp only [fx, Nat.reduceAdd, forall_const]
  rw [wi64 (by omega) (by omega)]
  have e1 : (B.length : Int) - 1 = ((B.length - 1 : Nat) : Int) := by omega
  rw [e1]
  change ixs 34 _ _ _
  refine rdS_rowC (q := Q_api_Block) (by decide) hs2 (fun u hu => (hu.ch hr).bw.1) hx' .i64 ?_
  refine efC_stN (St_api_Block (b := x.t) hs2 (one_api_Block (hr.bw.2 x (List.mem_of_getElem? hx)).one) fun w3 hs3 => ?_)
  simp only [L_api_Block hs3.blk, L_api_Block__Parent hs3.blk, L_api_Block__Height hs3.blk, L_api_Block__Data hs3.blk]
  exact hR _ _ ⟨rfl, hs3.fr0⟩
end
end Go.Fx
set_option linter.unusedVariables false
set_option linter.unusedSimpArgs false
namespace Go.Fx
section
variable {w0 w w' : World} {As : List Asn} {g gi gm : Nat} {lv iv m pt : Value} {over : Bool} {B : List BV}
theorem cBldI {r : Vec 32} {K : Value → World → Prop} {Bs : List Asn} (hs : Sep w0 w Bs) (hk : ∀ a z, Sep w0 z (rows (rVec 32) a [r] :: Bs) → K a z) : efP P (Instr.buildSlice T_sl_api_ID 1 #[(0, kv r)]) w K :=
  rows_lit hs S_sl_api_ID (l := [r]) (V := fun a => .agg (Rdr.cells (rVec 32) a).toArray) (fun a => rfl) rfl rfl (by decide) (by decide) fun g7 w7 hs7 => hk _ _ hs7
theorem cAppI {r : Vec 32} {x a : Value} {ids : List (Vec 32)} {K : Value → World → Prop} {Bs : List Asn} (hs : Sep w0 w (rows (rVec 32) x ids :: Bs)) (ha : Rows' (rVec 32) w.heap a [r]) (hl : ids.length ≤ 1000000)
    (hk : ∀ x' z, Sep w0 z (rows (rVec 32) x' (ids ++ [r]) :: Bs) → K x' z) : efP P (Builtin.append_ #[T_sl_api_ID, T_sl_api_ID] T_sl_api_ID #[x, a]) w K :=
  rows_app S_sl_api_ID U_sl_api_ID (by simp) hs ha (by simp only [List.flatMap_cons, List.flatMap_nil, List.append_nil]; exact oneVec) (by simp; omega) (by simp; omega) fun v8 w8 hs8 => hk _ _ hs8
theorem cBldB {x : BV} {K : Value → World → Prop} {Bs : List Asn} (hs : Sep w0 w Bs) (hk : ∀ a z, Sep w0 z (rows Q_api_Block a [x.t] :: Bs) → K a z) : efP P (Instr.buildSlice T_sl_api_Block 1 #[(0, bq x.1 x.2)]) w K :=
  rows_lit (q := Q_api_Block) hs S_sl_api_Block (l := [x.t]) (V := fun a => .agg (Rdr.cells Q_api_Block a).toArray) (fun a => rfl) rfl rfl (by decide) (by decide) fun g7 w7 hs7 => hk _ _ hs7
theorem cAppB {x : BV} {u a : Value} {B : List BV} {K : Value → World → Prop} {Bs : List Asn} (hs : Sep w0 w (rows Q_api_Block u (B.map BV.t) :: Bs)) (ha : Rows' Q_api_Block w.heap a [x.t]) (h1 : x.2.oneCell' = true) (hl : B.length ≤ 1000000)
    (hk : ∀ u' z, Sep w0 z (rows Q_api_Block u' ((B ++ [x]).map BV.t) :: Bs) → K u' z) : efP P (Builtin.append_ #[T_sl_api_Block, T_sl_api_Block] T_sl_api_Block #[u, a]) w K :=
  rows_app (q := Q_api_Block) S_sl_api_Block U_sl_api_Block (by simp) hs ha (by simp only [List.flatMap_cons, List.flatMap_nil, List.append_nil]; exact one_api_Block h1) (by simp; omega) (by simp; omega) fun v8 w8 hs8 => hk _ _ (by
    have e : (B ++ [x]).map BV.t = B.map BV.t ++ [x.t] := by simp
    rw [e]; exact hs8)
theorem drH_PH' {w0 w : World} {As : List Asn} {S : World → Prop} {K : (World → Prop) → World → Prop} (hs : Sep w0 w As) (hS : ∀ u, Sep w0 u As → S u) (h : ∀ w', Sep w0 w' As → w'.heap = w.heap → K S w') : drH w K := ⟨S, hS _ (hs.drew _), h _ (hs.drew _) rfl⟩
theorem four_app {b : Blk} {v : Value} {r : Vec 32} {u y : Value} {ids : List (Vec 32)} {K : Value → Value → World → Prop} (hs : Sep w0 w (rows Q_api_Block u (B.map BV.t) :: rows (rVec 32) y ids :: As)) (hb : ∀ z, Sep w0 z As → RdB z.heap v b.d) (hbl : b.d.length ≤ 100000) (hl1 : B.length ≤ 1000000) (hl2 : ids.length ≤ 1000000)
    (hk : ∀ u' y' z vd, Sep w0 z (rows Q_api_Block u' ((B ++ [(b, vd)]).map BV.t) :: rows (rVec 32) y' (ids ++ [r]) :: ownB vd b.d :: As) → K u' y' z) :
    (efS (fun u => Sep w0 u As) (cal P f_block_Clone [bq b v]) w fun c w =>
      (efS (fun u => Sep w0 u As) (efP P (Instr.buildSlice T_sl_api_Block 1 #[(0, c)])) w fun t29 w =>
        (efS (fun u => Sep w0 u As) (efP P (Builtin.append_ #[T_sl_api_Block, T_sl_api_Block] T_sl_api_Block #[u, t29])) w fun u' w =>
          efS (fun u => Sep w0 u As) (efP P (Instr.buildSlice T_sl_api_ID 1 #[(0, kv r)])) w fun t36 w =>
          efC (efP P (Builtin.append_ #[T_sl_api_ID, T_sl_api_ID] T_sl_api_ID #[y, t36])) w fun S y' w => K u' y' w) ∧
        ((efS (fun u => Sep w0 u As) (efP P (Instr.buildSlice T_sl_api_ID 1 #[(0, kv r)])) w fun t36 w =>
          efS (fun u => Sep w0 u As) (efP P (Builtin.append_ #[T_sl_api_Block, T_sl_api_Block] T_sl_api_Block #[u, t29])) w fun u' w =>
          efC (efP P (Builtin.append_ #[T_sl_api_ID, T_sl_api_ID] T_sl_api_ID #[y, t36])) w fun S y' w => K u' y' w) ∧ True)) ∧
      ((efS (fun u => Sep w0 u As) (efP P (Instr.buildSlice T_sl_api_ID 1 #[(0, kv r)])) w fun t36 w =>
        efS (fun u => Sep w0 u As) (efP P (Instr.buildSlice T_sl_api_Block 1 #[(0, c)])) w fun t29 w =>
        efS (fun u => Sep w0 u As) (efP P (Builtin.append_ #[T_sl_api_Block, T_sl_api_Block] T_sl_api_Block #[u, t29])) w fun u' w =>
        efC (efP P (Builtin.append_ #[T_sl_api_ID, T_sl_api_ID] T_sl_api_ID #[y, t36])) w fun S y' w => K u' y' w) ∧ True)) ∧
    ((efS (fun u => Sep w0 u As) (efP P (Instr.buildSlice T_sl_api_ID 1 #[(0, kv r)])) w fun t36 w =>
      efS (fun u => Sep w0 u As) (cal P f_block_Clone [bq b v]) w fun c w =>
      efS (fun u => Sep w0 u As) (efP P (Instr.buildSlice T_sl_api_Block 1 #[(0, c)])) w fun t29 w =>
      efS (fun u => Sep w0 u As) (efP P (Builtin.append_ #[T_sl_api_Block, T_sl_api_Block] T_sl_api_Block #[u, t29])) w fun u' w =>
      efC (efP P (Builtin.append_ #[T_sl_api_ID, T_sl_api_ID] T_sl_api_ID #[y, t36])) w fun S y' w => K u' y' w) ∧ True) := by
  refine ⟨?_, ?_, trivial⟩
  · refine efS_i (cal_i (bkClone_spec (b := b) (v := v) (hb _ hs.tail.tail) (by omega)) ?_)
    rintro _ w1 ⟨vd, rfl, hs1⟩
    replace hs1 := hs.join hs1
    refine ⟨hs1.tail.tail.tail, ?_⟩
    refine ⟨?_, ?_, trivial⟩
    · refine efS_i (cBldB (x := (b, vd)) hs1 fun a z hz => ⟨hz.tail.tail.tail.tail, ?_, ?_, trivial⟩)
      · refine efS_i (cAppB (x := (b, vd)) hz.p2 (Sep.rows hz) (Sep.one hz.p1) hl1 fun u' z2 hz2 => ⟨hz2.tail.tail.tail.tail, ?_⟩)
        refine efS_i (cBldI hz2 fun a2 z3 hz3 => ⟨hz3.tail.tail.tail.tail.tail, ?_⟩)
        refine efC_efP (cAppI (Sep.pick hz3 [4, 0, 1, 2, 3] 5) (Sep.rows hz3) hl2 fun y' z4 hz4 => hk _ _ _ vd ?_)
        exact Sep.pick hz4 [2, 0, 4] 5
      · refine efS_i (cBldI hz fun a2 z2 hz2 => ⟨hz2.tail.tail.tail.tail.tail, ?_⟩)
        refine efS_i (cAppB (x := (b, vd)) hz2.p3 (Sep.rows hz2.p1) (Sep.one hz2.p2) hl1 fun u' z3 hz3 => ⟨hz3.tail.tail.tail.tail.tail, ?_⟩)
        refine efC_efP (cAppI (Sep.pick hz3 [4, 0, 1, 2, 3] 5) (Sep.rows hz3.p1) hl2 fun y' z4 hz4 => hk _ _ _ vd ?_)
        exact Sep.pick hz4 [1, 0, 4] 5
    · refine efS_i (cBldI hs1 fun a2 z hz => ⟨hz.tail.tail.tail.tail, ?_⟩)
      refine efS_i (cBldB (x := (b, vd)) hz fun a z2 hz2 => ⟨hz2.tail.tail.tail.tail.tail, ?_⟩)
      refine efS_i (cAppB (x := (b, vd)) hz2.p3 (Sep.rows hz2) (Sep.one hz2.p2) hl1 fun u' z3 hz3 => ⟨hz3.tail.tail.tail.tail.tail, ?_⟩)
      refine efC_efP (cAppI (Sep.pick hz3 [4, 0, 1, 2, 3] 5) (Sep.rows hz3.p2) hl2 fun y' z4 hz4 => hk _ _ _ vd ?_)
      exact Sep.pick hz4 [1, 0, 4] 5
  · refine efS_i (cBldI hs fun a2 z hz => ⟨hz.tail.tail.tail, ?_⟩)
    refine efS_i (cal_i (bkClone_spec (b := b) (v := v) (hb _ hz.tail.tail.tail) (by omega)) ?_)
    rintro _ w1 ⟨vd, rfl, hs1⟩
    replace hs1 := hz.join hs1
    refine ⟨hs1.tail.tail.tail.tail, ?_⟩
    refine efS_i (cBldB (x := (b, vd)) hs1 fun a z2 hz2 => ⟨hz2.tail.tail.tail.tail.tail, ?_⟩)
    refine efS_i (cAppB (x := (b, vd)) hz2.p3 (Sep.rows hz2) (Sep.one hz2.p1) hl1 fun u' z3 hz3 => ⟨hz3.tail.tail.tail.tail.tail, ?_⟩)
    refine efC_efP (cAppI (Sep.pick hz3 [4, 0, 1, 2, 3] 5) (Sep.rows hz3.p3) hl2 fun y' z4 hz4 => hk _ _ _ vd ?_)
    exact Sep.pick hz4 [1, 0, 3] 5
theorem chk0_lenC {b : Blk} (h : b.chk = 0) : b.d.length ≤ 200 := by
  unfold Blk.chk at h
  split at h
  · cases h
  · omega
theorem cAdd_spec {b : Blk} {v : Value} (hs : Sep w0 w (chH g gi gm lv iv pt over B ++ As)) (hC : Cub w0) (hb : ∀ z, Sep w0 z As → RdB z.heap v b.d) (hh : b.h ≤ maxI) (hck : b.chk = 0) (hn : B.length ≤ 1000000) :
    cal P f_chain_Chain_add [.pointer (some ⟨g, 0, none⟩), bq b v] w fun r w' => r = .tuple #[] ∧ ∃ lv' iv' vd, Sep w0 w' (chH g gi gm lv' iv' pt over (B ++ [(b, vd)]) ++ (ownB vd b.d :: As)) := by
  refine s_chain_Chain_add fun R hR => ?_
  unfold c_chain_Chain_add
  have hbl := chk0_lenC hck
  refine bxQ hs fun g3 w1 hs1 => ?_
  simp only [L_api_Block hs1.blk, L_api_Block__Parent hs1.blk, L_api_Block__Height hs1.blk, L_api_Block__Data hs1.blk]
  refine cal_i (bkID_spec (b := b) (v := v) (hC.fr hs1.fr0) (hb _ (Sep.pick hs1 [] 6)) hh) ?_
  rintro _ w2 ⟨rfl, hf2⟩
  have hs2 := hs1.old hf2
  have hnm : b.name = b.id := by unfold Blk.name; rw [if_pos hck]
  rw [hnm]
  simp only [fx, Nat.reduceAdd, forall_const]
  refine alloc_s hs2 (A_api_ID w2) fun g4 w3 hs3 => ?_
  refine St_api_ID hs3 fun w4 hs4 => ?_
  refine drH_S hs4 fun w5 hs5 _ => ?_
  -- id 0 · b 1 · c 2 · held 3 · l 4 · ids 5 · map 6
  refine rdS_ld (v := .map (some gm)) (fun u hu K hk => (L_chain_Chain__at (Sep.blk hu.p2) K).mpr hk) ?_
  refine ⟨kv b.id, fun u hu => (L_api_ID (Sep.blk hu) _).mpr rfl, ?_⟩
  refine rdS_ld (v := lv) (fun u hu K hk => (L_chain_Chain__l (Sep.blk hu.p2) K).mpr hk) ?_
  have hlb : ∀ K, lenS lv K = K (.int .i64 B.length) := fun K => by
    have := (Sep.rows (Sep.pick hs5 [4] 5)).len K
    rwa [List.length_map] at this
  rw [hlb]
  refine efC_efU (putF_s U_map_api_ID_int KTc (Sep.pick hs5 [6, 0, 1, 2, 3, 4, 5] 7) fun w6 hs6 => ?_)
  have e1 : updF (atF (blks B)) b.id (.int .i64 (B.length : Nat)) = atF (blks B ++ [b]) := by
    rw [atF_snoc, List.length_map]
  rw [e1] at hs6
  -- map 0 · id 1 · b 2 · c 3 · held 4 · l 5 · ids 6
  replace hs6 : Sep w0 w6 (rows Q_api_Block lv (B.map BV.t) :: rows (rVec 32) iv (B.map (·.1.id)) :: blk g (Rdr.cells Q_chain_Chain (.pointer (some ⟨gi, 0, none⟩), lv, iv, .map (some gm), over)).toArray T_chain_Chain :: blk g4 (Rdr.cells (rVec 32) b.id).toArray T_api_ID :: blk g3 (Rdr.cells Q_api_Block (b.p, b.h, v)).toArray T_api_Block :: blk gi #[pt] T_chain_held :: mpF gm (atF (blks B ++ [b])) :: As) := Sep.pick hs6 [5, 6, 3, 1, 2, 4, 0] 7
  refine drH_PH' (S := fun u => Sep w0 u (blk g (Rdr.cells Q_chain_Chain (.pointer (some ⟨gi, 0, none⟩), lv, iv, .map (some gm), over)).toArray T_chain_Chain :: blk g4 (Rdr.cells (rVec 32) b.id).toArray T_api_ID :: blk g3 (Rdr.cells Q_api_Block (b.p, b.h, v)).toArray T_api_Block :: blk gi #[pt] T_chain_held :: mpF gm (atF (blks B ++ [b])) :: As)) hs6 (fun u hu => hu.tail.tail) fun w7 hs7 _ => ?_
  refine ⟨fun z => ∃ lv' iv' vd, Sep w0 z (chH g gi gm lv' iv' pt over (B ++ [(b, vd)]) ++ (ownB vd b.d :: As)), ?_, fun z hz _ => hR _ _ ⟨rfl, hz⟩⟩
  simp only [fx, Nat.reduceAdd, forall_const]
  refine rdS_ld (v := lv) (fun u hu K hk => (L_chain_Chain__l (Sep.blk hu) K).mpr hk) ?_
  refine ⟨bq b v, fun u hu => (L_api_Block (Sep.blk hu.p2) _).mpr rfl, ?_⟩
  refine rdS_ld (v := iv) (fun u hu K hk => (L_chain_Chain__ids (Sep.blk hu) K).mpr hk) ?_
  refine ⟨kv b.id, fun u hu => (L_api_ID (Sep.blk hu.p1) _).mpr rfl, ?_⟩
  refine four_app hs7 (fun z hz => hb z hz.tail.tail.tail.tail.tail) (by omega) hn (by simpa using hn) fun u' y' z vd hz => ?_
  -- l 0 · ids 1 · own 2 · c 3 · id 4 · b 5 · held 6 · map 7
  refine efC_st1 (St_chain_Chain__l (Sep.pick hz [3, 0, 1, 2, 6, 7] 8) (Sep.oneR hz) fun z2 hz2 => ?_)
  refine efC_st1 (St_chain_Chain__ids hz2 (Sep.oneR hz2.p2) fun z3 hz3 => ?_)
  refine ⟨u', y', vd, ?_⟩
  have e2 : (B ++ [(b, vd)]).map (·.1.id) = B.map (·.1.id) ++ [b.id] := by simp
  have e3 : blks (B ++ [(b, vd)]) = blks B ++ [b] := by simp
  unfold chH
  rw [e2, e3]
  exact Sep.pick hz3 [0, 4, 1, 2, 5, 3] 6
end
end Go.Fx
set_option linter.unusedVariables false
set_option linter.unusedSimpArgs false
namespace Go.Fx
section
variable {w0 w w' : World} {As : List Asn} {g gi gm : Nat} {lv iv m pt : Value} {over : Bool} {B : List BV} {x : Tp}
theorem tp_one (hs : Sep w0 w (tp pt x :: As)) : pt.oneCell' = true := by
  rw [tp_open] at hs
  obtain ⟨g, s, rfl, _⟩ := hs
  rfl
theorem lastOf {B : List BV} {a : Blk} {l : List Blk} (h : blks B = a :: l) : ∃ y, B[B.length - 1]? = some y ∧ y.1 = lastB a l := by
  have h1 := lastB_get a l
  rw [← h, List.getElem?_map] at h1
  have hl : B.length = l.length + 1 := by
    have := congrArg List.length h
    simpa using this
  rw [show l.length = B.length - 1 by omega] at h1
  cases hb : B[B.length - 1]? with
  | none => rw [hb] at h1; cases h1
  | some y => rw [hb] at h1; exact ⟨y, rfl, Option.some.inj h1⟩
theorem layL_tk {l : List Blk} {i : Nat} {b : Blk} (h : l[i]? = some b) : layL (l.take (i + 1)) = layL (l.take i) ++ b.rcd := layL_take h
theorem cOpen_spec {b : Blk} {v : Value} (hs : Sep w0 w (tp pt x :: As)) (hx : x.Ok) (hm : x.made = true) (hC : Cub w0) (hb : ∀ z, Sep w0 z As → RdB z.heap v b.d) (hh : b.h ≤ maxI) :
    cal P f_chain_Open [pt, bq b v] w fun r w' =>
      (x.off = true ∧ r = .tuple #[.pointer none, .int .i64 5] ∧ Sep w0 w' (tp pt x :: As)) ∨
      (x.off = false ∧ (b.chk ≠ 0 ∨ b.h ≠ 0) ∧ r = .tuple #[.pointer none, .int .i64 30] ∧ Sep w0 w' (tp pt x :: As)) ∨
      (x.off = false ∧ b.chk = 0 ∧ b.h = 0 ∧ ∃ g gi gm lv iv B E S, r = .tuple #[.pointer (some ⟨g, 0, none⟩), .int .i64 0] ∧ IsScan x.b S ∧ blks B = b :: linkT b S ∧ DatB B E ∧
        Sep w0 w' (chH g gi gm lv iv pt false B ++ (tp pt { x with b := layL (linkT b S) } :: (E ++ As)))) := by
  refine s_chain_Open fun R hR => ?_
  unfold c_chain_Open
  have hp1 := tp_one hs
  refine bxQ hs fun g3 w1 hs1 => ?_
  refine cal_i (tpClone_spec hs1.p1 hx hm) ?_
  rintro tv w2 hs2
  rw [tp_nilP hs2]
  simp only [fx, Nat.reduceAdd, forall_const]
  have hs2' := hs1.old hs2.fr0
  refine cal_i (tpOn_spec hs2'.p1) ?_
  rintro _ _ ⟨rfl, rfl⟩
  rw [hm]
  cases hoff : x.off with
  | true =>
    simp only [fx, Nat.reduceAdd, forall_const]
    exact hR _ _ (.inl ⟨hoff, rfl, hs2'.tail⟩)
  | false =>
  simp only [fx, Nat.reduceAdd, forall_const, L_api_Block hs2'.blk, L_api_Block__Parent hs2'.blk, L_api_Block__Height hs2'.blk, L_api_Block__Data hs2'.blk]
  refine cal_i (Check_spec (b := b) (v := v) (hb _ hs2'.tail.tail)) ?_
  rintro _ w3 ⟨rfl, hf3⟩
  have hs3 := hs2'.old hf3
  simp only [fx, Nat.reduceAdd, forall_const, L_api_Block hs3.blk, L_api_Block__Parent hs3.blk, L_api_Block__Height hs3.blk, L_api_Block__Data hs3.blk]
  rw [cnd_bool]
  refine ⟨fun h => ?_, fun h => ?_⟩
  · have h : b.chk ≠ 0 ∨ b.h ≠ 0 := by simpa using h
    exact hR _ _ (.inr (.inl ⟨hoff, h, rfl, hs3.tail⟩))
  have h : b.chk = 0 ∧ b.h = 0 := by simpa using h
  obtain ⟨hck, hh0⟩ := h
  rw [B_chain_held_0 hp1]
  refine bxQ hs3 fun gi w4 hs4 => ?_
  refine makeF_s (n := 32) hs4 fun gm w5 hs5 => ?_
  rw [B_chain_Chain_0_3 rfl rfl]
  refine bxQ hs5 fun g w6 hs6 => ?_
  -- c 0 · map 1 · held 2 · b 3 · tp 4
  obtain ⟨A1, hA1⟩ : ∃ A1, A1 = blk g3 (Rdr.cells Q_api_Block (b.p, b.h, v)).toArray T_api_Block :: tp pt x :: As := ⟨_, rfl⟩
  have hs7 : Sep w0 w6 (chH g gi gm (.slice none 0 0) (.slice none 0 0) pt false [] ++ A1) := by
    rw [hA1]
    exact Sep.pick ((hs6.nilR (q := rVec 32)).nilR (q := Q_api_Block)) [2, 4, 0, 1, 3, 5, 6] 7
  have hbA : ∀ z, Sep w0 z A1 → RdB z.heap v b.d := fun z hz => by rw [hA1] at hz; exact hb z hz.tail.tail
  simp only [L_api_Block (Sep.blk (Sep.pick hs6 [3] 4)), L_api_Block__Parent (Sep.blk (Sep.pick hs6 [3] 4)), L_api_Block__Height (Sep.blk (Sep.pick hs6 [3] 4)), L_api_Block__Data (Sep.blk (Sep.pick hs6 [3] 4))]
  refine cal_i (cAdd_spec (b := b) (v := v) hs7 hC hbA hh hck (by simp)) ?_
  rintro _ w7 ⟨rfl, lv1, iv1, vd, hs8⟩
  clear hs7 hs6 hs5 hs4 hs3 hs2' hs1 hs2
  rw [List.nil_append] at hs8
  -- chain 0-4 · own 5 · b 6 · tp 7
  rw [hA1] at hs8
  refine cal_i (tpBytes_spec (Sep.pick hs8 [7] 8) hx hm) ?_
  rintro bs w8 hs9
  obtain ⟨ba, bc, hbf, hbc⟩ := Sep.form hs9
  have hcap : capOk bs := fun a' n' c' he => by
    rw [hbf] at he
    simp only [Value.slice.injEq] at he
    obtain ⟨_, rfl, rfl⟩ := he
    exact hbc
  have hxl := hx.1
  refine cal_i (Scan_spec (hC.fr (hs8.old hs9.fr0).fr0) (Sep.rd hs9) hcap (by omega)) ?_
  rintro _ w9 ⟨sx, SB, rfl, hsc, hs10⟩
  have hf10 : Fr [] w7 w9 := hs9.fr0.trans hs10.fr0 (by simp) (by simp)
  have hs11 : Sep w0 w9 (brow sx SB ++ (chH g gi gm lv1 iv1 pt false [(b, vd)] ++ (ownB vd b.d :: blk g3 (Rdr.cells Q_api_Block (b.p, b.h, v)).toArray T_api_Block :: tp pt x :: As))) := (hs8.old hs9.fr0).join hs10
  obtain ⟨S, hS⟩ : ∃ S, S = blks SB := ⟨_, rfl⟩
  replace hsc : IsScan x.b S := by rw [hS]; exact hsc
  obtain ⟨Y, hY⟩ : ∃ Y, Y = tp pt x :: (brow sx SB ++ As) := ⟨_, rfl⟩
  have hs12 : Sep w0 w9 (chH g gi gm lv1 iv1 pt false [(b, vd)] ++ ([ownB vd b.d] ++ Y)) := by
    rw [hY]
    have h1 : Sep w0 w9 ((chH g gi gm lv1 iv1 pt false [(b, vd)] ++ [ownB vd b.d, blk g3 (Rdr.cells Q_api_Block (b.p, b.h, v)).toArray T_api_Block, tp pt x]) ++ (brow sx SB ++ As)) := hs11.perm (List.perm_append_comm_assoc (brow sx SB) (chH g gi gm lv1 iv1 pt false [(b, vd)] ++ [ownB vd b.d, blk g3 (Rdr.cells Q_api_Block (b.p, b.h, v)).toArray T_api_Block, tp pt x]) As)
    exact Sep.pick h1 [0, 1, 2, 3, 4, 5, 7] 8
  clear hs11 hs10 hs9 hs8 hf10 hA1 hbA
  have fB : ∀ {z : World} {Bs : List Asn}, Sep w0 z (Bs ++ Y) → BRows z.heap sx SB := fun {z Bs} hz => by
    have hz := hz.dropL
    rw [hY] at hz
    exact brow_rd hz.tail
  have hlS : S.length = SB.length := by rw [hS]; simp
  have hlay : ∀ i, (layL (S.take i)).length ≤ x.b.length := fun i => by
    obtain ⟨hg, t, ht, _⟩ := hsc
    have h1 : S = S.take i ++ S.drop i := (List.take_append_drop i S).symm
    have h2 : layL S = layL (S.take i) ++ layL (S.drop i) := by rw [← layL_append, List.take_append_drop]
    rw [ht, h2]
    simp only [List.length_append]
    omega
  have hSl : S.length ≤ 1000000 := by
    have h1 := layL_ge S
    have h2 := hsc.len
    omega
  simp only [fx, Nat.reduceAdd, forall_const]
  refine ⟨fun y z => ∃ (i : Nat) (lv iv : Value) (B : List BV) (E : List Asn), y = .int .i64 ((layL (S.take i)).length : Nat) ∧ linkT b S = S.take i ∧ blks B = b :: S.take i ∧ DatB B E ∧ Sep w0 z (chH g gi gm lv iv pt false B ++ (E ++ Y)), ?_, ?_⟩
  · change lenS _ _
    rw [(fB (Bs := chH g gi gm lv1 iv1 pt false [(b, vd)] ++ [ownB vd b.d]) (by rw [List.append_assoc]; exact hs12)).len]
    refine ⟨fun y z' z => ∃ (i : Nat) (lv iv : Value) (B : List BV) (E : List Asn), y = .int .i64 ((layL (S.take i)).length : Nat) ∧ z' = .int .i64 i ∧ i ≤ SB.length ∧ linked b (S.take i) ∧ blks B = b :: S.take i ∧ DatB B E ∧ Sep w0 z (chH g gi gm lv iv pt false B ++ (E ++ Y)), fun _ y _ => (SB.length - RowKit.intOf y).toNat, ⟨0, lv1, iv1, [(b, vd)], [ownB vd b.d], rfl, rfl, by omega, trivial, rfl, (fun y hy => by rw [List.mem_singleton.1 hy]; exact List.mem_cons_self ..), hs12⟩, ?_⟩
    clear hs12
    rintro _ _ w10 ⟨i, lv, iv, B, E, rfl, rfl, hi, hlk, hB, hD, hs10⟩ -
    simp only [fx, Nat.reduceAdd, forall_const]
    rw [cnd_bool]
    refine ⟨fun h => ?_, fun h => ?_⟩
    case refine_2 =>
      have hge : i = S.length := by simp at h; omega
      refine ⟨i, lv, iv, B, E, rfl, ?_, hB, hD, hs10⟩
      rw [hge, List.take_of_length_le (Nat.le_refl _)] at hlk ⊢
      exact linkT_self hlk
    have hlt : i < SB.length := by simp at h; omega
    obtain ⟨e, he⟩ : ∃ e, SB[i]? = some e := ⟨_, List.getElem?_eq_getElem hlt⟩
    have heS : S[i]? = some e.1 := by rw [hS, List.getElem?_map, he]; rfl
    have hge := hsc.1 e.1 (List.mem_of_getElem? heS)
    obtain ⟨y0, hy0, hy1⟩ := lastOf hB
    have hBl : B.length = i + 1 := by
      have := congrArg List.length hB
      simp only [List.length_map, List.length_cons, List.length_take] at this
      omega
    have hrB : ∀ {z : World} {Bs : List Asn}, Sep w0 z (Bs ++ (chH g gi gm lv iv pt false B ++ (E ++ Y))) → ChR z.heap g gi lv iv (.map (some gm)) pt false B := fun {z Bs} hz => chH_rd hz.dropL (hD.sub fun A hA => List.mem_append_left _ hA)
    have hsxB : ∀ {z : World} {Bs : List Asn}, Sep w0 z (Bs ++ (chH g gi gm lv iv pt false B ++ (E ++ Y))) → BRows z.heap sx SB := fun {z Bs} hz => fB (Bs := E) hz.dropL.dropL
    change ixs 34 _ _ _
    refine BRows.ld (hsxB (Bs := []) hs10) he .i64 ?_
    refine alloc_s hs10 (A_api_Block w10) fun g11 w11 hs11 => ?_
    refine St_api_Block (b := e.t) hs11 (one_api_Block ((hsxB (Bs := [_]) hs11).2 e (List.mem_of_getElem? he)).one) fun w12 hs12 => ?_
    refine drH_S hs12 fun w13 hs13 _ => ?_
    refine ⟨bq e.1 e.2, fun u hu => (L_api_Block (Sep.blk hu) _).mpr rfl, ?_⟩
    refine efS_i (cal_i (cLast_spec (hrB (Bs := [_]) hs13) hy0 (by omega)) ?_)
    rintro _ w14 ⟨rfl, hf14⟩
    have hs14 := hs13.old hf14
    refine ⟨hs14, ?_⟩
    have hyh : y0.1.h ≤ maxI := by
      have hm : y0.1 ∈ blks B := List.mem_map_of_mem (List.mem_of_getElem? hy0)
      rw [hB] at hm
      rcases List.mem_cons.1 hm with h | h
      · rw [h]; exact hh
      · exact (hsc.1 _ (List.mem_of_mem_take h)).2
    refine efC_cal (cal_i (Linked_spec (a := e.1) (b := y0.1) (hC.fr hs14.fr0) ((hsxB (Bs := [_]) hs14).2 e (List.mem_of_getElem? he)) ((hrB (Bs := [_]) hs14).bw.2 y0 (List.mem_of_getElem? hy0)) hyh hge.2) ?_)
    rintro _ w15 ⟨rfl, hf15⟩
    have hs15 := hs14.old hf15
    simp only [fx, Nat.reduceAdd, forall_const]
    rw [cnd_bool, hy1]
    refine ⟨fun h => ?_, fun h => ?_⟩
    · have h : e.1.link (lastB b (S.take i)) ≠ 0 := by simpa using h
      exact ⟨i, lv, iv, B, E, rfl, linkT_take hlk heS h, hB, hD, hs15.tail⟩
    have h : e.1.link (lastB b (S.take i)) = 0 := by simpa using h
    simp only [L_api_Block hs15.blk, L_api_Block__Parent hs15.blk, L_api_Block__Height hs15.blk, L_api_Block__Data hs15.blk]
    refine cal_i (recSize_spec (b := e.1) (v := e.2) ((hsxB (Bs := [_]) hs15).2 e (List.mem_of_getElem? he))) ?_
    rintro _ w16 ⟨rfl, hf16⟩
    have hs16 := hs15.old hf16
    have hro : e.1.recO = e.1.rcd := if_pos hge.1
    have hll := hlay (i + 1)
    rw [layL_tk heS, List.length_append] at hll
    simp only [fx, Nat.reduceAdd, forall_const, hro, L_api_Block hs16.blk, L_api_Block__Parent hs16.blk, L_api_Block__Height hs16.blk, L_api_Block__Data hs16.blk]
    rw [wi64 (by omega) (by omega)]
    have hsA : Sep w0 w16 (chH g gi gm lv iv pt false B ++ (blk g11 (Rdr.cells Q_api_Block e.t).toArray T_api_Block :: (E ++ Y))) := Sep.pick hs16 [1, 2, 3, 4, 5, 0] 6
    refine cal_i (cAdd_spec (b := e.1) (v := e.2) hsA hC (fun z hz => (fB (Bs := E) hz.tail).2 e (List.mem_of_getElem? he)) hge.2 hge.1 (by omega)) ?_
    rintro _ w17 ⟨rfl, lv', iv', vd', hs17⟩
    rw [wi64 (by omega) (by omega)]
    refine ⟨⟨i + 1, lv', iv', B ++ [(e.1, vd')], ownB vd' e.1.d :: E, ?_, by simp, by omega, ?_, ?_, ?_, Sep.pick hs17 [0, 1, 2, 3, 4, 5] 7⟩, by simp [RowKit.intOf]; omega⟩
    · rw [layL_tk heS, List.length_append, Int.natCast_add]
    · rw [List.take_add_one, heS]
      exact linked_snoc hlk h
    · unfold blks at hB ⊢
      rw [List.take_add_one, heS, List.map_append, hB]
      rfl
    · intro y hy
      rcases List.mem_append.1 hy with hy | hy
      · exact List.mem_cons_of_mem _ (hD y hy)
      · rw [List.mem_singleton.1 hy]; exact List.mem_cons_self ..
  clear hs12
  rintro _ w10 ⟨i, lv, iv, B, E, rfl, hlT, hB, hD, hs10⟩ _
  have hend := hlay i
  rw [hY] at hs10
  have hfin : x.b.take (layL (S.take i)).length = layL (linkT b S) := by
    obtain ⟨hg, t, ht, _⟩ := hsc
    have h1 : S = S.take i ++ S.drop i := (List.take_append_drop i S).symm
    have h2 : layL S = layL (S.take i) ++ layL (S.drop i) := by rw [← layL_append, List.take_append_drop]
    rw [ht, h2, List.append_assoc, List.take_left, hlT]
  have hs11 : Sep w0 w10 (tp pt x :: (chH g gi gm lv iv pt false B ++ (E ++ (brow sx SB ++ As)))) := by
    have h1 : Sep w0 w10 ((chH g gi gm lv iv pt false B ++ E) ++ tp pt x :: (brow sx SB ++ As)) := by rw [List.append_assoc]; exact hs10
    have h2 := Sep.mid h1
    rwa [List.append_assoc] at h2
  clear hs10
  refine cal_i (tpLen_spec hs11 hm) ?_
  rintro _ _ ⟨rfl, rfl⟩
  have out : ∀ z, Sep w0 z (tp pt { x with b := layL (linkT b S) } :: (chH g gi gm lv iv pt false B ++ (E ++ (brow sx SB ++ As)))) → R (.tuple #[.pointer (some ⟨g, 0, none⟩), .int .i64 0]) z := fun z hz => by
    refine hR _ _ (.inr (.inr ⟨hoff, hck, hh0, g, gi, gm, lv, iv, B, E ++ brow sx SB, S, rfl, hsc, by rw [hlT]; exact hB, hD.sub fun A hA => List.mem_append_left _ hA, ?_⟩))
    rw [List.append_assoc E]
    exact Sep.pick hz [1, 2, 3, 4, 5, 0] 6
  simp only [fx, Nat.reduceAdd, forall_const]
  rw [cnd_bool]
  refine ⟨fun h => ?_, fun h => ?_⟩
  · refine cal_i (tpTruncate_spec (n := ((layL (S.take i)).length : Nat)) hs11 hx) ?_
    have hmay : x.may = 0 := by unfold Tp.may; rw [hm, hoff]; rfl
    have ht : x.truncate ((layL (S.take i)).length : Nat) = ({ x with b := layL (linkT b S) }, 0) := by
      unfold Tp.truncate
      rw [if_neg (by simp [hmay]), if_neg (by omega), Int.toNat_natCast, hfin]
    rw [ht]
    rintro _ w11 ⟨rfl, hs12⟩
    simp only [fx, Nat.reduceAdd, forall_const, show ((0 : Int) != 0) = false from rfl]
    exact out w11 hs12
  · refine out _ ?_
    have hge : x.b.length ≤ (layL (S.take i)).length := by simp at h; omega
    rw [List.take_of_length_le hge] at hfin
    rw [← hfin]
    exact hs11
end
end Go.Fx
set_option linter.unusedVariables false
set_option linter.unusedSimpArgs false
namespace Go.Fx
section
variable {w0 w w' : World} {As : List Asn} {g gi gm : Nat} {lv iv m pt : Value} {over : Bool} {B : List BV} {x : Tp}
theorem bldS1 {s : Value} {l : List UInt8} {Bs : List Asn} {K : Value → World → Prop} (hs : Sep w0 w (ownB s l :: Bs)) (hl : l.length ≤ 1000000)
    (hk : ∀ a z, Sep w0 z (own a 1 1 [s] :: ownB s l :: Bs) → K a z) : efP P (Instr.buildSlice T_sl_sl_uint8 1 #[(0, s)]) w K := by
  have hb : (Instr.buildSlice T_sl_sl_uint8 1 #[(0, s)]).run P w = .ok (.slice (some ⟨w.heap.size, 0, none⟩) 1 1) (w.alloc (.cells ([s] : List Value).toArray T_sl_uint8)) := by
    obtain ⟨a, c, hv, _⟩ := Sep.form hs
    rw [hv]
    kernel_rfl
  exact build_s (cs := [s]) (size := 1) hs rfl hb fun g5 w5 hs5 => hk _ _ hs5
theorem app1_spec {s a : Value} {l : List UInt8} {Bs : List Asn} (hs : Sep w0 w (tp pt x :: own a 1 1 [s] :: ownB s l :: Bs)) (hx : x.Ok) (hl : l.length ≤ 1000000) :
    cal P f_tape_Tape_Append [pt, a] w fun v w' => v = .int .i64 (x.append l).2 ∧ Sep w0 w' (tp pt (x.append l).1 :: own a 1 1 [s] :: ownB s l :: Bs) := by
  refine cal_i (tpAppend_spec (s := ⟨a, [⟨s, l⟩]⟩) hs hx fun w' h => ?_) ?_
  · refine ok_of_own h.cel h.capN (by simp) fun b hb => ?_
    simp at hb
    rw [hb]
    exact h.p1.rb (by simpa using (by omega : l.length ≤ 9223372036854775807))
  have hj : joined [⟨s, l⟩] = l := by simp [joined]
  simp only [hj]
  rintro _ w1 ⟨rfl, hs1⟩
  exact ⟨rfl, hs1⟩
theorem cAccept_spec {b : Blk} {v : Value} {y : BV} (hs : Sep w0 w (chH g gi gm lv iv pt over B ++ (tp pt x :: As))) (hx : x.Ok) (hm : x.made = true) (hC : Cub w0) (hb : ∀ z, Sep w0 z As → RdB z.heap v b.d) (hD : DatB B As)
    (hh : b.h ≤ maxI) (hy : B[B.length - 1]? = some y) (hyh : y.1.h ≤ maxI) (hn : B.length ≤ 1000000) :
    cal P f_chain_Chain_Accept [.pointer (some ⟨g, 0, none⟩), bq b v] w fun r w' =>
      ((over = true ∨ x.off = true) ∧ r = .int .i64 5 ∧ Sep w0 w' (chH g gi gm lv iv pt over B ++ (tp pt x :: As))) ∨
      (over = false ∧ x.off = false ∧ b.link y.1 ≠ 0 ∧ r = .int .i64 (b.link y.1) ∧ Sep w0 w' (chH g gi gm lv iv pt over B ++ (tp pt x :: As))) ∨
      (over = false ∧ x.off = false ∧ b.link y.1 = 0 ∧ (x.append b.rcd).2 = 0 ∧ r = .int .i64 0 ∧ ∃ lv' iv' vd, Sep w0 w' (chH g gi gm lv' iv' pt false (B ++ [(b, vd)]) ++ (tp pt (x.append b.rcd).1 :: ownB vd b.d :: As))) ∨
      (over = false ∧ x.off = false ∧ b.link y.1 = 0 ∧ (x.append b.rcd).2 ≠ 0 ∧ r = .int .i64 (x.append b.rcd).2 ∧ Sep w0 w' (chH g gi gm lv iv pt ((x.append b.rcd).2 == 5) B ++ (tp pt (x.append b.rcd).1 :: As))) := by
  refine s_chain_Chain_Accept fun R hR => ?_
  unfold c_chain_Chain_Accept
  have hrC : ∀ {z : World} {Bs : List Asn}, Sep w0 z (Bs ++ (chH g gi gm lv iv pt over B ++ (tp pt x :: As))) → ChR z.heap g gi lv iv (.map (some gm)) pt over B := fun {z Bs} hz => chH_rd hz.dropL (hD.sub fun A hA => List.mem_cons_of_mem _ hA)
  refine bxQ hs fun g3 w1 hs1 => ?_
  refine cal_i (cMay_spec (hrC (Bs := [_]) hs1)) ?_
  rintro _ _ ⟨rfl, rfl⟩
  cases over with
  | true =>
    rw [if_pos rfl]
    simp only [fx, Nat.reduceAdd, forall_const, show ((5 : Int) != 0) = true from rfl]
    exact hR _ _ (.inl ⟨.inl rfl, rfl, hs1.tail⟩)
  | false =>
  rw [if_neg (by decide)]
  simp only [fx, Nat.reduceAdd, forall_const, show ((0 : Int) != 0) = false from rfl, L_chain_Chain (Sep.blk hs1.p1), L_chain_Chain__in (Sep.blk hs1.p1), L_chain_Chain__l (Sep.blk hs1.p1), L_chain_Chain__ids (Sep.blk hs1.p1), L_chain_Chain__at (Sep.blk hs1.p1), L_chain_Chain__over (Sep.blk hs1.p1), L_chain_held (Sep.blk hs1.p2), L_chain_held__Tape (Sep.blk hs1.p2)]
  refine cal_i (tpOn_spec (Sep.pick hs1 [6] 7)) ?_
  rintro _ _ ⟨rfl, rfl⟩
  rw [hm]
  cases hoff : x.off with
  | true =>
    simp only [fx, Nat.reduceAdd, forall_const]
    exact hR _ _ (.inl ⟨.inr hoff, rfl, hs1.tail⟩)
  | false =>
  simp only [fx, Nat.reduceAdd, forall_const]
  refine drH_S hs1 fun w2 hs2 _ => ?_
  refine ⟨bq b v, fun u hu => (L_api_Block (Sep.blk hu) _).mpr rfl, ?_⟩
  refine efS_i (cal_i (cLast_spec (hrC (Bs := [_]) hs2) hy hn) ?_)
  rintro _ w3 ⟨rfl, hf3⟩
  have hs3 := hs2.old hf3
  refine ⟨hs3, ?_⟩
  refine efC_cal (cal_i (Linked_spec (a := b) (b := y.1) (hC.fr hs3.fr0) (hb _ (Sep.pick hs3 [] 7)) ((hrC (Bs := [_]) hs3).bw.2 y (List.mem_of_getElem? hy)) hyh hh) ?_)
  rintro _ w4 ⟨rfl, hf4⟩
  have hs4 := hs3.old hf4
  clear hs1 hs2 hs3
  simp only [fx, Nat.reduceAdd, forall_const]
  rw [cnd_bool]
  refine ⟨fun h => ?_, fun h => ?_⟩
  · have h : b.link y.1 ≠ 0 := by simpa using h
    exact hR _ _ (.inr (.inl ⟨rfl, hoff, h, rfl, hs4.tail⟩))
  have hl0 : b.link y.1 = 0 := by simpa using h
  have hck := (link_chk hl0).1
  have hro : b.recO = b.rcd := if_pos hck
  simp only [L_api_Block hs4.blk, L_api_Block__Parent hs4.blk, L_api_Block__Height hs4.blk, L_api_Block__Data hs4.blk]
  refine cal_i (recBytes_spec (b := b) (v := v) (hC.fr hs4.fr0) (hb _ (Sep.pick hs4 [] 7)) hh) ?_
  rintro _ w5 ⟨s, rfl, hs5⟩
  replace hs5 := hs4.join hs5
  rw [hro] at hs5
  rw [hck]
  -- rec 0 · b 1 · c 2 · held 3 · l 4 · ids 5 · map 6 · tp 7
  have hrl : b.rcd.length ≤ 1000000 := by
    have := Blk.recO_le b
    rw [hro] at this
    omega
  simp only [fx, Nat.reduceAdd, forall_const, show ((0 : Int) != 0) = false from rfl, L_chain_Chain (Sep.blk (Sep.pick hs5 [2] 3)), L_chain_Chain__in (Sep.blk (Sep.pick hs5 [2] 3)), L_chain_Chain__l (Sep.blk (Sep.pick hs5 [2] 3)), L_chain_Chain__ids (Sep.blk (Sep.pick hs5 [2] 3)), L_chain_Chain__at (Sep.blk (Sep.pick hs5 [2] 3)), L_chain_Chain__over (Sep.blk (Sep.pick hs5 [2] 3)), L_chain_held (Sep.blk (Sep.pick hs5 [3] 4)), L_chain_held__Tape (Sep.blk (Sep.pick hs5 [3] 4))]
  refine bldS1 hs5 hrl fun a w6 hs6 => ?_
  refine cal_i (app1_spec (Sep.pick hs6 [8, 0, 1, 2, 3, 4, 5, 6, 7] 9) hx hrl) ?_
  rintro _ w7 ⟨rfl, hs7⟩
  -- tp 0 · a 1 · rec 2 · b 3 · c 4 · held 5 · l 6 · ids 7 · map 8
  simp only [fx, Nat.reduceAdd, forall_const]
  rw [cnd_bool]
  refine ⟨fun h => ?_, fun h => ?_⟩
  · have h : (x.append b.rcd).2 = 0 := by simpa using h
    simp only [L_api_Block (Sep.blk (Sep.pick hs7 [3] 4)), L_api_Block__Parent (Sep.blk (Sep.pick hs7 [3] 4)), L_api_Block__Height (Sep.blk (Sep.pick hs7 [3] 4)), L_api_Block__Data (Sep.blk (Sep.pick hs7 [3] 4))]
    refine cal_i (cAdd_spec (b := b) (v := v) (As := tp pt (x.append b.rcd).1 :: As) (Sep.pick hs7 [4, 5, 6, 7, 8, 0] 9) hC (fun z hz => hb z hz.tail) hh hck hn) ?_
    rintro _ w8 ⟨rfl, lv', iv', vd, hs8⟩
    rw [h]
    exact hR _ _ (.inr (.inr (.inl ⟨rfl, hoff, hl0, h, rfl, lv', iv', vd, Sep.pick hs8 [0, 1, 2, 3, 4, 6, 5] 7⟩)))
  have h : (x.append b.rcd).2 ≠ 0 := by simpa using h
  rw [cnd_bool]
  refine ⟨fun h5 => ?_, fun h5 => ?_⟩
  · refine St_chain_Chain__over (Sep.pick hs7 [4, 5, 6, 7, 8, 0] 9) fun w8 hs8 => ?_
    refine hR _ _ (.inr (.inr (.inr ⟨rfl, hoff, hl0, h, rfl, ?_⟩)))
    rw [h5]
    exact hs8
  · refine hR _ _ (.inr (.inr (.inr ⟨rfl, hoff, hl0, h, rfl, ?_⟩)))
    rw [h5]
    exact Sep.pick hs7 [4, 5, 6, 7, 8, 0] 9
theorem fldv_hgt (b : Blk) (v : Value) (K : Value → Prop) : fldv 32 1 false (bq b v) K = K (.int .i64 b.h) := by
  have hl : (bvs b.p.1).length = 32 := by rw [bvs_length]; exact b.p.2
  have ex : (Rdr.cells Q_api_Block (b.p, b.h, v)).toArray[32]? = some (.int .i64 b.h) := by
    show ((bvs b.p.1 ++ ([Value.int .i64 b.h] ++ [v])).toArray)[32]? = _
    rw [List.getElem?_toArray, List.getElem?_append_right (by omega), hl]
    rfl
  refine propext ⟨?_, fun hk => ⟨_, rfl, _, ex, hk⟩⟩
  rintro ⟨cs, hcs, u, hu, hk⟩
  cases hcs
  rw [ex] at hu
  cases hu
  exact hk
theorem cLastId_spec {y : BV} (hr : ChR w.heap g gi lv iv m pt over B) (hy : B[B.length - 1]? = some y) (hn : B.length ≤ 1000000) : cal P f_chain_Chain_Last [.pointer (some ⟨g, 0, none⟩)] w fun r w' => r = .tuple #[kv y.1.id, .int .i64 y.1.h] ∧ Fr [] w w' := by
  refine s_chain_Chain_Last fun R hR => ?_
  unfold c_chain_Chain_Last
  have hpos : 0 < B.length := by
    have := (List.getElem?_eq_some_iff.1 hy).1
    omega
  have hy' : (B.map (·.1.id))[B.length - 1]? = some y.1.id := by rw [List.getElem?_map, hy]; rfl
  refine alloc_s (Sep.start w) (A_api_ID w) fun g2 w1 hs1 => ?_
  refine cal_i (cNone_spec (hs1.ch hr)) ?_
  rintro _ _ ⟨rfl, rfl⟩
  simp only [fx, Nat.reduceAdd, forall_const]
  refine drH_S hs1 fun w2 hs2 _ => ?_
  refine rdS_ld (v := iv) (fun u hu K hk => by obtain ⟨T, fr, hc⟩ := (hu.ch hr).cell; exact (L_chain_Chain__ids hc K).mpr hk) ?_
  refine rdS_ld (v := iv) (fun u hu K hk => by obtain ⟨T, fr, hc⟩ := (hu.ch hr).cell; exact (L_chain_Chain__ids hc K).mpr hk) ?_
  have hil := hr.iw.len (fun v => v = .int .i64 B.length)
  rw [List.length_map] at hil
  have hil2 : ∀ K, lenS iv K = K (.int .i64 B.length) := fun K => by
    have := hr.iw.len K
    rwa [List.length_map] at this
  rw [hil2]
  simp only [fx, Nat.reduceAdd, forall_const]
  rw [wi64 (by omega) (by omega)]
  have e1 : (B.length : Int) - 1 = ((B.length - 1 : Nat) : Int) := by omega
  rw [e1]
  change ixs 32 _ _ _
  refine rdS_rowC (q := rVec 32) (by decide) hs2 (fun u hu => (hu.ch hr).iw) hy' .i64 ?_
  refine efS_i (cal_i (cLast_spec (hs2.ch hr) hy hn) ?_)
  rintro _ w3 ⟨rfl, hf3⟩
  have hs3 := hs2.old hf3
  refine ⟨hs3, ?_⟩
  change fldv _ _ _ _ _
  rw [fldv_hgt]
  refine efC_stN (St_api_ID (b := y.1.id) hs3 fun w4 hs4 => ?_)
  simp only [L_api_ID hs4.blk]
  exact hR _ _ ⟨rfl, hs4.fr0⟩
end
end Go.Fx
set_option linter.unusedVariables false
set_option linter.unusedSimpArgs false
namespace Go.Fx
/-- An iterator of n values: what it hands over at place i, and the memory that the receiver gets with it, are known by 'arg'; M: the memory that it looks at is as it was. -/
def IterG (P : Program) (g : Value) (M : Heap → Prop) (n : Nat) (arg : Nat → List Value → List Asn → Prop) : Prop :=
  ∃ gf cap, g = .func (.func gf) #[] cap ∧ callable P gf = true ∧ ∀ (y : Value) (w0 w : World) (J : Nat → List Asn → Prop) (X : List Asn → Prop) (As : List Asn), y.oneCell' = true → J 0 As → Sep w0 w As →
    (∀ i Bs Ls z, J i Bs → Sep w0 z (Bs ++ Ls) → M z.heap) →
    (∀ i args Es z Bs Ls, i < n → arg i args Es → J i Bs → Sep w0 z (Es ++ (Bs ++ Ls)) → calY P y args z fun r z' => (r = .bool true ∧ ∃ Cs, J (i + 1) Cs ∧ Sep w0 z' (Cs ++ Ls)) ∨ (r = .bool false ∧ ∃ Cs, X Cs ∧ Sep w0 z' (Cs ++ Ls))) →
    cal P gf (y :: cap.toList) w fun r z' => r = .tuple #[] ∧ ((∃ Cs, J n Cs ∧ Sep w0 z' Cs) ∨ ∃ Cs, X Cs ∧ Sep w0 z' Cs)
section
variable {w0 w w' : World} {As Bs : List Asn}
theorem rngG_s {P : Program} {g : Value} {M : Heap → Prop} {n k : Nat} {arg : Nat → List Value → List Asn → Prop} {rnd : List Value → World → (World → (World → Prop) → Prop) → (Option Code → World → Prop) → Prop}
    {out : Nat → List (Option Code × (World → Prop))} (hs : Sep w0 w As) (hit : IterG P g M n arg) (hk : ∀ i args Es, arg i args Es → args.length = k)
    (J : Nat → List Asn → Prop) (X : Code → List Asn → Prop) (h0 : J 0 As) (hM : ∀ i Bs Ls z, J i Bs → Sep w0 z (Bs ++ Ls) → M z.heap)
    (hrnd : ∀ (i : Nat) (args : List Value) (Es : List Asn) (z : World) (Bs LR LB : List Asn) (bg : World → (World → Prop) → Prop) (fin : Option Code → World → Prop), i < n → J i Bs → arg i args Es → Sep w0 z (Es ++ (Bs ++ LR)) →
      (∀ z' Cs K, Sep w0 z' (Cs ++ LR) → (∀ z'', Sep w0 z'' (Cs ++ LB) → K z'') → bg z' K) →
      (∀ z' Cs, J (i + 1) Cs → Sep w0 z' (Cs ++ LB) → fin none z') → (∀ j z' Cs, X j Cs → Sep w0 z' (Cs ++ LB) → fin (some j) z') → rnd args z bg fin)
    (hN : ∀ D Bs z, J n Bs → Sep w0 z (.obj D dfB :: Bs) → outL none z (out D)) (hX : ∀ D j Bs z, X j Bs → Sep w0 z (.obj D dfB :: Bs) → outL (some j) z (out D)) : rng P g k w rnd out := by
  obtain ⟨gf, cap, hg, hcal, hI⟩ := hit
  refine ⟨gf, cap, hg, hcal, fun y rec h1 hy => ?_⟩
  have swap2 : ∀ {z : World} {Cs : List Asn} {A B : Asn}, Sep w0 z (Cs ++ [A, B]) → Sep w0 z (A :: B :: Cs) := fun h => Sep.rot h
  have swap3 : ∀ {z : World} {Cs : List Asn} {A B : Asn}, Sep w0 z (A :: B :: Cs) → Sep w0 z (Cs ++ [A, B]) := fun {z Cs A B} h => Sep.rot (As := [A, B]) h
  -- the record at the head, and back
  have hd : ∀ {z : World} {Cs Ls : List Asn} {A : Asn}, Sep w0 z (Cs ++ (A :: Ls)) → Sep w0 z (A :: (Cs ++ Ls)) := fun h => h.perm List.perm_middle
  have bk : ∀ {z : World} {Cs Ls : List Asn} {A : Asn}, Sep w0 z (A :: (Cs ++ Ls)) → Sep w0 z (Cs ++ (A :: Ls)) := fun h => h.perm List.perm_middle.symm
  refine cal_i (hI y w0 _ (fun i Bs => ∃ Cs, J i Cs ∧ Bs = Cs ++ [.obj (w.heap.size + 1) (rec .ready none), .obj w.heap.size dfB])
    (fun Bs => ∃ j Cs, X j Cs ∧ Bs = Cs ++ [.obj (w.heap.size + 1) (rec .done (some j)), .obj w.heap.size dfB]) (As ++ [.obj (w.heap.size + 1) (rec .ready none), .obj w.heap.size dfB]) h1 ⟨As, h0, rfl⟩ (swap3 ?_) ?_ ?_) ?_
  · have h2 : Sep w0 (w.alloc dfB) (.obj w.heap.size dfB :: As) := hs.new (F' := [w.heap.size]) (fr_alloc w _) (B := .obj w.heap.size dfB) ⟨alloc_new w _, rfl⟩ (by simp)
    have e : (w.alloc dfB).heap.size = w.heap.size + 1 := by simp
    refine h2.new (F' := [w.heap.size + 1]) (fr_alloc _ _) (B := .obj (w.heap.size + 1) (rec .ready none)) ⟨?_, rfl⟩ (by simp)
    have := alloc_new (w.alloc dfB) (rec .ready none)
    rwa [e] at this
  · rintro i _ Ls z ⟨Cs, hJ, rfl⟩ hB
    rw [List.append_assoc] at hB
    exact hM i Cs _ z hJ hB
  · rintro i args Es z _ Ls hi harg ⟨Bs, hJ, rfl⟩ hB
    rw [List.append_assoc] at hB
    have hB2 := hB
    rw [← List.append_assoc] at hB2
    refine hy args z _ (hk i args Es harg) (hd hB2).objAt ?_
    refine hrnd i args Es z Bs _ (.obj (w.heap.size + 1) (rec .busy none) :: .obj w.heap.size dfB :: Ls) _ _ hi hJ harg hB ?_ ?_ ?_
    · intro z' Cs K hz hK
      exact ⟨(hd hz).objAt, hK _ (bk ((hd hz).objUpd _))⟩
    · intro z' Cs hC hz
      exact ⟨(hd hz).objAt, .inl ⟨rfl, _, ⟨Cs, hC, rfl⟩, by rw [List.append_assoc]; exact bk ((hd hz).objUpd _)⟩⟩
    · intro j z' Cs hC hz
      exact ⟨(hd hz).objAt, .inr ⟨rfl, _, ⟨j, Cs, hC, rfl⟩, by rw [List.append_assoc]; exact bk ((hd hz).objUpd _)⟩⟩
  · rintro v z ⟨-, ⟨_, ⟨Bs, hJ, rfl⟩, hB⟩ | ⟨_, ⟨j, Bs, hX', rfl⟩, hB⟩⟩
    · exact ⟨none, (swap2 hB).objAt, hN _ Bs _ hJ ((swap2 hB).objUpd _).tail⟩
    · exact ⟨some j, (swap2 hB).objAt, hX _ j Bs _ hX' ((swap2 hB).objUpd _).tail⟩
end
end Go.Fx
set_option linter.unusedVariables false
set_option linter.unusedSimpArgs false
namespace Go.Fx
section
variable {w0 w w' : World} {As : List Asn} {g gi gm : Nat} {lv iv m pt : Value} {over : Bool} {B : List BV} {x : Tp}
theorem clnI {v : Value} {l : List (Vec 32)} (hv : Rows' (rVec 32) w.heap v l) (hl : l.length ≤ 1000000) : cal P f_slices_Clone_api_ID_api_ID [v] w fun r w' => Sep w w' [rows (rVec 32) r l] := by
  refine s_slices_Clone_api_ID_api_ID fun R hR => ?_
  unfold c_slices_Clone_api_ID_api_ID
  obtain ⟨a, c, rfl, hl', hh⟩ := id hv
  cases a with
  | none =>
    have h0 : l = [] := by
      rcases hh with h0 | ⟨_, _, _, _, _, h, _⟩
      · refine List.eq_nil_of_length_eq_zero ?_
        have : (rVec 32).size = 32 := rfl
        rw [this] at h0
        omega
      · cases h
    subst h0
    simp only [fx, Nat.reduceAdd, forall_const]
    exact hR _ _ (Sep.start w).nilR
  | some a =>
    simp only [fx, Nat.reduceAdd, forall_const]
    have hb1 : ∀ w : World, (Instr.buildSlice T_sl_api_ID 0 #[]).run P w = .ok (.slice (some ⟨w.heap.size, 0, none⟩) 0 0) (w.alloc (.cells ([] : List Value).toArray T_api_ID)) := fun w => by kernel_rfl
    refine build_s (size := 32) (Sep.start w) (cs := []) rfl (hb1 w) fun g w1 hs1 => ?_
    replace hs1 : Sep w w1 [rows (rVec 32) (.slice (some ⟨g, 0, none⟩) 0 0) []] := hs1
    refine rows_app S_sl_api_ID U_sl_api_ID (by simp) hs1 (hv.fr hs1.fr0) ?_ (by simp; omega) (by simp; omega) fun v8 w8 hs8 => ?_
    · intro u hu
      obtain ⟨x, hx, hu⟩ := List.mem_flatMap.1 hu
      exact oneVec u hu
    · exact hR _ _ (by simpa using hs8)
theorem clnB {v : Value} (hv : BRows w.heap v B) (hl : B.length ≤ 1000000) : cal P f_slices_Clone_api_Block_api_Block [v] w fun r w' => Sep w w' [rows Q_api_Block r (B.map BV.t)] := by
  refine s_slices_Clone_api_Block_api_Block fun R hR => ?_
  unfold c_slices_Clone_api_Block_api_Block
  have hv1 := hv.1
  obtain ⟨a, c, rfl, hl', hh⟩ := id hv1
  cases a with
  | none =>
    have h0 : B = [] := by
      rcases hh with h0 | ⟨_, _, _, _, _, h, _⟩
      · refine List.eq_nil_of_length_eq_zero ?_
        have : (Q_api_Block).size = 34 := rfl
        rw [this, List.length_map] at h0
        omega
      · cases h
    subst h0
    simp only [fx, Nat.reduceAdd, forall_const]
    exact hR _ _ (Sep.start w).nilR
  | some a =>
    simp only [fx, Nat.reduceAdd, forall_const]
    have hb1 : ∀ w : World, (Instr.buildSlice T_sl_api_Block 0 #[]).run P w = .ok (.slice (some ⟨w.heap.size, 0, none⟩) 0 0) (w.alloc (.cells ([] : List Value).toArray T_api_Block)) := fun w => by kernel_rfl
    refine build_s (size := 34) (Sep.start w) (cs := []) rfl (hb1 w) fun g w1 hs1 => ?_
    replace hs1 : Sep w w1 [rows Q_api_Block (.slice (some ⟨g, 0, none⟩) 0 0) []] := hs1
    refine rows_app S_sl_api_Block U_sl_api_Block (by simp) hs1 (hv1.fr hs1.fr0) ?_ (by simp; omega) (by simp; omega) fun v8 w8 hs8 => ?_
    · intro u hu
      obtain ⟨x, hx, hu⟩ := List.mem_flatMap.1 hu
      obtain ⟨y, hy, rfl⟩ := List.mem_map.1 hx
      exact one_api_Block (hv.2 y hy).one u hu
    · exact hR _ _ (by simpa using hs8)
theorem al_slB (w : World) : (Instr.alloc T_sl_api_Block true (.tuple #[])).run P w = .ok (.pointer (some ⟨w.heap.size, 0, none⟩)) (w.alloc (.cells #[.slice none 0 0] T_sl_api_Block)) := by kernel_rfl
theorem al_slI (w : World) : (Instr.alloc T_sl_api_ID true (.tuple #[])).run P w = .ok (.pointer (some ⟨w.heap.size, 0, none⟩)) (w.alloc (.cells #[.slice none 0 0] T_sl_api_ID)) := by kernel_rfl
theorem cAll_spec (hr : ChR w.heap g gi lv iv m pt over B) (hn : B.length ≤ 1000000) : cal P f_chain_Chain_All [.pointer (some ⟨g, 0, none⟩)] w fun r w' => ∃ (g3 g4 : Nat) (u y : Value), r = .func (.func f_chain_Chain_All_1) #[] #[.pointer (some ⟨g3, 0, none⟩), .pointer (some ⟨g4, 0, none⟩)] ∧
    Sep w w' [blk g3 #[u] T_sl_api_Block, blk g4 #[y] T_sl_api_ID, rows Q_api_Block u (B.map BV.t), rows (rVec 32) y (B.map (·.1.id))] := by
  refine s_chain_Chain_All fun R hR => ?_
  unfold c_chain_Chain_All
  refine alloc_s (Sep.start w) (al_slB w) fun g3 w1 hs1 => ?_
  refine alloc_s hs1 (al_slI w1) fun g4 w2 hs2 => ?_
  refine ⟨fun z => ∃ u y, Sep w z [blk g3 #[u] T_sl_api_Block, blk g4 #[y] T_sl_api_ID, rows Q_api_Block u (B.map BV.t), rows (rVec 32) y (B.map (·.1.id))], ?_, fun z ⟨u, y, hz⟩ _ => hR _ _ ⟨g3, g4, u, y, rfl, hz⟩⟩
  refine cal_i (cNone_spec (hs2.ch hr)) ?_
  rintro _ _ ⟨rfl, rfl⟩
  simp only [fx, Nat.reduceAdd, forall_const]
  refine drH_S hs2 fun w3 hs3 _ => ?_
  refine rdS_ld (v := lv) (fun u hu K hk => by obtain ⟨T, fr, hc⟩ := (hu.ch hr).cell; exact (L_chain_Chain__l hc K).mpr hk) ?_
  refine rdS_ld (v := iv) (fun u hu K hk => by obtain ⟨T, fr, hc⟩ := (hu.ch hr).cell; exact (L_chain_Chain__ids hc K).mpr hk) ?_
  refine efS_i (cal_i (clnB (hs3.ch hr).bw hn) ?_)
  rintro u w4 hs4
  replace hs4 := hs3.join hs4
  refine ⟨hs4.tail, ?_⟩
  refine efC_cal (cal_i (clnI (hs4.ch hr).iw (by simpa using hn)) ?_)
  rintro y w5 hs5
  replace hs5 := hs4.join hs5
  -- ids 0 · l 1 · g4 2 · g3 3
  refine efC_st1 (st1_s (Sep.pick hs5 [3, 0, 1, 2] 4) (by simp) (Sep.oneR hs5.p1) fun w6 hs6 => ?_)
  -- g3 0 · ids 1 · l 2 · g4 3
  refine efC_st1 (st1_s (Sep.pick hs6 [3, 0, 1, 2] 4) (by simp) (Sep.oneR hs6.p1) fun w7 hs7 => ?_)
  exact ⟨u, y, Sep.pick hs7 [1, 0, 3, 2] 4⟩
def argB (B : List BV) (i : Nat) (_ : World) (args : List Value) : Prop := ∃ x, B[i]? = some x ∧ args = [.int .i64 (i : Nat), bq x.1 x.2]
theorem sall_iter {v : Value} {g1 : Nat} (hl : B.length ≤ 1000000) : Iter P (.func (.func f_slices_All_api_Block_api_Block_1) #[] #[.pointer (some ⟨g1, 0, none⟩)])
    (fun h => (∃ T fr, h[g1]? = some (.cells #[v] T fr)) ∧ BRows h v B) B.length (argB B) := by
  refine ⟨_, _, rfl, by kernel_rfl, fun y w0 w J X As h1 h0 hs hM hst => ?_⟩
  show cal P f_slices_All_api_Block_api_Block_1 [y, .pointer (some ⟨g1, 0, none⟩)] w _
  refine s_slices_All_api_Block_api_Block_1 fun R hR => ?_
  unfold c_slices_All_api_Block_api_Block_1
  obtain ⟨⟨T, fr, hc⟩, hv⟩ := hM 0 As [] w h0 (by rwa [List.append_nil])
  refine ld1_i (v := v) hc rfl ?_
  rw [hv.len]
  refine ⟨fun t z => ∃ (i : Nat) (Bs : List Asn), t = .int .i64 i ∧ i ≤ B.length ∧ J i Bs ∧ Sep w0 z Bs, fun t _ => (B.length - RowKit.intOf t).toNat, ⟨0, As, rfl, by omega, h0, hs⟩, ?_⟩
  rintro _ z ⟨i, Bs, rfl, hi, hJ, hz⟩ -
  simp only [fx, Nat.reduceAdd, forall_const]
  rw [cnd_bool]
  refine ⟨fun h => ?_, fun h => ?_⟩
  · have hlt : i < B.length := by simp at h; omega
    obtain ⟨x, hx⟩ : ∃ x, B[i]? = some x := ⟨_, List.getElem?_eq_getElem hlt⟩
    have hv' := (hM i Bs [] z hJ (by rwa [List.append_nil])).2
    change ixs 34 _ _ _
    refine BRows.ld hv' hx .i64 ?_
    refine alloc_s hz (A_api_Block z) fun g4 z1 hz1 => ?_
    refine St_api_Block (b := x.t) hz1 (one_api_Block (hv'.2 x (List.mem_of_getElem? hx)).one) fun z2 hz2 => ?_
    simp only [L_api_Block hz2.blk, L_api_Block__Parent hz2.blk, L_api_Block__Height hz2.blk, L_api_Block__Data hz2.blk]
    refine calY_i (hst i [.int .i64 i, bq x.1 x.2] z2 Bs _ hlt ⟨x, hx, rfl⟩ hJ (Sep.rot (As := [_]) hz2)) ?_
    rintro r z' (⟨rfl, Cs, hJ', hz'⟩ | ⟨rfl, Cs, hX', hz'⟩)
    · simp only [fx, Nat.reduceAdd, forall_const]
      rw [wi64 (by omega) (by omega)]
      exact ⟨⟨i + 1, Cs, by simp, by omega, hJ', hz'.dropR⟩, by simp [RowKit.intOf]; omega⟩
    · simp only [fx, Nat.reduceAdd, forall_const]
      exact hR _ _ ⟨rfl, .inr ⟨Cs, hX', hz'.dropR⟩⟩
  · have hge : i = B.length := by simp at h; omega
    subst hge
    exact hR _ _ ⟨rfl, .inl ⟨Bs, hJ, hz⟩⟩
theorem sAll_spec {v : Value} (hv1 : v.oneCell' = true) : cal P f_slices_All_api_Block_api_Block [v] w fun r w' => ∃ g1, r = .func (.func f_slices_All_api_Block_api_Block_1) #[] #[.pointer (some ⟨g1, 0, none⟩)] ∧ Sep w w' [blk g1 #[v] T_sl_api_Block] := by
  refine s_slices_All_api_Block_api_Block fun R hR => ?_
  unfold c_slices_All_api_Block_api_Block
  refine bx_s (Sep.start w) fun g1 w1 hs1 => ?_
  have ev : v.cells = #[v] := by cases v <;> simp_all [Value.cells, Value.oneCell']
  rw [ev] at hs1
  exact hR _ _ ⟨g1, rfl, hs1⟩
/-- What a chain hands over: a name and a block with memory of its own. -/
def argC (B : List BV) (i : Nat) (args : List Value) (Es : List Asn) : Prop := ∃ x vd, B[i]? = some x ∧ args = [kv x.1.id, bq x.1 vd] ∧ Es = [ownB vd x.1.d]
def MC (g3 g4 : Nat) (u y : Value) (B : List BV) (h : Heap) : Prop := (∃ T fr, h[g3]? = some (.cells #[u] T fr)) ∧ (∃ T fr, h[g4]? = some (.cells #[y] T fr)) ∧ BRows h u B ∧ Rows' (rVec 32) h y (B.map (·.1.id))
theorem all1_iter {lv iv : Value} {g3 g4 : Nat} (hl : B.length ≤ 1000000) (hv1 : lv.oneCell' = true) (hdl : ∀ x ∈ B, x.1.d.length ≤ 100000) :
    IterG P (.func (.func f_chain_Chain_All_1) #[] #[.pointer (some ⟨g3, 0, none⟩), .pointer (some ⟨g4, 0, none⟩)]) (MC g3 g4 lv iv B) B.length (argC B) := by
  refine ⟨_, _, rfl, by kernel_rfl, fun y w0 w J X As h1 h0 hs hM hst => ?_⟩
  show cal P f_chain_Chain_All_1 [y, .pointer (some ⟨g3, 0, none⟩), .pointer (some ⟨g4, 0, none⟩)] w _
  refine s_chain_Chain_All_1 fun R hR => ?_
  unfold c_chain_Chain_All_1
  refine bx_s hs fun g2 w1 hs1 => ?_
  have ey : y.cells = #[y] := by cases y <;> simp_all [Value.cells, Value.oneCell']
  rw [ey] at hs1
  obtain ⟨⟨T, fr, hc⟩, _, hv, _⟩ := hM 0 As [blk g2 #[y] T_func_api_ID_api_Block_bool] w1 h0 (Sep.rot (As := [_]) hs1)
  refine ld1_i (v := lv) hc rfl ?_
  refine cal_i (sAll_spec hv1) ?_
  rintro _ w2 ⟨g1, rfl, hs2⟩
  replace hs2 := hs1.join hs2
  have perm : ∀ {z : World} {Cs Ls : List Asn} {A B : Asn}, Sep w0 z ((A :: B :: Cs) ++ Ls) → Sep w0 z (Cs ++ (A :: B :: Ls)) := fun {z Cs Ls A B} h => h.perm (by
    show (A :: B :: (Cs ++ Ls)).Perm _
    exact ((List.perm_middle (l₁ := Cs) (l₂ := Ls) (a := B)).symm.cons A).trans (List.perm_middle (l₁ := Cs) (l₂ := B :: Ls) (a := A)).symm)
  have perm' : ∀ {z : World} {Cs Ls : List Asn} {A B : Asn}, Sep w0 z (Cs ++ (A :: B :: Ls)) → Sep w0 z ((A :: B :: Cs) ++ Ls) := fun {z Cs Ls A B} h => h.perm (by
    show (Cs ++ (A :: B :: Ls)).Perm (A :: B :: (Cs ++ Ls))
    exact (List.perm_middle (l₁ := Cs) (l₂ := B :: Ls) (a := A)).trans ((List.perm_middle (l₁ := Cs) (l₂ := Ls) (a := B)).cons A))
  refine rng_s (As := blk g1 #[lv] T_sl_api_Block :: blk g2 #[y] T_func_api_ID_api_Block_bool :: As) hs2 (sall_iter (v := lv) (g1 := g1) hl) (fun i z args ⟨x, _, h⟩ => by rw [h]; rfl)
    (fun i Bs => ∃ Cs, J i Cs ∧ Bs = blk g1 #[lv] T_sl_api_Block :: blk g2 #[y] T_func_api_ID_api_Block_bool :: Cs) (fun c Bs => c = .ret ∧ ∃ Cs, X Cs ∧ Bs = blk g1 #[lv] T_sl_api_Block :: blk g2 #[y] T_func_api_ID_api_Block_bool :: Cs) ⟨As, h0, rfl⟩ ?_ ?_ ?_ ?_
  · rintro i _ Ls z ⟨Cs, hJ, rfl⟩ hz
    exact ⟨⟨_, _, Sep.blk hz⟩, (hM i Cs _ z hJ (perm hz)).2.2.1⟩
  · rintro i _ z _ LR LB bg fin hi ⟨Cs, hJ, rfl⟩ ⟨x, hx, rfl⟩ hz hbg hfn hfx
    have hx' : (B.map (·.1.id))[i]? = some x.1.id := by rw [List.getElem?_map, hx]; rfl
    have hxo := (((hM i Cs _ z hJ (perm hz)).2.2.1).2 x (List.mem_of_getElem? hx)).one
    refine alloc_s hz (A_api_Block z) fun g5 z1 hz1 => ?_
    simp only [List.getD_cons_zero, List.getD_cons_succ]
    refine St_api_Block (b := x.t) hz1 (one_api_Block hxo) fun z2 hz2 => ?_
    refine hbg z2 (blk g5 (Rdr.cells Q_api_Block x.t).toArray T_api_Block :: blk g1 #[lv] T_sl_api_Block :: blk g2 #[y] T_func_api_ID_api_Block_bool :: Cs) _ hz2 fun z3 hz3 => ?_
    have hmM : ∀ {u : World}, Sep w0 u (blk g5 (Rdr.cells Q_api_Block x.t).toArray T_api_Block :: ((blk g1 #[lv] T_sl_api_Block :: blk g2 #[y] T_func_api_ID_api_Block_bool :: Cs) ++ LB)) → MC g3 g4 lv iv B u.heap := fun hu => hM i Cs _ _ hJ (perm hu.tail)
    replace hz3 : Sep w0 z3 (blk g5 (Rdr.cells Q_api_Block x.t).toArray T_api_Block :: ((blk g1 #[lv] T_sl_api_Block :: blk g2 #[y] T_func_api_ID_api_Block_bool :: Cs) ++ LB)) := hz3
    refine drH_S hz3 fun z4 hz4 _ => ?_
    refine rdS_ld (v := y) (fun u hu K hk => ld1_i (v := y) (Sep.blk (Sep.p1 hu.tail)) rfl hk) ?_
    refine rdS_ld (v := iv) (fun u hu K hk => by obtain ⟨_, ⟨T, fr, hc⟩, _⟩ := hmM hu; exact ld1_i (v := iv) hc rfl hk) ?_
    refine rdS_rowC (q := rVec 32) (by decide) hz4 (fun u hu => (hmM hu).2.2.2) hx' .i64 ?_
    refine ⟨bq x.1 x.2, fun u hu => (L_api_Block (Sep.blk hu) _).mpr rfl, ?_⟩
    refine efS_i (cal_i (bkClone_spec (b := x.1) (v := x.2) ((hmM hz4).2.2.1.2 x (List.mem_of_getElem? hx)) (by have := hdl x (List.mem_of_getElem? hx); omega)) ?_)
    rintro _ z5 ⟨vd, rfl, hz5⟩
    replace hz5 := hz4.join hz5
    refine ⟨hz5.tail, ?_⟩
    -- own 0 · g5 1 · g1 2 · g2 3 · Cs
    have hz6 : Sep w0 z5 ([ownB vd x.1.d] ++ (Cs ++ (blk g1 #[lv] T_sl_api_Block :: blk g2 #[y] T_func_api_ID_api_Block_bool :: LB))) := by
      refine Sep.perm (Sep.pick hz5 [0, 2, 3] 4) ?_
      refine List.Perm.cons _ ?_
      exact ((List.perm_middle (l₁ := Cs) (l₂ := LB) (a := blk g2 #[y] T_func_api_ID_api_Block_bool)).symm.cons _).trans (List.perm_middle (l₁ := Cs) (l₂ := _ :: LB) (a := blk g1 #[lv] T_sl_api_Block)).symm
    refine calY_i (hst i [kv x.1.id, bq x.1 vd] _ z5 Cs _ hi ⟨x, vd, hx, rfl, rfl⟩ hJ hz6) ?_
    rintro r z' (⟨rfl, Cs', hJ', hz'⟩ | ⟨rfl, Cs', hX', hz'⟩)
    · simp only [fx, Nat.reduceAdd, forall_const]
      exact hfn z' _ ⟨Cs', hJ', rfl⟩ (perm' hz')
    · simp only [fx, Nat.reduceAdd, forall_const]
      exact hfx _ z' _ ⟨rfl, Cs', hX', rfl⟩ (perm' hz')
  · rintro D _ z ⟨Cs, hJ, rfl⟩ hz
    exact .inl ⟨rfl, takeD_s hz fun w' hw' => hR _ _ ⟨rfl, .inl ⟨Cs, hJ, hw'.tail.tail⟩⟩⟩
  · rintro D _ _ z ⟨rfl, Cs, hX', rfl⟩ hz
    exact .inr (.inl ⟨rfl, takeD_s hz fun w' hw' => hR _ _ ⟨rfl, .inr ⟨Cs, hX', hw'.tail.tail⟩⟩⟩)
end
end Go.Fx
set_option linter.unusedVariables false
set_option linter.unusedSimpArgs false
namespace Go.Fx
section
variable {w0 w w' : World} {As : List Asn} {g gi gm : Nat} {lv iv m pt : Value} {over : Bool} {B : List BV} {x : Tp}
/-- A row of the law's list. -/
def nmd (x : BV) : Vec 32 × Vec 32 × Int × Value := (x.1.id, x.t)
theorem nilFnC {f : FuncId} {cap : Array Value} {w : World} (K : Value → Prop) : rdP P (eqS .eql T_iter_Seq2_api_ID_api_Block (.tmp 11) (.const Value.nilFunc) (.func (.func f) #[] cap) Value.nilFunc) w K = K (.bool false) := rdP_eq (by kernel_rfl) K
theorem nBld {y : BV} {K : Value → World → Prop} {Bs : List Asn} (hs : Sep w0 w Bs) (hk : ∀ a z, Sep w0 z (rows Q_flurrylaw10_named a [nmd y] :: Bs) → K a z) : efP P (Instr.buildSlice T_sl_flurrylaw10_named 1 #[(0, .agg (Rdr.cells Q_flurrylaw10_named (nmd y)).toArray)]) w K :=
  rows_lit (q := Q_flurrylaw10_named) hs S_sl_flurrylaw10_named (l := [nmd y]) (V := fun a => .agg (Rdr.cells Q_flurrylaw10_named a).toArray) (fun a => rfl) rfl rfl (by decide) (by decide) fun g7 w7 hs7 => hk _ _ hs7
theorem nApp {y : BV} {u a : Value} {N : List BV} {K : Value → World → Prop} {Bs : List Asn} (hs : Sep w0 w (rows Q_flurrylaw10_named u (N.map nmd) :: Bs)) (ha : Rows' Q_flurrylaw10_named w.heap a [nmd y]) (h1 : y.2.oneCell' = true) (hl : N.length ≤ 1000000)
    (hk : ∀ u' z, Sep w0 z (rows Q_flurrylaw10_named u' ((N ++ [y]).map nmd) :: Bs) → K u' z) : efP P (Builtin.append_ #[T_sl_flurrylaw10_named, T_sl_flurrylaw10_named] T_sl_flurrylaw10_named #[u, a]) w K :=
  rows_app (q := Q_flurrylaw10_named) S_sl_flurrylaw10_named U_sl_flurrylaw10_named (by simp) hs ha (by simp only [List.flatMap_cons, List.flatMap_nil, List.append_nil]; exact one_flurrylaw10_named (a := nmd y) h1) (by simp; omega) (by simp; omega) fun v8 w8 hs8 => hk _ _ (by
    have e : (N ++ [y]).map nmd = N.map nmd ++ [nmd y] := by simp
    rw [e]; exact hs8)
theorem al_slN (w : World) : (Instr.alloc T_sl_flurrylaw10_named true (.tuple #[])).run P w = .ok (.pointer (some ⟨w.heap.size, 0, none⟩)) (w.alloc (.cells #[.slice none 0 0] T_sl_flurrylaw10_named)) := by kernel_rfl
theorem told10_gen {p : Value} {most : Nat} (hall : ∀ z, Fr [] w z → cal P f_chain_Chain_All [p] z fun r w' => ∃ (g3 g4 : Nat) (u y : Value), r = .func (.func f_chain_Chain_All_1) #[] #[.pointer (some ⟨g3, 0, none⟩), .pointer (some ⟨g4, 0, none⟩)] ∧
    Sep z w' [blk g3 #[u] T_sl_api_Block, blk g4 #[y] T_sl_api_ID, rows Q_api_Block u (B.map BV.t), rows (rVec 32) y (B.map (·.1.id))]) (hrd : ∀ x ∈ B, RdB w.heap x.2 x.1.d) (hn : B.length ≤ 1000000) (hdl : ∀ x ∈ B, x.1.d.length ≤ 100000) (hm : most ≤ 2000000) :
    cal P f_law10_told [p, .int .i64 most] w fun r w' => ∃ N E, blks N = (blks B).take most ∧ DatB N E ∧ Sep w w' (rows Q_flurrylaw10_named r (N.map nmd) :: E) := by
  refine s_law10_told fun R hR => ?_
  unfold c_law10_told
  refine bx_s (Sep.start w) fun g3 w1 hs1 => ?_
  replace hs1 : Sep w w1 [blk g3 #[.int .i64 most] T_int] := hs1
  refine alloc_s hs1 (al_slN w1) fun g5 w2 hs2 => ?_
  refine cal_i (hall _ hs2.fr0) ?_
  rintro _ w3 ⟨ga, gb, u, y, rfl, hs3⟩
  replace hs3 := hs2.join hs3
  rw [nilFnC, cnd_false]
  -- ga 0 · gb 1 · u 2 · y 3 · g5 4 · g3 5
  have hs4 := Sep.pick (Sep.nilR (q := Q_flurrylaw10_named) hs3) [5, 0, 6, 1, 2, 3, 4] 7
  have hu1 := Sep.oneR hs3.p2
  let F : List Asn := [blk g3 #[.int .i64 most] T_int, blk ga #[u] T_sl_api_Block, blk gb #[y] T_sl_api_ID, rows Q_api_Block u (B.map BV.t), rows (rVec 32) y (B.map (·.1.id))]
  have hlen : ∀ {N : List BV} {k : Nat}, blks N = (blks B).take k → k ≤ B.length → N.length = k := fun {N k} h hk => by
    have := congrArg List.length h
    simp only [List.length_map, List.length_take] at this
    omega
  refine rngG_s (n := B.length) hs4 (all1_iter (lv := u) (iv := y) (g3 := ga) (g4 := gb) hn hu1 hdl) (fun i args Es ⟨x, vd, _, h, _⟩ => by rw [h]; rfl)
    (fun i Bs => i ≤ most ∧ ∃ v N E, blks N = (blks B).take i ∧ DatB N E ∧ Bs = blk g5 #[v] T_sl_flurrylaw10_named :: rows Q_flurrylaw10_named v (N.map nmd) :: (F ++ E))
    (fun c Bs => c = .exit 0 ∧ ∃ v N E, blks N = (blks B).take most ∧ DatB N E ∧ Bs = blk g5 #[v] T_sl_flurrylaw10_named :: rows Q_flurrylaw10_named v (N.map nmd) :: (F ++ E))
    ⟨Nat.zero_le _, _, [], [], by simp, fun x hx => by simp at hx, rfl⟩ ?_ ?_ ?_ ?_
  · rintro i _ Ls z ⟨_, v, N, E, hN, hD, rfl⟩ hz
    replace hz := hz.tail.tail.tail
    exact ⟨⟨_, _, Sep.blk hz⟩, ⟨_, _, Sep.blk hz.tail⟩, ⟨Sep.rows hz.tail.tail, fun x hx => (hrd x hx).fr hz.fr0 (off_nil _)⟩, Sep.rows hz.tail.tail.tail⟩
  · rintro i _ _ z _ LR LB bg fin hi ⟨hle, v, N, E, hN, hD, rfl⟩ ⟨x, vd, hx, rfl, rfl⟩ hz hbg hfn hfx
    have hNl := hlen hN (by omega)
    refine alloc_s hz (A_api_ID z) fun g7 z1 hz1 => ?_
    simp only [List.getD_cons_zero, List.getD_cons_succ]
    refine St_api_ID (b := x.1.id) hz1 fun z2 hz2 => ?_
    refine alloc_s hz2 (A_api_Block z2) fun g8 z3 hz3 => ?_
    refine St_api_Block (b := (x.1.p, x.1.h, vd)) hz3 (one_api_Block (Sep.one hz3.p2)) fun z4 hz4 => ?_
    refine hbg z4 (blk g8 (Rdr.cells Q_api_Block (x.1.p, x.1.h, vd)).toArray T_api_Block :: blk g7 (Rdr.cells (rVec 32) x.1.id).toArray T_api_ID :: ownB vd x.1.d :: (blk g5 #[v] T_sl_flurrylaw10_named :: rows Q_flurrylaw10_named v (N.map nmd) :: (F ++ E))) _ hz4 fun z5 hz5 => ?_
    have hz6 : Sep w z5 (blk g8 (Rdr.cells Q_api_Block (x.1.p, x.1.h, vd)).toArray T_api_Block :: blk g7 (Rdr.cells (rVec 32) x.1.id).toArray T_api_ID :: ownB vd x.1.d :: blk g5 #[v] T_sl_flurrylaw10_named :: rows Q_flurrylaw10_named v (N.map nmd) :: ((F ++ E) ++ LB)) := hz5
    refine ld1_i (v := v) (Sep.blk hz6.p3) rfl ?_
    have hll : ∀ K, lenS v K = K (.int .i64 i) := fun K => by
      have := (Sep.rows (Sep.pick hz6 [4] 5)).len K
      rwa [List.length_map, hNl] at this
    rw [hll]
    refine ld1_i (v := .int .i64 most) (Sep.blk (Sep.pick hz6 [5] 6)) rfl ?_
    simp only [fx, Nat.reduceAdd, forall_const]
    rw [cnd_bool]
    refine ⟨fun h => ?_, fun h => ?_⟩
    · have h : most ≤ i := by simp at h; omega
      obtain rfl : i = most := by omega
      exact hfx _ z5 _ ⟨rfl, v, N, E, hN, hD, rfl⟩ hz6.tail.tail.tail
    · have h : i < most := by simp at h; omega
      refine ld1_i (v := v) (Sep.blk hz6.p3) rfl ?_
      simp only [L_api_ID hz6.p1.blk, L_api_Block hz6.blk, L_api_Block__Parent hz6.blk, L_api_Block__Height hz6.blk, L_api_Block__Data hz6.blk]
      rw [B_flurrylaw10_named_0_1]
      refine nBld (y := (x.1, vd)) hz6 fun a z7 hz7 => ?_
      refine nApp (y := (x.1, vd)) (Sep.pick hz7 [5, 0, 3, 4] 6) (Sep.rows hz7) (Sep.one hz7.p3) (by omega) fun v' z8 hz8 => ?_
      -- rows 0 · a 1 · own 2 · g5 3
      refine st1_s (Sep.pick hz8 [3, 0, 2] 4) (by simp) (Sep.oneR hz8) fun z9 hz9 => ?_
      refine hfn z9 (blk g5 #[v'] T_sl_flurrylaw10_named :: rows Q_flurrylaw10_named v' ((N ++ [(x.1, vd)]).map nmd) :: (F ++ (ownB vd x.1.d :: E))) ⟨h, v', N ++ [(x.1, vd)], ownB vd x.1.d :: E, ?_, ?_, rfl⟩ ?_
      · have hx2 : (blks B)[i]? = some x.1 := by rw [List.getElem?_map, hx]; rfl
        rw [List.take_add_one, hx2, ← hN]
        simp
      · intro q hq
        rcases List.mem_append.1 hq with hq | hq
        · exact List.mem_cons_of_mem _ (hD q hq)
        · rw [List.mem_singleton.1 hq]; exact List.mem_cons_self ..
      · exact Sep.pick hz9 [0, 1, 3, 4, 5, 6, 7, 2] 8
  · rintro D _ z ⟨hle, v, N, E, hN, hD, rfl⟩ hz
    refine .inl ⟨rfl, ?_⟩
    refine ld1_i (v := v) (Sep.blk hz.p1) rfl ?_
    refine takeD_s hz fun w' hw' => hR _ _ ⟨N, E, ?_, hD, Sep.pick hw' [1] 7⟩
    rw [hN, List.take_of_length_le (by simp), List.take_of_length_le (by simpa using hle)]
  · rintro D _ _ z ⟨rfl, v, N, E, hN, hD, rfl⟩ hz
    refine .inr (.inl ⟨rfl, ?_⟩)
    refine ld1_i (v := v) (Sep.blk hz.p1) rfl ?_
    exact takeD_s hz fun w' hw' => hR _ _ ⟨N, E, hN, hD, Sep.pick hw' [1] 7⟩
theorem told10_spec {most : Nat} (hr : ChR w.heap g gi lv iv m pt over B) (hn : B.length ≤ 1000000) (hdl : ∀ x ∈ B, x.1.d.length ≤ 100000) (hm : most ≤ 2000000) :
    cal P f_law10_told [.pointer (some ⟨g, 0, none⟩), .int .i64 most] w fun r w' => ∃ N E, blks N = (blks B).take most ∧ DatB N E ∧ Sep w w' (rows Q_flurrylaw10_named r (N.map nmd) :: E) :=
  told10_gen (fun z hz => cAll_spec (hr.fr hz) hn) hr.bw.2 hn hdl hm
end
end Go.Fx
set_option linter.unusedVariables false
set_option linter.unusedSimpArgs false
namespace Go.Fx
section
variable {w0 w w' : World} {As : List Asn}
def genB : Blk := ⟨vz 32, 0, [103]⟩
theorem genB_chk : genB.chk = 0 := by decide
theorem genB_h : genB.h = 0 := rfl
theorem lit1 (x : UInt8) (w : World) : (Instr.buildSlice T_sl_uint8 1 #[(0, bv x)]).run P w = .ok (.slice (some ⟨w.heap.size, 0, none⟩) 1 1) (w.alloc (.cells (bvs [x]).toArray T_uint8)) := by kernel_rfl
theorem cFirst_spec : cal P f_law10_first [] w fun r w' => ∃ v, r = bq genB v ∧ Sep w w' [rdA v [103]] := by
  refine s_law10_first fun R hR => ?_
  unfold c_law10_first
  refine alloc_s (Sep.start w) (A_api_Block w) fun g0 w1 hs1 => ?_
  refine lit_s (l := [103]) hs1 U_sl_uint8 U_uint8 rfl (lit1 103 w1) fun g1 w2 hs2 => ?_
  rw [B_api_Block_2 rfl]
  refine St_api_Block (b := (vz 32, 0, .slice (some ⟨g1, 0, none⟩) 1 1)) hs2.p1 (one_api_Block rfl) fun w3 hs3 => ?_
  simp only [L_api_Block hs3.blk, L_api_Block__Parent hs3.blk, L_api_Block__Height hs3.blk, L_api_Block__Data hs3.blk]
  exact hR _ _ ⟨_, rfl, hs3.tail⟩
theorem cChild_spec {b : Blk} {v u : Value} {d : List UInt8} (hb : RdB w.heap v b.d) (hd : RdB w.heap u d) (hcap : capOk u) (hh : b.h ≤ maxI) (hl : d.length ≤ 9223372036854775807) :
    cal P f_law10_child [bq b v, u] w fun r w' => ∃ v', r = bq (b.child (d.take 200)) v' ∧ Sep w w' [ownB v' (b.child (d.take 200)).d] := by
  refine s_law10_child fun R hR => ?_
  unfold c_law10_child
  obtain ⟨a, c, hu⟩ := hd.form
  have hc := hcap _ _ _ hu
  obtain ⟨k, hk⟩ : ∃ k, k = min d.length 200 := ⟨_, rfl⟩
  have hdk : RdB w.heap (.slice a k c) (d.take 200) := by
    rw [hu] at hd
    have h1 := hd.take (k := k) (by omega) c
    have e : d.take k = d.take 200 := by
      rw [hk]
      by_cases h : d.length ≤ 200
      · rw [Nat.min_eq_left h, List.take_of_length_le (Nat.le_refl _), List.take_of_length_le h]
      · rw [Nat.min_eq_right (by omega)]
    rwa [e] at h1
  refine bxQ (Sep.start w) fun g2 w1 hs1 => ?_
  refine alloc_s hs1 (A_api_Block w1) fun g4 w2 hs2 => ?_
  refine drH_S hs2 fun w3 hs3 _ => ?_
  refine ⟨fun y z => ∃ g5 v', y = .pointer (some ⟨g5, 0, none⟩) ∧ Sep w z (blk g5 (Rdr.cells Q_api_Block ((b.child (d.take 200)).p, (b.child (d.take 200)).h, v')).toArray T_api_Block :: ownB v' (b.child (d.take 200)).d :: blk g4 (Rdr.cells Q_api_Block (vz 32, (0 : Int), .slice none 0 0)).toArray T_api_Block :: [blk g2 (Rdr.cells Q_api_Block (b.p, b.h, v)).toArray T_api_Block]), ?_, ?_⟩
  · refine ⟨bq b v, fun u hu => (L_api_Block (Sep.blk hu.p1) _).mpr rfl, ?_⟩
    change lenS _ _
    rw [hd.len]
    refine ⟨.int .i64 (k : Int), fun u hu => by rw [min_int]; congr 1; omega, ?_⟩
    rw [hu]
    change slc 1 _ _ _ _
    rw [slc_to (by omega)]
    have hal : ∀ (z : World), (Instr.alloc T_api_Block true (.tuple #[])).run P z = .ok (.pointer (some ⟨z.heap.size, 0, none⟩)) (z.alloc (.cells (Rdr.cells Q_api_Block (vz 32, (0 : Int), .slice none 0 0)).toArray T_api_Block)) := A_api_Block
    refine ⟨?_, ?_, trivial⟩
    · refine efC_cut (cal_i (rbChild_spec (b := b) (v := v) (d := d.take 200) (hs3.rdB hb) (hs3.rdB hdk) hh) ?_)
      rintro _ w4 ⟨v', rfl, hs4⟩
      replace hs4 := hs3.join hs4
      refine ⟨fun u => Sep w u (ownB v' (b.child (d.take 200)).d :: [blk g4 (Rdr.cells Q_api_Block (vz 32, (0 : Int), .slice none 0 0)).toArray T_api_Block, blk g2 (Rdr.cells Q_api_Block (b.p, b.h, v)).toArray T_api_Block]), hs4, ?_⟩
      simp only [fx, Nat.reduceAdd, forall_const]
      refine efS_i (alloc_s hs4 (hal w4) fun g5 w5 hs5 => ⟨hs5.tail, ?_⟩)
      refine efC_stN (St_api_Block (b := ((b.child (d.take 200)).p, (b.child (d.take 200)).h, v')) hs5 (one_api_Block (Sep.one hs5.p1)) fun w6 hs6 => ?_)
      exact ⟨g5, v', rfl, hs6⟩
    · refine efS_i (alloc_s hs3 (hal w3) fun g5 w4 hs4 => ⟨hs4.tail, ?_⟩)
      refine efC_cal (cal_i (rbChild_spec (b := b) (v := v) (d := d.take 200) (hs4.rdB hb) (hs4.rdB hdk) hh) ?_)
      rintro _ w5 ⟨v', rfl, hs5⟩
      replace hs5 := hs4.join hs5
      simp only [fx, Nat.reduceAdd, forall_const]
      refine efC_stN (St_api_Block (b := ((b.child (d.take 200)).p, (b.child (d.take 200)).h, v')) hs5.p1 (one_api_Block (Sep.one hs5)) fun w6 hs6 => ?_)
      exact ⟨g5, v', rfl, hs6⟩
  · rintro _ z ⟨g5, v', rfl, hz⟩ _
    simp only [L_api_Block hz.blk, L_api_Block__Parent hz.blk, L_api_Block__Height hz.blk, L_api_Block__Data hz.blk]
    refine St_api_Block (b := ((b.child (d.take 200)).p, (b.child (d.take 200)).h, v')) hz.p2 (one_api_Block (Sep.one hz.p1)) fun w6 hs6 => ?_
    simp only [L_api_Block hs6.blk, L_api_Block__Parent hs6.blk, L_api_Block__Height hs6.blk, L_api_Block__Data hs6.blk]
    exact hR _ _ ⟨v', rfl, Sep.pick hs6 [2] 4⟩
/-- Something that is done. -/
structure OA where
  act : Int
  n : Int
  d : List UInt8
  dv : Value
  b : Blk
  bv : Value
def OA.t (x : OA) : Int × Int × Value × Vec 32 × Int × Value := (x.act, x.n, x.dv, x.b.p, x.b.h, x.bv)
structure ORows (h : Heap) (v : Value) (l : List OA) : Prop where
  rw : Rows' Q_flurrylaw10_Op h v (l.map OA.t)
  d : ∀ x ∈ l, RdB h x.dv x.d ∧ RdB h x.bv x.b.d
theorem ORows.fr {v : Value} {l : List OA} (h : ORows w.heap v l) (hf : Fr [] w w') : ORows w'.heap v l := ⟨h.rw.fr hf, fun x hx => ⟨(h.d x hx).1.fr hf (off_nil _), (h.d x hx).2.fr hf (off_nil _)⟩⟩
theorem ORows.len {h : Heap} {v : Value} {l : List OA} (hr : ORows h v l) (K : Value → Prop) : lenS v K = K (.int .i64 l.length) := by
  have := hr.rw.len K
  rwa [List.length_map] at this
def OOk (l : List OA) : Prop := ∀ x ∈ l, x.b.h ≤ maxI ∧ -maxI - 1 ≤ x.n ∧ x.n ≤ maxI ∧ x.d.length ≤ 9223372036854775807 ∧ x.b.d.length ≤ 9223372036854775807 ∧ capOk x.dv
theorem ops_arg {h : Heap} {s : Sl (Int × Int × Sl UInt8 × (Vec 32 × Int × Sl UInt8))} (hs : (rSl R_flurrylaw10_Op).ok h s) : ∃ l : List OA, ORows h s.v l ∧ capOk s.v ∧ l.length ≤ 9223372036854775807 ∧ OOk l := by
  obtain ⟨h1, h2, h3, h4⟩ := hs
  refine ⟨s.l.map fun x => ⟨x.1, x.2.1, x.2.2.1.l, x.2.2.1.v, ab x.2.2.2, x.2.2.2.2.2.v⟩, ⟨?_, fun x hx => ?_⟩, h3, by simpa using h2, fun x hx => ?_⟩
  · have e : s.l.flatMap R_flurrylaw10_Op.cells = ((s.l.map fun x => (⟨x.1, x.2.1, x.2.2.1.l, x.2.2.1.v, ab x.2.2.2, x.2.2.2.2.2.v⟩ : OA)).map OA.t).flatMap Q_flurrylaw10_Op.cells := by
      generalize s.l = l
      induction l with
      | nil => rfl
      | cons a l ih => rw [List.flatMap_cons, ih]; rfl
    unfold Rows'
    rw [e] at h1
    simp only [List.length_map] at h1 ⊢
    exact h1
  · obtain ⟨y, hy, rfl⟩ := List.mem_map.1 hx
    obtain ⟨o0, o1, o2, o3⟩ := h4 y hy
    exact ⟨o2.1, ab_rd o3⟩
  · obtain ⟨y, hy, rfl⟩ := List.mem_map.1 hx
    obtain ⟨o0, o1, o2, o3⟩ := h4 y hy
    have o1' := Go.bounds_i64 o1
    exact ⟨ab_h o3, by unfold maxI; simpa using o1'.1, by unfold maxI; exact o1'.2, o2.2.1, ab_len o3, o2.2.2⟩
theorem few10_spec {v : Value} {l : List OA} (hr : ORows w.heap v l) (hcap : capOk v) (h63 : l.length ≤ 9223372036854775807) (hok : OOk l) :
    cal P f_law10_few [v] w fun r w' => Fr [] w w' ∧ ∃ y t, r = .tuple #[y, .bool t] ∧ (t = true → ORows w.heap y (l.take 30) ∧ ∀ x ∈ l.take 30, x.d.length ≤ 300 ∧ x.b.d.length ≤ 300) := by
  refine s_law10_few fun R hR => ?_
  unfold c_law10_few
  have hq : ∃ a c, v = .slice a l.length c ∧ l.length ≤ c := by
    obtain ⟨a, c, hv, _⟩ := hr.rw
    rw [List.length_map] at hv
    exact ⟨a, c, hv, hcap _ _ _ hv⟩
  obtain ⟨a, c, hv, hc⟩ := hq
  simp only [hr.len, min_int]
  obtain ⟨n, hn⟩ : ∃ n : Nat, n = min l.length 30 := ⟨_, rfl⟩
  have e1 : min (l.length : Int) 30 = (n : Int) := by omega
  rw [e1]
  have hnl : n ≤ l.length := by omega
  have hrt : ORows w.heap (.slice a n c) (l.take n) := by
    refine ⟨?_, fun x hx => hr.d x (List.mem_of_mem_take hx)⟩
    have := hr.rw
    rw [hv] at this
    have h2 := Rows'.take this (k := n) (by simpa using hnl) c
    rwa [← List.map_take] at h2
  have et : l.take 30 = l.take n := by
    rw [hn]
    by_cases h : l.length ≤ 30
    · rw [Nat.min_eq_left h, List.take_of_length_le (Nat.le_refl _), List.take_of_length_le h]
    · rw [Nat.min_eq_right (by omega)]
  rw [hv, slc_to (by omega)]
  have hlt : (l.take n).length = n := by rw [List.length_take]; omega
  have h5 := hrt.len
  rw [hlt] at h5
  simp only [h5]
  refine ⟨fun y z => ∃ i : Nat, y = .int .i64 i ∧ i ≤ n ∧ (∀ x ∈ l.take i, x.d.length ≤ 300 ∧ x.b.d.length ≤ 300) ∧ Fr [] w z, fun y _ => (n - RowKit.intOf y).toNat, ⟨0, rfl, by omega, (fun x hx => by cases hx), Fr.refl _ _⟩, ?_⟩
  rintro _ w1 ⟨i, rfl, hi, hsm, hf⟩ -
  simp only [fx, Nat.reduceAdd, forall_const]
  rw [cnd_bool]
  refine ⟨fun h => ?_, fun h => ?_⟩
  · have hlt : i < n := by simp at h; omega
    obtain ⟨x, hx⟩ : ∃ x, l[i]? = some x := ⟨_, List.getElem?_eq_getElem (by omega)⟩
    have hxt : (l.take n)[i]? = some x := by rw [List.getElem?_take, if_pos hlt]; exact hx
    have hxm := List.mem_of_getElem? hx
    have hxm' : ((l.take n).map OA.t)[i]? = some x.t := by rw [List.getElem?_map, hxt]; rfl
    have hxo := hok x hxm
    change ixs 37 _ _ _
    refine Rows'.ldN (q := Q_flurrylaw10_Op) (by decide) (hrt.rw.fr hf) hxm' .i64 ?_
    refine alloc_s ((Sep.start w).old hf) (A_flurrylaw10_Op w1) fun g w2 hs2 => ?_
    have hd := (hr.fr hs2.fr0).d x hxm
    refine St_flurrylaw10_Op (b := x.t) hs2 (one_flurrylaw10_Op hd.1.one hd.2.one) fun w3 hs3 => ?_
    have hd3 := (hr.fr hs3.fr0).d x hxm
    have l1 : ∀ K, lenS (OA.t x).2.2.1 K = K (.int .i64 x.d.length) := hd3.1.len
    have l2 : ∀ K, lenS (OA.t x).2.2.2.2.2 K = K (.int .i64 x.b.d.length) := hd3.2.len
    simp only [L_flurrylaw10_Op hs3.blk, L_flurrylaw10_Op__Do hs3.blk, L_flurrylaw10_Op__N hs3.blk, L_flurrylaw10_Op__Data hs3.blk, L_flurrylaw10_Op__B hs3.blk, L_flurrylaw10_Op__B_Parent hs3.blk, L_flurrylaw10_Op__B_Height hs3.blk, L_flurrylaw10_Op__B_Data hs3.blk, l1, l2, fx, Nat.reduceAdd, forall_const]
    rw [cnd_bool]
    refine ⟨fun h => hR _ _ ⟨hs3.fr0, _, false, rfl, fun h => by cases h⟩, fun h => ?_⟩
    rw [wi64 (by omega) (by omega)]
    refine ⟨⟨i + 1, by simp, by omega, fun y hy => ?_, hs3.fr0⟩, by simp [RowKit.intOf]; omega⟩
    rw [List.take_add_one, hx] at hy
    rcases List.mem_append.1 hy with hy | hy
    · exact hsm y hy
    · obtain rfl : y = x := by simpa using hy
      simp only [Bool.or_eq_false_iff, decide_eq_false_iff_not] at h
      omega
  · have hge : i = n := by simp at h; omega
    refine hR _ _ ⟨hf, _, true, rfl, fun h => ?_⟩
    rw [et]
    exact ⟨hrt, by rw [← hge]; exact hsm⟩
end
end Go.Fx
set_option linter.unusedVariables false
set_option linter.unusedSimpArgs false
namespace Go.Fx
section
variable {w0 w w' : World} {As : List Asn} {pt : Value} {x : Tp}
theorem Tp.app_room {x : Tp} {a : List UInt8} (hm : x.made = true) (ho : x.off = false) (hr : x.b.length + a.length ≤ 262144) (h : x.armed = -1 ∨ (a.length : Int) ≤ x.armed) :
    ∃ k, x.append a = (⟨x.b ++ a, k, false, true⟩, 0) ∧ (-1 ≤ x.armed → -1 ≤ k ∧ k ≤ x.armed) := by
  obtain ⟨b, armed, off, made⟩ := x
  obtain rfl : made = true := hm
  obtain rfl : off = false := ho
  unfold Tp.append
  rw [if_neg (by simp [Tp.may]), if_neg (by have hr' : b.length + a.length ≤ 262144 := hr; show ¬ 262144 < b.length + a.length; omega)]
  by_cases h1 : armed = -1
  · rw [if_pos h1]
    exact ⟨-1, by rw [h1], fun _ => by simp only; omega⟩
  · have h2 : (a.length : Int) ≤ armed := h.resolve_left h1
    rw [if_neg h1, if_pos h2]
    exact ⟨_, rfl, fun h => by simp only at h ⊢; omega⟩
theorem cOpenG {v : Value} {W : List Blk} {As : List Asn} (hs : Sep w0 w (tp pt x :: rdA v [103] :: As)) (hx : x.Ok) (hm : x.made = true) (hC : Cub w0) (hoff : x.off = false) (hW : IsScan x.b W) (hl : linked genB W) :
    cal P f_chain_Open [pt, bq genB v] w fun r w' => ∃ g gi gm lv iv B E, r = .tuple #[.pointer (some ⟨g, 0, none⟩), .int .i64 0] ∧ blks B = genB :: W ∧ DatB B E ∧
      Sep w0 w' (chH g gi gm lv iv pt false B ++ (tp pt { x with b := layL W } :: (E ++ (rdA v [103] :: As)))) := by
  refine cal_i (cOpen_spec (b := genB) (v := v) hs hx hm hC (fun z hz => Sep.rda hz) (by decide)) ?_
  rintro r w1 (⟨h, _⟩ | ⟨_, h, _⟩ | ⟨_, _, _, g, gi, gm, lv, iv, B, E, S, rfl, hS, hB, hD, hs1⟩)
  · rw [hoff] at h; cases h
  · rcases h with h | h
    · exact absurd genB_chk h
    · exact absurd genB_h h
  obtain rfl := hS.uniq hW
  rw [linkT_self hl] at hB hs1
  exact ⟨g, gi, gm, lv, iv, B, E, rfl, hB, hD, hs1⟩
theorem blksLen {B : List BV} {W : List Blk} (h : blks B = genB :: W) : B.length = W.length + 1 := by
  have := congrArg List.length h
  simpa using this
theorem datRd {N : List BV} {E As Bs : List Asn} (h : DatB N E) (hs : Sep w0 w (As ++ (E ++ Bs))) : ∀ x ∈ N, RdB w.heap x.2 x.1.d := fun x hx => by
  obtain ⟨F, hF⟩ := hs.onL (A := ownB x.2 x.1.d) (List.mem_append_right _ (List.mem_append_left _ (h x hx)))
  exact OwnB.rd hF
theorem Blk.kid_of {b : Blk} {d : List UInt8} (hc : b.chk = 0) (hh : b.h ≤ 1000000) (hd : d.length ≤ 200) : b.child d = b.kid d ∧ (b.child d).link b = 0 ∧ (b.child d).h = b.h + 1 ∧ (b.child d).chk = 0 ∧ (b.child d).d = d := by
  have hk : b.kidOk d := ⟨hc, by unfold maxI; omega, hd⟩
  have e : b.child d = b.kid d := by unfold Blk.child; rw [if_pos hk]
  rw [e]
  have h1 := (Blk.link_kid hk).1
  exact ⟨rfl, h1, rfl, (link_chk h1).1, rfl⟩
theorem begun10_spec (hC : Cub w) : cal P f_law10_begun [] w fun v w' => v = .bool true ∧ Fr [] w w' := by
  refine s_law10_begun fun R hR => ?_
  unfold c_law10_begun
  refine cal_i tpNew_spec ?_
  rintro pt w1 hs1
  have hp1 := tp_one hs1
  refine cal_i cFirst_spec ?_
  rintro _ w2 ⟨v1, rfl, hs2⟩
  replace hs2 := hs1.join hs2
  have hg0 : goodB [] := fun b hb => by cases hb
  refine cal_i (cOpenG (W := []) hs2.p1 ⟨by simp, by simp, by simp⟩ rfl hC rfl (scan_all hg0) trivial) ?_
  rintro _ w3 ⟨g, gi, gm, lv, iv, B, E, rfl, hB, hD, hs3⟩
  obtain ⟨A3, hA3⟩ : ∃ A3, A3 = E ++ [rdA v1 [103]] := ⟨_, rfl⟩
  replace hD : DatB B A3 := by rw [hA3]; exact hD.sub fun A hA => List.mem_append_left _ hA
  rw [← hA3] at hs3
  clear hs1 hs2
  obtain ⟨y0, hy0, hy1⟩ := lastOf hB
  have hy1 : y0.1 = genB := hy1
  have hBl : B.length = 1 := by
    have := congrArg List.length hB
    simpa using this
  simp only [fx, Nat.reduceAdd, forall_const, show ((0 : Int) != 0) = false from rfl]
  refine jn1_dup ?_
  simp only [fx, Nat.reduceAdd, forall_const]
  rw [tp_nilP (Sep.pick hs3 [5] 6)]
  simp only [fx, Nat.reduceAdd, forall_const]
  refine cal_i cFirst_spec ?_
  rintro _ w4 ⟨v2, rfl, hs4⟩
  replace hs4 := hs3.join hs4
  refine lit_s (l := [97]) hs4 U_sl_uint8 U_uint8 rfl (lit1 97 w4) fun g5 w5 hs5 => ?_
  refine cal_i (cChild_spec (b := genB) (v := v2) (d := [97]) (Sep.rda hs5.p1) (Sep.rda hs5) (Sep.rdaCap hs5) (by decide) (by simp)) ?_
  rintro _ w6 ⟨v', rfl, hs6⟩
  replace hs6 := hs5.join hs6
  obtain ⟨k1, k2, k3, k4, k5⟩ := Blk.kid_of (b := genB) (d := ([97] : List UInt8).take 200) genB_chk (by decide) (by simp)
  obtain ⟨b1, hb1⟩ : ∃ b1, b1 = genB.child (([97] : List UInt8).take 200) := ⟨_, rfl⟩
  rw [← hb1] at hs6 k2 k3 k4 k5 ⊢
  have hb1h : b1.h = 1 := k3
  have hb1d : b1.d.length = 1 := by rw [k5]; rfl
  refine alloc_s hs6 (A_api_Block w6) fun g4 w7 hs7 => ?_
  refine St_api_Block (b := (b1.p, b1.h, v')) hs7 (one_api_Block (Sep.one hs7.p1)) fun w8 hs8 => ?_
  simp only [L_api_Block hs8.blk, L_api_Block__Parent hs8.blk, L_api_Block__Height hs8.blk, L_api_Block__Data hs8.blk]
  have hr1 : b1.rcd.length = 67 := by rw [Blk.rec_len, hb1d]
  refine cal_i (cAccept_spec (b := b1) (v := v') (y := y0) (x := ⟨[], -1, false, true⟩) (As := blk g4 (Rdr.cells Q_api_Block (b1.p, b1.h, v')).toArray T_api_Block :: ownB v' b1.d :: A3) (Sep.pick hs8 [4, 5, 6, 7, 8, 9, 0, 1] 10) ⟨by simp, by simp, by simp⟩ rfl hC (fun z hz => Sep.rd hz.tail)
    (hD.sub fun A hA => List.mem_cons_of_mem _ (List.mem_cons_of_mem _ hA)) (by rw [hb1h]; decide) hy0 (by rw [hy1]; decide) (by omega)) ?_
  obtain ⟨k, hk, hk2⟩ := Tp.app_room (x := ⟨[], -1, false, true⟩) (a := b1.rcd) rfl rfl (by simp; omega) (.inl rfl)
  have hk3 := hk2 (by simp)
  obtain rfl : k = -1 := by simp only at hk3; omega
  rw [hk, hy1]
  rintro _ w9 (⟨h, _⟩ | ⟨_, _, h, _⟩ | ⟨_, _, _, _, rfl, lv', iv', vd, hs9⟩ | ⟨_, _, _, h, _⟩)
  · rcases h with h | h <;> cases h
  · exact absurd k2 h
  case inr.inr.inr => exact absurd rfl h
  clear hs3 hs4 hs5 hs6 hs7 hs8
  rw [List.nil_append] at hs9
  -- chain 0-4 · tp 5 · vd 6 · t4 7 · v' 8 · A3
  simp only [fx, Nat.reduceAdd, forall_const, show ((0 : Int) != 0) = false from rfl]
  refine jn1_dup ?_
  refine cal_i (tpArm_spec (n := 10) (Sep.pick hs9 [5, 0, 1, 2, 3, 4, 6, 7, 8] 9)) ?_
  rintro _ w10 ⟨rfl, hs10⟩
  have e3 : (⟨b1.rcd, -1, false, true⟩ : Tp).arm 10 = (⟨b1.rcd, 10, false, true⟩, 0) := rfl
  rw [e3] at hs10 ⊢
  simp only [fx, Nat.reduceAdd, forall_const, show ((0 : Int) != 0) = false from rfl]
  try intro _
  refine jn1_dup ?_
  simp only [fx, Nat.reduceAdd, forall_const, L_api_Block (Sep.blk (Sep.pick hs10 [7] 8)), L_api_Block__Parent (Sep.blk (Sep.pick hs10 [7] 8)), L_api_Block__Height (Sep.blk (Sep.pick hs10 [7] 8)), L_api_Block__Data (Sep.blk (Sep.pick hs10 [7] 8))]
  refine cal_i (cChild_spec (b := b1) (v := v') (u := .slice none 0 0) (d := []) (Sep.rd (Sep.pick hs10 [8] 9)) (RdB.nil _ 0) (fun a n c h => by cases h; omega) (by rw [hb1h]; decide) (by simp)) ?_
  rintro _ w11 ⟨v3, rfl, hs11⟩
  replace hs11 := hs10.join hs11
  obtain ⟨m1, m2, m3, m4, m5⟩ := Blk.kid_of (b := b1) (d := ([] : List UInt8).take 200) k4 (by rw [hb1h]; decide) (by simp)
  obtain ⟨b2, hb2⟩ : ∃ b2, b2 = b1.child (([] : List UInt8).take 200) := ⟨_, rfl⟩
  rw [← hb2] at hs11 m2 m3 m4 m5 ⊢
  have hb2h : b2.h = 2 := by rw [m3, hb1h]; rfl
  have hr2 : b2.rcd.length = 66 := by rw [Blk.rec_len, m5]; rfl
  -- v3 0 · tp 1 · chain 2-6 · vd 7 · t4 8 · v' 9 · A3
  refine cal_i (cAccept_spec (b := b2) (v := v3) (y := (b1, vd)) (x := ⟨b1.rcd, 10, false, true⟩) (B := B ++ [(b1, vd)]) (As := ownB v3 b2.d :: ownB vd b1.d :: blk g4 (Rdr.cells Q_api_Block (b1.p, b1.h, v')).toArray T_api_Block :: ownB v' b1.d :: A3) (Sep.pick hs11 [2, 3, 4, 5, 6, 1, 0, 7, 8, 9] 10) ⟨by simp only; omega, by simp, by simp⟩ rfl hC (fun z hz => Sep.rd hz)
    (fun q hq => by
      rcases List.mem_append.1 hq with hq | hq
      · exact List.mem_cons_of_mem _ (List.mem_cons_of_mem _ (List.mem_cons_of_mem _ (List.mem_cons_of_mem _ (hD q hq))))
      · rw [List.mem_singleton.1 hq]; exact List.mem_cons_of_mem _ (List.mem_cons_self ..)) (by rw [hb2h]; decide) (by simp) (by show b1.h ≤ _; rw [hb1h]; decide) (by simp; omega)) ?_
  have e4 : (⟨b1.rcd, 10, false, true⟩ : Tp).append b2.rcd = (⟨b1.rcd ++ b2.rcd.take 10, -1, true, true⟩, 5) := by
    unfold Tp.append
    rw [if_neg (by simp [Tp.may]), if_neg (by simp only; omega), if_neg (by simp), if_neg (by simp only; omega)]
    rfl
  rw [e4]
  rintro _ w12 (⟨h, _⟩ | ⟨_, _, h, _⟩ | ⟨_, _, _, h, _⟩ | ⟨_, _, _, _, rfl, hs12⟩)
  · rcases h with h | h <;> cases h
  · exact absurd m2 h
  · cases h
  -- chain 0-4 · tp 5 · v3 6 · vd 7 · t4 8 · v' 9
  simp only [fx, Nat.reduceAdd, forall_const, show ((5 : Int) != 5) = false from rfl]
  try intro _
  refine jn1_dup ?_
  refine cal_i (tpRestart_spec (Sep.pick hs12 [5, 8, 9] 10)) ?_
  rintro _ w13 ⟨rfl, hs13⟩
  have e5 : (⟨b1.rcd ++ b2.rcd.take 10, -1, true, true⟩ : Tp).restart = (⟨b1.rcd ++ b2.rcd.take 10, -1, false, true⟩, 0) := rfl
  simp only [e5] at hs13 ⊢
  simp only [fx, Nat.reduceAdd, forall_const, show ((0 : Int) != 0) = false from rfl]
  refine cal_i cFirst_spec ?_
  rintro _ w14 ⟨v4, rfl, hs14⟩
  replace hs14 := hs13.join hs14
  have hg1 : goodB [b1] := fun b hb => by
    rw [List.mem_singleton.1 hb]
    exact ⟨k4, by rw [hb1h]; decide⟩
  have hl1 : layL [b1] = b1.rcd := by rw [layL_cons]; simp [layL]
  have hsc : IsScan (b1.rcd ++ b2.rcd.take 10) [b1] := by
    have := scan_part hg1 (b := b2) m4 (j := 10) (by omega)
    rwa [hl1] at this
  have hx13 : (⟨b1.rcd ++ b2.rcd.take 10, -1, false, true⟩ : Tp).Ok := ⟨by simp only [List.length_append, List.length_take]; omega, by simp, by simp⟩
  refine cal_i (cOpenG (W := [b1]) (Sep.pick hs14 [1, 0, 2, 3] 4) hx13 rfl hC rfl hsc ⟨k2, trivial⟩) ?_
  rintro _ w15 ⟨g2, gi2, gm2, lv2, iv2, B2, E2, rfl, hB2, hD2, hs15⟩
  obtain ⟨y2, hy2, hy3⟩ := lastOf hB2
  have hy3 : y2.1 = b1 := hy3
  have hBl2 : B2.length = 2 := by
    have := congrArg List.length hB2
    simpa using this
  simp only [fx, Nat.reduceAdd, forall_const, show ((0 : Int) != 0) = false from rfl]
  refine cal_i (cLastId_spec (chH_rd hs15 (hD2.sub fun A hA => List.mem_cons_of_mem _ (List.mem_append_left _ hA))) hy2 (by omega)) ?_
  rintro _ w16 ⟨rfl, hf16⟩
  have hs16 := hs15.old hf16
  rw [hy3, hb1h]
  have hs17 : Sep w w16 (tp pt ⟨layL [b1], -1, false, true⟩ :: blk g4 (Rdr.cells Q_api_Block (b1.p, b1.h, v')).toArray T_api_Block :: ownB v' b1.d :: (A3 ++ E2)) := by
    have h1 := hs16.dropL
    have h2 := Sep.rot (As := _ :: E2) h1
    have h3 := Sep.pick h2 [1, 2] 3
    exact Sep.mid (As := _ :: _ :: A3) h3
  simp only [fx, Nat.reduceAdd, forall_const]
  refine alloc_s hs17 (A_api_ID w16) fun g6 w17 hs18 => ?_
  refine St_api_ID (b := b1.id) hs18 fun w18 hs19 => ?_
  refine drH_S hs19 fun w19 hs20 _ => ?_
  -- id 0 · tp 1 · t4 2 · v' 3
  simp only [fx, Nat.reduceAdd, forall_const, show ((1 : Int) == 1) = true from rfl]
  refine jn1_dup ?_
  simp only [fx, Nat.reduceAdd, forall_const]
  refine ⟨bq b1 v', fun u hu => (L_api_Block (Sep.blk hu.p2) _).mpr rfl, ?_⟩
  refine efS_i (cal_i (tpLen_spec hs20.p1 rfl) ?_)
  rintro _ _ ⟨rfl, rfl⟩
  refine ⟨hs20, ?_⟩
  refine efS_i (cal_i (rRecSize_spec (b := b1) (v := v') (Sep.rd hs20.p3) (by rw [hb1h]; decide)) ?_)
  rintro _ w20 ⟨rfl, hf20⟩
  have hs21 := hs20.old hf20
  refine ⟨hs21, ?_⟩
  have hro : b1.recO = b1.rcd := if_pos k4
  have he : ((layL [b1]).length : Int) = (b1.recO.length : Int) := by rw [hl1, hro]
  simp only [fx, Nat.reduceAdd, forall_const, he]
  try intro _
  refine hR _ _ ⟨by simp, hs21.fr0⟩
end
end Go.Fx
set_option linter.unusedVariables false
set_option linter.unusedSimpArgs false
namespace Go.Fx
section
variable {w0 w w' : World} {As : List Asn} {g gi gm : Nat} {lv iv m pt : Value} {over : Bool} {B : List BV} {x : Tp}
def atE (over : Bool) (L : List Blk) (n : Int) : Int := if over = true then 5 else if n < 0 ∨ (L.length : Int) ≤ n then 4 else 0
def atB (over : Bool) (L : List Blk) (n : Int) : Blk := if atE over L n = 0 then L.getD n.toNat Blk.none else Blk.none
theorem atE_ok {L : List Blk} {i : Nat} (h : i < L.length) : atE false L i = 0 := by
  unfold atE
  rw [if_neg (by decide), if_neg (by omega)]
theorem atB_ok {L : List Blk} {i : Nat} {b : Blk} (h : L[i]? = some b) : atB false L i = b := by
  have hl := (List.getElem?_eq_some_iff.1 h).1
  unfold atB
  rw [if_pos (atE_ok hl), Int.toNat_natCast, List.getD_eq_getElem?_getD, h]
  rfl
theorem B_none {w : World} (K : Value → Prop) : rdP P (Instr.build T_api_Block #[]) w K = K (bq Blk.none (.slice none 0 0)) := rd_build (by kernel_rfl) K
theorem cAt_spec {n : Int} (hr : ChR w.heap g gi lv iv m pt over B) (hdl : ∀ x ∈ B, x.1.d.length ≤ 100000) :
    cal P f_chain_Chain_At [.pointer (some ⟨g, 0, none⟩), .int .i64 n] w fun r w' => ∃ vd, r = .tuple #[bq (atB over (blks B) n) vd, .int .i64 (atE over (blks B) n)] ∧ Sep w w' [ownB vd (atB over (blks B) n).d] := by
  refine s_chain_Chain_At fun R hR => ?_
  unfold c_chain_Chain_At
  refine alloc_s (Sep.start w) (A_api_Block w) fun g4 w1 hs1 => ?_
  refine cal_i (cMay_spec (hs1.ch hr)) ?_
  rintro _ _ ⟨rfl, rfl⟩
  have hl : (blks B).length = B.length := by simp
  have bad : ∀ e : Int, e = atE over (blks B) n → e ≠ 0 → rdP P (Instr.build T_api_Block #[]) w1 fun t11 => stN 34 (.pointer (some ⟨g4, 0, none⟩)) t11 w1 fun w => ldN 34 (.pointer (some ⟨g4, 0, none⟩)) w.heap fun r0 => R (.tuple #[r0, .int .i64 e]) w := fun e he h0 => by
    rw [B_none]
    have hb : atB over (blks B) n = Blk.none := by unfold atB; rw [if_neg (by rw [← he]; exact h0)]
    refine St_api_Block (b := (Blk.none.p, Blk.none.h, .slice none 0 0)) hs1 (one_api_Block rfl) fun w2 hs2 => ?_
    simp only [L_api_Block hs2.blk, L_api_Block__Parent hs2.blk, L_api_Block__Height hs2.blk, L_api_Block__Data hs2.blk]
    refine hR _ _ ⟨.slice none 0 0, by rw [hb, ← he], ?_⟩
    rw [hb]
    exact Sep.pick hs2.nil [0] 2
  cases over with
  | true =>
    rw [if_pos rfl]
    simp only [fx, Nat.reduceAdd, forall_const, show ((5 : Int) != 0) = true from rfl]
    exact bad 5 (by unfold atE; rw [if_pos rfl]) (by decide)
  | false =>
  rw [if_neg (by decide)]
  obtain ⟨T, fr, hc⟩ := (hs1.ch hr).cell
  simp only [fx, Nat.reduceAdd, forall_const, show ((0 : Int) != 0) = false from rfl, L_chain_Chain hc, L_chain_Chain__in hc, L_chain_Chain__l hc, L_chain_Chain__ids hc, L_chain_Chain__at hc, L_chain_Chain__over hc, (hs1.ch hr).bw.len]
  rw [cnd_bool]
  refine ⟨fun h => ?_, fun h => ?_⟩
  · have h : n < 0 ∨ (B.length : Int) ≤ n := by simpa using h
    exact bad 4 (by unfold atE; rw [if_neg (by decide), if_pos (by rw [hl]; exact h)]) (by decide)
  have h : ¬ (n < 0 ∨ (B.length : Int) ≤ n) := by simpa using h
  obtain ⟨i, rfl⟩ : ∃ i : Nat, n = i := ⟨n.toNat, by omega⟩
  have hi : i < B.length := by omega
  obtain ⟨y, hy⟩ : ∃ y, B[i]? = some y := ⟨_, List.getElem?_eq_getElem hi⟩
  have hy2 : (blks B)[i]? = some y.1 := by rw [List.getElem?_map, hy]; rfl
  refine BRows.ld (hs1.ch hr).bw hy .i64 ?_
  refine cal_i (bkClone_spec (b := y.1) (v := y.2) ((hs1.ch hr).bw.2 y (List.mem_of_getElem? hy)) (by have := hdl y (List.mem_of_getElem? hy); omega)) ?_
  rintro _ w2 ⟨vd, rfl, hs2⟩
  replace hs2 := hs1.join hs2
  refine St_api_Block (b := (y.1.p, y.1.h, vd)) hs2.p1 (one_api_Block (Sep.one hs2)) fun w3 hs3 => ?_
  simp only [L_api_Block hs3.blk, L_api_Block__Parent hs3.blk, L_api_Block__Height hs3.blk, L_api_Block__Data hs3.blk]
  refine hR _ _ ⟨vd, by rw [atB_ok hy2, atE_ok (by rw [hl]; exact hi)], ?_⟩
  rw [atB_ok hy2]
  exact Sep.pick hs3 [1] 2
/-- A row's block, read in a region that draws. -/
theorem rdS_nmB {S : World → Prop} {w : World} {v : Value} {N : List BV} {j : Nat} {a : BV} {K : Value → Prop} (hw : S w) (hS : ∀ u, S u → Rows' Q_flurrylaw10_named u.heap v (N.map nmd)) (hj : N[j]? = some a) (k : IntKind) (h : K (bq a.1 a.2)) :
    ixs 66 v (.int k (j : Int)) fun t => fad 32 t fun t' => rdS S (fun w => ldN 34 t' w.heap) K := by
  have hj' : (N.map nmd)[j]? = some (nmd a) := by rw [List.getElem?_map, hj]; rfl
  obtain ⟨g, o, c, rfl⟩ := (hS w hw).form (by decide) hj'
  have hlt := (List.getElem?_eq_some_iff.1 hj').1
  rw [show (66 : Nat) = (Q_flurrylaw10_named).size from rfl, ixs_mk _ _ _ _ _ _ _ _ (by omega) (by omega), Int.toNat_natCast]
  simp only [fx, Nat.reduceAdd, forall_const]
  refine ⟨bq a.1 a.2, fun z hz => ?_, h⟩
  exact (LA_flurrylaw10_named__b (At.of (by decide) (hS z hz) hj') _).mpr rfl
theorem rdS_nmI {S : World → Prop} {w : World} {v : Value} {N : List BV} {j : Nat} {a : BV} {K : Value → Prop} (hw : S w) (hS : ∀ u, S u → Rows' Q_flurrylaw10_named u.heap v (N.map nmd)) (hj : N[j]? = some a) (k : IntKind) (h : K (kv a.1.id)) :
    ixs 66 v (.int k (j : Int)) fun t => fad 0 t fun t' => rdS S (fun w => ldN 32 t' w.heap) K := by
  have hj' : (N.map nmd)[j]? = some (nmd a) := by rw [List.getElem?_map, hj]; rfl
  obtain ⟨g, o, c, rfl⟩ := (hS w hw).form (by decide) hj'
  have hlt := (List.getElem?_eq_some_iff.1 hj').1
  rw [show (66 : Nat) = (Q_flurrylaw10_named).size from rfl, ixs_mk _ _ _ _ _ _ _ _ (by omega) (by omega), Int.toNat_natCast]
  simp only [fx, Nat.reduceAdd, forall_const]
  refine ⟨kv a.1.id, fun z hz => ?_, h⟩
  exact (LA_flurrylaw10_named__id (At.of (by decide) (hS z hz) hj') _).mpr rfl
end
/-- The heights are the places. -/
theorem linked_h : ∀ {a : Blk} {W : List Blk} {i : Nat} {b : Blk}, linked a W → (a :: W)[i]? = some b → b.h = a.h + i
  | a, W, 0, b, _, h => by
    simp only [List.getElem?_cons_zero, Option.some.injEq] at h
    rw [h]; simp
  | a, [], i + 1, b, _, h => by simp at h
  | a, c :: W, i + 1, b, hl, h => by
    have h1 := linked_h (i := i) hl.2 (by simpa using h)
    rw [h1, (link_chk hl.1).2.2.2]
    omega
end Go.Fx
set_option linter.unusedVariables false
set_option linter.unusedSimpArgs false
namespace Go.Fx
/-- The last place of a name. -/
def fnd (L : List Blk) (k : Vec 32) : Option Nat := L.zipIdx.foldl (fun a x => if k = x.1.id then some x.2 else a) none
theorem fnd_snoc (L : List Blk) (b : Blk) (k : Vec 32) : fnd (L ++ [b]) k = if k = b.id then some L.length else fnd L k := by
  unfold fnd
  rw [List.zipIdx_append, List.foldl_append]
  simp
theorem fnd_take (L : List Blk) (k : Vec 32) : ∀ n, n ≤ L.length → atF (L.take n) k = (fnd (L.take n) k).map (fun i => Value.int .i64 (i : Nat)) ∧ (∀ i, fnd (L.take n) k = some i → i < n ∧ ∃ b, L[i]? = some b ∧ b.id = k)
  | 0, _ => ⟨rfl, fun i h => by cases h⟩
  | n + 1, hn => by
    obtain ⟨h1, h2⟩ := fnd_take L k n (by omega)
    obtain ⟨b, hb⟩ : ∃ b, L[n]? = some b := ⟨_, List.getElem?_eq_getElem (by omega)⟩
    have e : L.take (n + 1) = L.take n ++ [b] := by rw [List.take_add_one, hb]; rfl
    have hl : (L.take n).length = n := by rw [List.length_take]; omega
    rw [e, atF_snoc, fnd_snoc, hl]
    unfold updF
    by_cases hk : k = b.id
    · rw [if_pos hk, if_pos hk]
      refine ⟨rfl, fun i hi => ?_⟩
      cases hi
      exact ⟨by omega, b, hb, hk.symm⟩
    · rw [if_neg hk, if_neg hk]
      refine ⟨h1, fun i hi => ?_⟩
      obtain ⟨h3, h4⟩ := h2 i hi
      exact ⟨by omega, h4⟩
theorem atF_fnd (L : List Blk) (k : Vec 32) : atF L k = (fnd L k).map fun i => Value.int .i64 (i : Nat) := by
  have := (fnd_take L k L.length (Nat.le_refl _)).1
  rwa [List.take_length] at this
theorem fnd_some {L : List Blk} {k : Vec 32} {i : Nat} (h : fnd L k = some i) : i < L.length ∧ ∃ b, L[i]? = some b ∧ b.id = k := by
  have := (fnd_take L k L.length (Nat.le_refl _)).2 i
  rw [List.take_length] at this
  exact this h
def getE' (over : Bool) (L : List Blk) (k : Vec 32) : Int := if over = true then 5 else if fnd L k = none then 4 else 0
def getB' (over : Bool) (L : List Blk) (k : Vec 32) : Blk := if over = true then Blk.none else match fnd L k with | none => Blk.none | some i => L.getD i Blk.none
def ancE (over : Bool) (L : List Blk) (k : Vec 32) (n : Int) : Int := if over = true then 5 else if n < 1 ∨ 1024 < n then 1 else if fnd L k = none then 4 else 0
/-- Blocks from place i down, n at most. -/
def downs (L : List Blk) (i : Nat) (n : Nat) : List Blk := ((L.take (i + 1)).reverse).take n
def ancB (over : Bool) (L : List Blk) (k : Vec 32) (n : Int) : List Blk := if ancE over L k n ≠ 0 then [] else match fnd L k with | none => [] | some i => downs L i n.toNat
section
variable {w0 w w' : World} {As : List Asn} {g gi gm : Nat} {lv iv m pt : Value} {over : Bool} {B : List BV} {x : Tp}
theorem lookF2 {E n M V g : Nat} {T : Nat} {f : Vec n → Option Value} {z : Value} (hM : P.underlying M = some (.map T V)) (hT : KeyT P T E n) (hz : ∀ w : World, (zeroValue V).run P w = .ok z w) (hg : MpR w.heap g f) (k : Vec n) (K : Value → Prop) :
    rdP P (Instr.lookup M (.map (some g)) (kv k) true) w K = K (.tuple #[(f k).getD z, .bool (f k).isSome]) := by
  obtain ⟨l, c, _, hf, hm⟩ := hg
  rw [lookup_map hM hT (hz w) hm k, hf]
theorem MpR.fr {g : Nat} {f : Vec 32 → Option Value} (h : MpR w.heap g f) (hf : Fr [] w w') : MpR w'.heap g f := by
  obtain ⟨l, c, h1, h2, h3⟩ := h
  exact ⟨l, c, h1, h2, hf.blk h3 (by simp)⟩
theorem chH_mp (h : Sep w0 w (chH g gi gm lv iv pt over B ++ As)) : MpR w.heap gm (atF (blks B)) := mpF_rd (Sep.pick h [4] 5)
theorem zInt (w : World) : (zeroValue T_int).run P w = .ok (.int .i64 0) w := by kernel_rfl
theorem cHas_spec {k : Vec 32} (hr : ChR w.heap g gi lv iv (.map (some gm)) pt over B) (hm : MpR w.heap gm (atF (blks B))) : cal P f_chain_Chain_Has [.pointer (some ⟨g, 0, none⟩), kv k] w fun r w' => r = .bool (fnd (blks B) k).isSome ∧ Fr [] w w' := by
  refine s_chain_Chain_Has fun R hR => ?_
  unfold c_chain_Chain_Has
  refine bxQ (Sep.start w) fun g3 w1 hs1 => ?_
  refine cal_i (cNone_spec (hs1.ch hr)) ?_
  rintro _ _ ⟨rfl, rfl⟩
  simp only [fx, Nat.reduceAdd, forall_const]
  refine drw_s hs1 fun w2 hs2 _ => ?_
  obtain ⟨T, fr, hc⟩ := (hs2.ch hr).cell
  have hl : ∀ K, rdP P (Instr.lookup T_map_api_ID_int (.map (some gm)) (kv k) true) w2 K = K (.tuple #[(atF (blks B) k).getD (.int .i64 0), .bool (atF (blks B) k).isSome]) := lookF2 U_map_api_ID_int KTc zInt (hm.fr hs2.fr0) k
  simp only [L_chain_Chain hc, L_chain_Chain__in hc, L_chain_Chain__l hc, L_chain_Chain__ids hc, L_chain_Chain__at hc, L_chain_Chain__over hc, L_api_ID hs2.blk, hl, fx, Nat.reduceAdd, forall_const]
  refine hR _ _ ⟨?_, hs2.fr0⟩
  rw [atF_fnd]
  simp
theorem cTape_spec (hr : ChR w.heap g gi lv iv m pt over B) : cal P f_chain_Chain_Tape [.pointer (some ⟨g, 0, none⟩)] w fun r w' => r = pt ∧ w = w' := by
  refine s_chain_Chain_Tape fun R hR => ?_
  unfold c_chain_Chain_Tape
  refine cal_i (cNone_spec hr) ?_
  rintro _ _ ⟨rfl, rfl⟩
  obtain ⟨T, fr, hc⟩ := hr.cell
  obtain ⟨T2, fr2, hc2⟩ := hr.inn
  have hl : ∀ K : Value → Prop, Go.Fx.ld1 (.pointer (some ⟨gi, 0, none⟩)) w.heap K = K pt := L_chain_held__Tape (a := pt) hc2
  simp only [fx, Nat.reduceAdd, forall_const, L_chain_Chain hc, L_chain_Chain__in hc, L_chain_Chain__l hc, L_chain_Chain__ids hc, L_chain_Chain__at hc, L_chain_Chain__over hc, hl]
  exact hR _ _ ⟨rfl, rfl⟩
theorem cBlock_spec {y : BV} (hr : ChR w.heap g gi lv iv m pt over B) (hy : B[B.length - 1]? = some y) (hn : B.length ≤ 1000000) (hdl : ∀ x ∈ B, x.1.d.length ≤ 100000) :
    cal P f_chain_Chain_Block [.pointer (some ⟨g, 0, none⟩)] w fun r w' => ∃ vd, r = bq y.1 vd ∧ Sep w w' [ownB vd y.1.d] := by
  refine s_chain_Chain_Block fun R hR => ?_
  unfold c_chain_Chain_Block
  refine alloc_s (Sep.start w) (A_api_Block w) fun g2 w1 hs1 => ?_
  refine cal_i (cNone_spec (hs1.ch hr)) ?_
  rintro _ _ ⟨rfl, rfl⟩
  simp only [fx, Nat.reduceAdd, forall_const]
  refine cal_i (cLast_spec (hs1.ch hr) hy hn) ?_
  rintro _ w2 ⟨rfl, hf2⟩
  have hs2 := hs1.old hf2
  refine cal_i (bkClone_spec (b := y.1) (v := y.2) ((hs2.ch hr).bw.2 y (List.mem_of_getElem? hy)) (by have := hdl y (List.mem_of_getElem? hy); omega)) ?_
  rintro _ w3 ⟨vd, rfl, hs3⟩
  replace hs3 := hs2.join hs3
  refine St_api_Block (b := (y.1.p, y.1.h, vd)) hs3.p1 (one_api_Block (Sep.one hs3)) fun w4 hs4 => ?_
  simp only [L_api_Block hs4.blk, L_api_Block__Parent hs4.blk, L_api_Block__Height hs4.blk, L_api_Block__Data hs4.blk]
  exact hR _ _ ⟨vd, rfl, Sep.pick hs4 [1] 2⟩
theorem cGet_spec {k : Vec 32} (hr : ChR w.heap g gi lv iv (.map (some gm)) pt over B) (hm : MpR w.heap gm (atF (blks B))) (hn : B.length ≤ 1000000) (hdl : ∀ x ∈ B, x.1.d.length ≤ 100000) :
    cal P f_chain_Chain_Get [.pointer (some ⟨g, 0, none⟩), kv k] w fun r w' => ∃ vd, r = .tuple #[bq (getB' over (blks B) k) vd, .int .i64 (getE' over (blks B) k)] ∧ Sep w w' [ownB vd (getB' over (blks B) k).d] := by
  refine s_chain_Chain_Get fun R hR => ?_
  unfold c_chain_Chain_Get
  refine bxQ (Sep.start w) fun g3 w1 hs1 => ?_
  refine alloc_s hs1 (A_api_Block w1) fun g4 w2 hs2 => ?_
  refine cal_i (cMay_spec (hs2.ch hr)) ?_
  rintro _ _ ⟨rfl, rfl⟩
  have bad : ∀ (z : World) (e : Int), Sep w z [blk g4 (Rdr.cells Q_api_Block (vz 32, (0 : Int), .slice none 0 0)).toArray T_api_Block, blk g3 (Rdr.cells (rVec 32) k).toArray T_api_ID] → e = getE' over (blks B) k → getB' over (blks B) k = Blk.none →
      rdP P (Instr.build T_api_Block #[]) z fun t11 => stN 34 (.pointer (some ⟨g4, 0, none⟩)) t11 z fun w => ldN 34 (.pointer (some ⟨g4, 0, none⟩)) w.heap fun r0 => R (.tuple #[r0, .int .i64 e]) w := fun z e hz he hb => by
    rw [B_none]
    refine St_api_Block (b := (Blk.none.p, Blk.none.h, .slice none 0 0)) hz (one_api_Block rfl) fun w2 hs2 => ?_
    simp only [L_api_Block hs2.blk, L_api_Block__Parent hs2.blk, L_api_Block__Height hs2.blk, L_api_Block__Data hs2.blk]
    refine hR _ _ ⟨.slice none 0 0, by rw [hb, ← he], ?_⟩
    rw [hb]
    exact Sep.pick hs2.nil [0] 3
  cases over with
  | true =>
    rw [if_pos rfl]
    simp only [fx, Nat.reduceAdd, forall_const, show ((5 : Int) != 0) = true from rfl]
    exact bad w2 5 hs2 (by unfold getE'; rw [if_pos rfl]) (by unfold getB'; rw [if_pos rfl])
  | false =>
  rw [if_neg (by decide)]
  simp only [fx, Nat.reduceAdd, forall_const, show ((0 : Int) != 0) = false from rfl]
  refine drw_s hs2 fun w3 hs3 _ => ?_
  obtain ⟨T, fr, hc⟩ := (hs3.ch hr).cell
  have hl : ∀ K, rdP P (Instr.lookup T_map_api_ID_int (.map (some gm)) (kv k) true) w3 K = K (.tuple #[(atF (blks B) k).getD (.int .i64 0), .bool (atF (blks B) k).isSome]) := lookF2 U_map_api_ID_int KTc zInt (hm.fr hs3.fr0) k
  simp only [L_chain_Chain hc, L_chain_Chain__in hc, L_chain_Chain__l hc, L_chain_Chain__ids hc, L_chain_Chain__at hc, L_chain_Chain__over hc, L_api_ID (Sep.blk hs3.p1), hl, fx, Nat.reduceAdd, forall_const, atF_fnd]
  cases hf : fnd (blks B) k with
  | none =>
    simp only [fx, Nat.reduceAdd, forall_const, Option.map_none, Option.isSome_none]
    exact bad w3 4 hs3 (by unfold getE'; rw [if_neg (by decide), if_pos hf]) (by unfold getB'; rw [if_neg (by decide), hf])
  | some i =>
    obtain ⟨hi, b, hb, _⟩ := fnd_some hf
    have hi' : i < B.length := by simpa using hi
    obtain ⟨y, hy⟩ : ∃ y, B[i]? = some y := ⟨_, List.getElem?_eq_getElem hi'⟩
    have hy2 : (blks B)[i]? = some y.1 := by rw [List.getElem?_map, hy]; rfl
    have hg1 : getB' false (blks B) k = y.1 := by
      unfold getB'
      rw [if_neg (by decide), hf]
      show (blks B).getD i Blk.none = _
      rw [List.getD_eq_getElem?_getD, hy2]
      rfl
    have hg2 : getE' false (blks B) k = 0 := by unfold getE'; rw [if_neg (by decide), if_neg (by rw [hf]; simp)]
    simp only [fx, Nat.reduceAdd, forall_const, Option.map_some, Option.isSome_some, Option.getD_some]
    refine BRows.ld (hs3.ch hr).bw hy .i64 ?_
    refine cal_i (bkClone_spec (b := y.1) (v := y.2) ((hs3.ch hr).bw.2 y (List.mem_of_getElem? hy)) (by have := hdl y (List.mem_of_getElem? hy); omega)) ?_
    rintro _ w4 ⟨vd, rfl, hs4⟩
    replace hs4 := hs3.join hs4
    refine St_api_Block (b := (y.1.p, y.1.h, vd)) hs4.p1 (one_api_Block (Sep.one hs4)) fun w5 hs5 => ?_
    simp only [L_api_Block hs5.blk, L_api_Block__Parent hs5.blk, L_api_Block__Height hs5.blk, L_api_Block__Data hs5.blk]
    refine hR _ _ ⟨vd, by rw [hg1, hg2], ?_⟩
    rw [hg1]
    exact Sep.pick hs5 [1] 3
end
end Go.Fx
set_option linter.unusedVariables false
set_option linter.unusedSimpArgs false
namespace Go.Fx
def rt (p : Value) (x : Tp) : Asn :=
  .ex fun g => .ex fun s => .star (.pr (p = .pointer (some ⟨g, 0, none⟩) ∧ x.made = true)) (.star (blk g #[s, .bool x.off, .int .i64 x.armed] T_flurryref08_Tape) (ownB s x.b))
section
variable {w0 w : World} {As : List Asn} {p : Value} {x : Tp}
theorem rt_open : Sep w0 w (rt p x :: As) = ∃ g s, (p = .pointer (some ⟨g, 0, none⟩) ∧ x.made = true) ∧ Sep w0 w (blk g #[s, .bool x.off, .int .i64 x.armed] T_flurryref08_Tape :: ownB s x.b :: As) := by
  simp only [rt, Sep_ex, Sep_star, Sep_pr]
theorem rt_i {g : Nat} {s : Value} (hm : x.made = true) (hs : Sep w0 w (blk g #[s, .bool x.off, .int .i64 x.armed] T_flurryref08_Tape :: ownB s x.b :: As)) : Sep w0 w (rt (.pointer (some ⟨g, 0, none⟩)) x :: As) := by
  rw [rt_open]; exact ⟨g, s, ⟨rfl, hm⟩, hs⟩
theorem rOf_spec {v : Value} {l : List UInt8} (hb : RdB w.heap v l) : cal P f_ref08_Of [v] w fun r w' =>
    (262144 < l.length ∧ r = .tuple #[.pointer none, .int .i64 3] ∧ w = w') ∨ (l.length ≤ 262144 ∧ ∃ p, r = .tuple #[p, .int .i64 0] ∧ Sep w w' [rt p ⟨l, -1, false, true⟩]) := by
  refine s_ref08_Of fun R hR => ?_
  unfold c_ref08_Of
  simp only [fx, Nat.reduceAdd, forall_const, hb.len]
  rw [cnd_bool]
  refine ⟨fun h => ?_, fun h => ?_⟩
  · exact hR _ _ (.inl ⟨by simp at h; omega, rfl, rfl⟩)
  · have h : l.length ≤ 262144 := by simp at h; omega
    refine appB_s ST_bytes UT_bytes (by simp) (Sep.start w).nil hb (by simp; omega) fun v' w1 hs => ?_
    have hb2 : (Instr.build T_flurryref08_Tape #[(0, v'), (2, .int .i64 (-1))]).run P w1 = .ok (.agg #[v', .bool false, .int .i64 (-1)]) w1 := by
      obtain ⟨a, c, rfl⟩ := hs.sl
      kernel_rfl
    rw [rdP_eq hb2]
    refine bx_s hs fun g w2 hs => ?_
    exact hR _ _ (.inr ⟨h, _, rfl, rt_i (x := ⟨l, -1, false, true⟩) rfl hs⟩)
theorem rTruncate_spec {n : Int} (hs : Sep w0 w (rt p x :: As)) (hx : x.Ok) : cal P f_ref08_Tape_Truncate [p, .int .i64 n] w fun v w' => v = .int .i64 (x.truncate n).2 ∧ Sep w0 w' (rt p (x.truncate n).1 :: As) := by
  refine s_ref08_Tape_Truncate fun R hR => ?_
  unfold c_ref08_Tape_Truncate
  have hs' := hs
  rw [rt_open] at hs
  obtain ⟨g, sv, ⟨rfl, hm⟩, hs⟩ := hs
  simp only [fx, Nat.reduceAdd, forall_const, ld1_eq hs.blk, hs.p1.rd.len]
  rw [cnd_bool]
  refine ⟨fun h => ?_, fun h => ?_⟩
  · have h5 : x.may = 5 := Tp.may_five.2 ⟨hm, h⟩
    exact hR _ _ ⟨by simp [Tp.truncate, h5], by simpa [Tp.truncate, h5] using hs'⟩
  have hmay : x.may = 0 := Tp.may_zero.2 ⟨hm, h⟩
  obtain ⟨hx1, hx2, hx3⟩ := hx
  rw [cnd_bool]
  refine ⟨fun h => ?_, fun h => ?_⟩
  · have h : n < 0 ∨ (x.b.length : Int) < n := by simpa using h
    exact hR _ _ ⟨by simp [Tp.truncate, hmay, h], by simpa [Tp.truncate, hmay, h] using hs'⟩
  · have h : ¬ (n < 0 ∨ (x.b.length : Int) < n) := by simpa using h
    obtain ⟨m, rfl⟩ := Int.eq_ofNat_of_zero_le (show 0 ≤ n by omega)
    obtain ⟨a, c, rfl, hc⟩ := hs.p1.form
    have hm' : m ≤ x.b.length := by omega
    rw [slc_to (by omega)]
    refine appB_s ST_bytes UT_bytes (by simp) hs.nil (hs.p1.rd.take hm' c) (by simp; omega) fun v' w1 hs1 => ?_
    have ht : x.truncate m = ({ x with b := x.b.take m }, 0) := by rw [Tp.truncate, if_neg (by simp [hmay]), if_neg (by omega)]; simp
    refine st1_s hs1.p1 (by simp) hs1.one fun w2 hs2 => ?_
    exact hR _ _ ⟨by rw [ht], by rw [ht]; exact rt_i (x := { x with b := x.b.take m }) hm hs2.d2⟩
theorem rArm_spec {n : Int} (hs : Sep w0 w (rt p x :: As)) : cal P f_ref08_Tape_Arm [p, .int .i64 n] w fun v w' => v = .int .i64 (x.arm n).2 ∧ Sep w0 w' (rt p (x.arm n).1 :: As) := by
  refine s_ref08_Tape_Arm fun R hR => ?_
  unfold c_ref08_Tape_Arm
  have hs' := hs
  rw [rt_open] at hs
  obtain ⟨g, sv, ⟨rfl, hm⟩, hs⟩ := hs
  simp only [fx, Nat.reduceAdd, forall_const, ld1_eq hs.blk]
  rw [cnd_bool]
  refine ⟨fun h => ?_, fun h => ?_⟩
  · have h5 : x.may = 5 := Tp.may_five.2 ⟨hm, h⟩
    exact hR _ _ ⟨by simp [Tp.arm, h5], by simpa [Tp.arm, h5] using hs'⟩
  have hmay : x.may = 0 := Tp.may_zero.2 ⟨hm, h⟩
  rw [cnd_bool]
  refine ⟨fun h => ?_, fun h => ?_⟩
  · have h : n < 0 := by simpa using h
    exact hR _ _ ⟨by simp [Tp.arm, hmay, h], by simpa [Tp.arm, hmay, h] using hs'⟩
  · have h : ¬ n < 0 := by simpa using h
    refine st1_s hs (by simp) rfl fun w2 hs2 => ?_
    exact hR _ _ ⟨by simp [Tp.arm, hmay, h], by simpa [Tp.arm, hmay, h] using rt_i (x := { x with armed := n }) hm hs2⟩
theorem rCrash_spec (hs : Sep w0 w (rt p x :: As)) : cal P f_ref08_Tape_Crash [p] w fun v w' => v = .int .i64 x.crash.2 ∧ Sep w0 w' (rt p x.crash.1 :: As) := by
  refine s_ref08_Tape_Crash fun R hR => ?_
  unfold c_ref08_Tape_Crash
  have hs' := hs
  rw [rt_open] at hs
  obtain ⟨g, sv, ⟨rfl, hm⟩, hs⟩ := hs
  simp only [fx, Nat.reduceAdd, forall_const, ld1_eq hs.blk]
  rw [cnd_bool]
  refine ⟨fun h => ?_, fun h => ?_⟩
  · have h5 : x.may = 5 := Tp.may_five.2 ⟨hm, h⟩
    exact hR _ _ ⟨by simp [Tp.crash, h5], by simpa [Tp.crash, h5] using hs'⟩
  have hmay : x.may = 0 := Tp.may_zero.2 ⟨hm, h⟩
  refine st1_s hs (by simp) rfl fun w2 hs2 => ?_
  refine st1_s hs2 (by simp) rfl fun w3 hs3 => ?_
  exact hR _ _ ⟨by simp [Tp.crash, hmay], by simpa [Tp.crash, hmay] using rt_i (x := x.goes) hm hs3⟩
theorem rRestart_spec (hs : Sep w0 w (rt p x :: As)) : cal P f_ref08_Tape_Restart [p] w fun v w' => v = .int .i64 x.restart.2 ∧ Sep w0 w' (rt p x.restart.1 :: As) := by
  refine s_ref08_Tape_Restart fun R hR => ?_
  unfold c_ref08_Tape_Restart
  have hs' := hs
  rw [rt_open] at hs
  obtain ⟨g, sv, ⟨rfl, hm⟩, hs⟩ := hs
  simp only [fx, Nat.reduceAdd, forall_const, ld1_eq hs.blk]
  rw [cnd_bool]
  refine ⟨fun h => ?_, fun h => ?_⟩
  · have h0 : x.may = 0 := Tp.may_zero.2 ⟨hm, by simpa using h⟩
    exact hR _ _ ⟨by simp [Tp.restart, h0], by simpa [Tp.restart, h0] using hs'⟩
  have hmay : x.may = 5 := Tp.may_five.2 ⟨hm, by simpa using h⟩
  refine st1_s hs (by simp) rfl fun w2 hs2 => ?_
  exact hR _ _ ⟨by simp [Tp.restart, hmay], by simpa [Tp.restart, hmay] using rt_i (x := { x with off := false }) hm hs2⟩
theorem rAppend_spec {s : Sl (Sl UInt8)} (hs : Sep w0 w (rt p x :: As)) (hx : x.Ok) (hv : ∀ w', Sep w0 w' As → (rSl rBytes).ok w'.heap s) :
    cal P f_ref08_Tape_Append [p, s.v] w fun v w' => v = .int .i64 (x.append (joined s.l)).2 ∧ Sep w0 w' (rt p (x.append (joined s.l)).1 :: As) := by
  refine s_ref08_Tape_Append fun R hR => ?_
  unfold c_ref08_Tape_Append
  have hs' := hs
  rw [rt_open] at hs
  obtain ⟨g, sv, ⟨rfl, hm⟩, hs⟩ := hs
  simp only [fx, Nat.reduceAdd, forall_const, ld1_eq hs.blk]
  rw [cnd_bool]
  refine ⟨fun h => ?_, fun hoff => ?_⟩
  · have h5 : x.may = 5 := Tp.may_five.2 ⟨hm, h⟩
    exact hR _ _ ⟨by simp [Tp.append, h5], by simpa [Tp.append, h5] using hs'⟩
  have hmay : x.may = 0 := Tp.may_zero.2 ⟨hm, hoff⟩
  obtain ⟨hx1, hx2, hx3⟩ := hx
  clear hs'
  have hlen := (hv w hs.tail.tail).2.1
  refine ⟨fun y i w' => ∃ k : Nat, k ≤ s.l.length ∧ i = .int .i64 k ∧ x.b.length + (joined (s.l.take k)).length ≤ 262144 ∧ Sep w0 w' (ownB y (joined (s.l.take k)) :: blk g #[sv, .bool x.off, .int .i64 x.armed] T_flurryref08_Tape :: ownB sv x.b :: As),
    fun _ i _ => (s.l.length - RowKit.intOf i).toNat, ⟨0, by omega, rfl, by simp [joined]; omega, by simpa [joined] using hs.nil⟩, ?_⟩
  rintro y _ w1 ⟨k, hk, rfl, hsum, hs1⟩ -
  have hok1 := hv w1 hs1.tail.tail.tail
  simp only [fx, Nat.reduceAdd, forall_const, rSl_len hok1]
  rw [cnd_bool]
  refine ⟨fun h => ?_, fun h => ?_⟩
  · have hlt : k < s.l.length := by simpa using h
    obtain ⟨a, ha⟩ : ∃ a, s.l[k]? = some a := ⟨_, List.getElem?_eq_getElem hlt⟩
    refine drw_s hs1 fun w1 hs1 _ => ?_
    replace hok1 := hv _ hs1.tail.tail.tail
    have hak := rSl_ok hok1 ha
    have hj := joined_take_succ ha
    have hjl := congrArg List.length hj
    rw [List.length_append] at hjl
    have hal := hak.2.1
    refine rSl_ld1 hok1 ha rfl ?_
    simp only [fx, Nat.reduceAdd, forall_const, rBytes_len hak, ld1_eq hs1.p1.blk, hs1.p2.rd.len, hs1.rd.len]
    simp (disch := omega) only [wi64]
    rw [cnd_bool]
    refine ⟨fun h => ?_, fun h => ?_⟩
    · have hle := joined_take_le s.l (k + 1)
      have h6 : 262144 < x.b.length + (joined s.l).length := by simp at h; omega
      exact hR _ _ ⟨by simp [Tp.append, hmay, h6], by simpa [Tp.append, hmay, h6] using rt_i hm hs1.tail⟩
    · have h : a.l.length ≤ 262144 - x.b.length - (joined (s.l.take k)).length := by simp at h; omega
      refine rSl_ld1 hok1 ha rfl ?_
      refine appB_s ST_bytes UT_bytes (by simp) hs1 hak.1 (by omega) fun v' w2 hs2 => ?_
      exact ⟨⟨k + 1, by omega, by simp, by omega, by rw [hj]; exact hs2⟩, by simp [RowKit.intOf]; omega⟩
  have hkl : k = s.l.length := by simp at h; omega
  subst hkl
  rw [List.take_length] at hsum hs1
  have h6 : ¬ 262144 < x.b.length + (joined s.l).length := by omega
  generalize hall : joined s.l = all at *
  refine ⟨fun i w' => ∃ (k : Nat) (sv : Value) (arm : Int), k ≤ all.length ∧ i = .int .i64 k ∧ (x.armed = -1 → arm = -1) ∧ (x.armed ≠ -1 → arm = x.armed - k ∧ 0 ≤ arm) ∧
      Sep w0 w' (blk g #[sv, .bool x.off, .int .i64 arm] T_flurryref08_Tape :: ownB sv (x.b ++ all.take k) :: ownB y all :: As),
    fun i _ => (all.length - RowKit.intOf i).toNat, ⟨0, sv, x.armed, by omega, rfl, id, fun h => ⟨by simp, by omega⟩, by simpa using hs1.q2⟩, ?_⟩
  rintro _ w2 ⟨k, sv2, arm, hk, rfl, hm1, hm2, hs2⟩ -
  simp only [fx, Nat.reduceAdd, forall_const, hs2.p2.rd.len, ld1_eq hs2.blk]
  rw [cnd_bool]
  refine ⟨fun h => ?_, fun h => ?_⟩
  · have hlt : k < all.length := by simpa using h
    rw [cnd_bool]
    refine ⟨fun h => ?_, fun h => ?_⟩
    · have h0 : arm = 0 := by simpa using h
      have hne : x.armed ≠ -1 := fun h => by have := hm1 h; omega
      obtain ⟨e1, e2⟩ := hm2 hne
      refine cal_i (rCrash_spec (rt_i (x := ⟨x.b ++ all.take k, arm, x.off, x.made⟩) hm hs2)) ?_
      rintro _ w3 ⟨rfl, hs3⟩
      have h7 : ¬ (all.length : Int) ≤ x.armed := by omega
      have e3 : x.armed.toNat = k := by omega
      refine hR _ _ ⟨by simp [Tp.append, hmay, h6, hne, h7], ?_⟩
      have hc : (⟨x.b ++ all.take k, arm, x.off, x.made⟩ : Tp).crash = ({ x with b := x.b ++ all.take k, off := true, armed := -1 }, 0) := by
        simp [Tp.crash, Tp.may, hm, hoff, Tp.goes]
      rw [hc] at hs3
      simpa [Tp.append, hmay, h6, hne, h7, e3] using hs3.d1
    · have h0 : arm ≠ 0 := by simpa using h
      refine ⟨fun w' => Sep w0 w' (blk g #[sv2, .bool x.off, .int .i64 (if x.armed = -1 then -1 else x.armed - (k + 1 : Nat))] T_flurryref08_Tape :: ownB sv2 (x.b ++ all.take k) :: ownB y all :: As), ?_, ?_⟩
      · change cnd _ _ _
        rw [cnd_bool]
        refine ⟨fun h => ?_, fun h => ?_⟩
        · have h1 : 0 < arm := by simpa using h
          have hne : x.armed ≠ -1 := fun h => by have := hm1 h; omega
          obtain ⟨e1, e2⟩ := hm2 hne
          rw [wi64 (by omega) (by omega)]
          refine st1_s hs2 (by simp) rfl fun w3 hs3 => ?_
          rw [if_neg hne, show x.armed - ((k + 1 : Nat) : Int) = arm - 1 by omega]
          exact hs3
        · have h1 : ¬ 0 < arm := by simpa using h
          have hne : x.armed = -1 := by
            rcases Classical.em (x.armed = -1) with h | h
            · exact h
            · have := hm2 h; omega
          rw [if_pos hne]
          have := hm1 hne
          subst this
          exact hs2
      · intro w3 hs3 _
        refine drH_S hs3 fun w3 hs3 _ => ?_
        refine rdS_i (fun u hu => Sep.blk hu) rfl ?_
        obtain ⟨u, hu⟩ : ∃ u, all[k]? = some u := ⟨_, List.getElem?_eq_getElem hlt⟩
        have hul : all[k] = u := by rw [List.getElem?_eq_getElem hlt] at hu; simpa using hu
        refine ldxB_S hs3 (fun u hu => hu.p2.rd) hlt ?_
        rw [hul]
        have hb : ∀ w : World, (Instr.buildSlice T_sl_uint8 1 #[(0, bv u)]).run P w = .ok (.slice (some ⟨w.heap.size, 0, none⟩) 1 1) (w.alloc (.cells (bvs [u]).toArray T_uint8)) := fun w => by kernel_rfl
        refine efS_i (buildB_s (l := [u]) hs3 rfl (hb _) fun g4 w4 hs4 => ⟨hs4.tail, ?_⟩)
        refine efC_efP (appB_s ST_bytes UT_bytes (by simp) hs4.p2 hs4.rd (by simp; omega) fun v' w5 hs5 => ?_)
        refine efC_st1 (st1_s hs5.p2 (by simp) hs5.one fun w6 hs6 => ?_)
        rw [wi64 (by omega) (by omega)]
        refine ⟨⟨k + 1, v', (if x.armed = -1 then -1 else x.armed - ((k + 1 : Nat) : Int)), by omega, by simp, fun h => by rw [if_pos h], fun h => by rw [if_neg h]; have := hm2 h; exact ⟨rfl, by omega⟩, ?_⟩, by simp [RowKit.intOf]; omega⟩
        have e4 : x.b ++ all.take (k + 1) = x.b ++ all.take k ++ [u] := by rw [List.take_add_one, hu]; simp
        rw [e4]
        exact hs6.d2
  · have hkl : k = all.length := by simp at h; omega
    subst hkl
    rw [List.take_length] at hs2
    by_cases hne : x.armed = -1
    · have e1 := hm1 hne
      have e : arm = x.armed := by omega
      have ha : x.append all = ({ x with b := x.b ++ all }, 0) := by simp [Tp.append, hmay, h6, hne]
      rw [e] at hs2
      exact hR _ _ ⟨by rw [ha], by rw [ha]; exact rt_i (x := { x with b := x.b ++ all }) hm hs2.d2⟩
    · obtain ⟨e1, e2⟩ := hm2 hne
      have h7 : (all.length : Int) ≤ x.armed := by omega
      exact hR _ _ ⟨by simp [Tp.append, hmay, h6, hne, h7], by simpa [Tp.append, hmay, h6, hne, h7, e1] using rt_i (x := { x with b := x.b ++ all, armed := arm }) hm hs2.d2⟩
end
end Go.Fx
set_option linter.unusedVariables false
set_option linter.unusedSimpArgs false
namespace Go.Fx
theorem downs_snoc {L : List Blk} {i m : Nat} {b : Blk} (hi : i < L.length) (hm : m ≤ i) (h : L[i - m]? = some b) : downs L i (m + 1) = downs L i m ++ [b] := by
  unfold downs
  have hl : (L.take (i + 1)).length = i + 1 := by rw [List.length_take]; omega
  have hg : ((L.take (i + 1)).reverse)[m]? = some b := by
    rw [List.getElem?_reverse (by omega), hl, show i + 1 - 1 - m = i - m by omega, List.getElem?_take, if_pos (by omega)]
    exact h
  rw [List.take_add_one, hg]
  rfl
theorem downs_all {L : List Blk} {i m : Nat} (hi : i < L.length) (hm : m = i + 1) (n : Nat) (hn : m ≤ n) : downs L i m = downs L i n := by
  unfold downs
  have hl : ((L.take (i + 1)).reverse).length = i + 1 := by rw [List.length_reverse, List.length_take]; omega
  rw [List.take_of_length_le (i := m) (by omega), List.take_of_length_le (i := n) (by omega)]
theorem rowsNilC {α : Type} (q : Rdr α) (h : Heap) : Rows' q h (.slice none 0 0) [] := ⟨none, 0, rfl, by simp, .inl (by simp)⟩
/-- A value that reads as these bytes, as long as the blocks stand. -/
def Kp (B : List BV) (vd : Value) (d : List UInt8) : Prop := ∀ h : Heap, (∀ y ∈ B, RdB h y.2 y.1.d) → RdB h vd d
theorem Kp.none (B : List BV) : Kp B (.slice none 0 0) [] := fun h _ => RdB.nil h 0
theorem Kp.mem {B : List BV} {y : BV} (hy : y ∈ B) : Kp B y.2 y.1.d := fun h hB => hB y hy
def fndI (L : List Blk) (k : Vec 32) : Int := match fnd L k with | none => -1 | some i => (i : Nat)
section
variable {w0 w w' : World} {As : List Asn} {g gi gm : Nat} {lv iv m pt ut : Value} {over off : Bool} {B : List BV} {x : Tp}
theorem cAnc_spec {k : Vec 32} {n : Int} (hr : ChR w.heap g gi lv iv (.map (some gm)) pt over B) (hm : MpR w.heap gm (atF (blks B))) (hn : B.length ≤ 1000000) (hdl : ∀ x ∈ B, x.1.d.length ≤ 100000) :
    cal P f_chain_Chain_Ancestors [.pointer (some ⟨g, 0, none⟩), kv k, .int .i64 n] w fun r w' => ∃ (v : Value) (D : List BV), r = .tuple #[v, .int .i64 (ancE over (blks B) k n)] ∧ blks D = ancB over (blks B) k n ∧ BRows w'.heap v D ∧ Fr [] w w' := by
  refine s_chain_Chain_Ancestors fun R hR => ?_
  unfold c_chain_Chain_Ancestors
  refine bxQ (Sep.start w) fun g4 w1 hs1 => ?_
  refine cal_i (cMay_spec (hs1.ch hr)) ?_
  rintro _ _ ⟨rfl, rfl⟩
  have none_rd : ∀ {z : World}, BRows z.heap (.slice none 0 0) [] := fun {z} => ⟨rowsNilC _ _, fun x hx => by cases hx⟩
  have bad : ∀ (z : World) (e : Int), Fr [] w z → e = ancE over (blks B) k n → e ≠ 0 → R (.tuple #[.slice none 0 0, .int .i64 e]) z := fun z e hz he h0 => by
    refine hR _ _ ⟨_, [], by rw [he], ?_, none_rd, hz⟩
    unfold ancB
    rw [if_pos (by rw [← he]; exact h0)]
    rfl
  cases over with
  | true =>
    rw [if_pos rfl]
    simp only [fx, Nat.reduceAdd, forall_const, show ((5 : Int) != 0) = true from rfl]
    exact bad w1 5 hs1.fr0 (by unfold ancE; rw [if_pos rfl]) (by decide)
  | false =>
  rw [if_neg (by decide)]
  simp only [fx, Nat.reduceAdd, forall_const, show ((0 : Int) != 0) = false from rfl]
  rw [cnd_bool]
  refine ⟨fun h => ?_, fun h => ?_⟩
  · have h : n < 1 ∨ 1024 < n := by simpa using h
    exact bad w1 1 hs1.fr0 (by unfold ancE; rw [if_neg (by decide), if_pos h]) (by decide)
  have hn1 : ¬ (n < 1 ∨ 1024 < n) := by simpa using h
  refine drw_s hs1 fun w2 hs2 _ => ?_
  obtain ⟨T, fr, hc⟩ := (hs2.ch hr).cell
  have hl : ∀ K, rdP P (Instr.lookup T_map_api_ID_int (.map (some gm)) (kv k) true) w2 K = K (.tuple #[(atF (blks B) k).getD (.int .i64 0), .bool (atF (blks B) k).isSome]) := lookF2 U_map_api_ID_int KTc zInt (hm.fr hs2.fr0) k
  simp only [L_chain_Chain hc, L_chain_Chain__in hc, L_chain_Chain__l hc, L_chain_Chain__ids hc, L_chain_Chain__at hc, L_chain_Chain__over hc, L_api_ID (Sep.blk hs2), hl, fx, Nat.reduceAdd, forall_const, atF_fnd]
  cases hf : fnd (blks B) k with
  | none =>
    simp only [fx, Nat.reduceAdd, forall_const, Option.map_none, Option.isSome_none]
    exact bad w2 4 hs2.fr0 (by unfold ancE; rw [if_neg (by decide), if_neg hn1, if_pos hf]) (by decide)
  | some i =>
  obtain ⟨hi, _⟩ := fnd_some hf
  have hi' : i < B.length := by simpa using hi
  have hE : ancE false (blks B) k n = 0 := by unfold ancE; rw [if_neg (by decide), if_neg hn1, if_neg (by rw [hf]; simp)]
  have hB : ancB false (blks B) k n = downs (blks B) i n.toNat := by unfold ancB; rw [if_neg (by rw [hE]; simp), hf]
  simp only [fx, Nat.reduceAdd, forall_const, Option.map_some, Option.isSome_some, Option.getD_some]
  refine ⟨fun a b z => ∃ (m : Nat) (D : List BV) (Es : List Asn), a = .int .i64 ((i : Int) - m) ∧ m ≤ i + 1 ∧ (m : Int) ≤ n ∧ D.length = m ∧ blks D = downs (blks B) i m ∧ DatB D Es ∧ Sep w z (rows Q_api_Block b (D.map BV.t) :: Es), fun a _ _ => (RowKit.intOf a + 1).toNat,
    ⟨0, [], [], by simp, by omega, by omega, rfl, rfl, (fun x hx => by cases hx), Sep.nilR (q := Q_api_Block) (Sep.start w |>.old hs2.fr0)⟩, ?_⟩
  rintro _ b z ⟨m, D, Es, rfl, hmi, hmn, hDl, hD, hDat, hz⟩ -
  have hrw := Sep.rows hz
  have hlen : ∀ K, lenS b K = K (.int .i64 m) := fun K => by
    have := hrw.len K
    rwa [List.length_map, hDl] at this
  simp only [fx, Nat.reduceAdd, forall_const, hlen]
  rw [cnd_bool]
  refine ⟨fun h => ?_, fun h => ?_⟩
  · have h : (0 : Int) ≤ (i : Int) - m ∧ (m : Int) < n := by simpa using h
    obtain ⟨y, hy⟩ : ∃ y, B[i - m]? = some y := ⟨_, List.getElem?_eq_getElem (by omega)⟩
    have hy2 : (blks B)[i - m]? = some y.1 := by rw [List.getElem?_map, hy]; rfl
    have e1 : (i : Int) - m = ((i - m : Nat) : Int) := by omega
    rw [e1]
    have hrz := hz.ch hr
    obtain ⟨T, fr, hc⟩ := hrz.cell
    simp only [fx, Nat.reduceAdd, forall_const, L_chain_Chain hc, L_chain_Chain__in hc, L_chain_Chain__l hc, L_chain_Chain__ids hc, L_chain_Chain__at hc, L_chain_Chain__over hc]
    refine BRows.ld hrz.bw hy .i64 ?_
    refine cal_i (bkClone_spec (b := y.1) (v := y.2) (hrz.bw.2 y (List.mem_of_getElem? hy)) (by have := hdl y (List.mem_of_getElem? hy); omega)) ?_
    rintro _ z2 ⟨vd, rfl, hz2⟩
    replace hz2 := hz.join hz2
    refine cBldB (x := (y.1, vd)) hz2 fun a z3 hz3 => ?_
    refine cAppB (x := (y.1, vd)) (B := D) (Sep.pick hz3 [2, 0, 1] 3) (Sep.rows hz3) (Sep.one hz3.p1) (by omega) fun u' z4 hz4 => ?_
    rw [wi64 (by omega) (by omega)]
    refine ⟨⟨m + 1, D ++ [(y.1, vd)], ownB vd y.1.d :: Es, by congr 1; omega, by omega, by omega, by simp [hDl], ?_, ?_, Sep.pick hz4 [0, 2] 3⟩, by simp [RowKit.intOf] <;> omega⟩
    · rw [downs_snoc hi (by omega) hy2, ← hD]
      simp
    · intro q hq
      rcases List.mem_append.1 hq with hq | hq
      · exact List.mem_cons_of_mem _ (hDat q hq)
      · rw [List.mem_singleton.1 hq]; exact List.mem_cons_self ..
  · have h : (0 : Int) ≤ (i : Int) - m → n ≤ (m : Int) := by simpa using h
    refine hR _ _ ⟨b, D, by rw [hE], ?_, ⟨hrw, fun q hq => ?_⟩, hz.fr0⟩
    · rw [hB, hD]
      by_cases hc : m = i + 1
      · exact downs_all hi hc _ (by omega)
      · have : m = n.toNat := by have := h (by omega); omega
        rw [this]
    · obtain ⟨F, hF⟩ := hz.onL (A := ownB q.2 q.1.d) (List.mem_cons_of_mem _ (hDat q hq))
      exact OwnB.rd hF
/-- The document's chain in memory. -/
abbrev rcA (g : Nat) (lv ut : Value) (off : Bool) : Asn := blk g (Rdr.cells Q_flurryref10_Chain (ut, lv, off)).toArray T_flurryref10_Chain
structure RcR (h : Heap) (g : Nat) (lv ut : Value) (off : Bool) (B : List BV) : Prop where
  cell : ∃ T fr, h[g]? = some (.cells (Rdr.cells Q_flurryref10_Chain (ut, lv, off)).toArray T fr)
  bw : BRows h lv B
theorem RcR.fr (h : RcR w.heap g lv ut off B) (hf : Fr [] w w') : RcR w'.heap g lv ut off B := by
  obtain ⟨⟨T, fr, hc⟩, h3⟩ := h
  exact ⟨⟨T, fr, hf.blk hc (by simp)⟩, h3.fr hf⟩
theorem Sep.rc (h : Sep w0 w As) (hr : RcR w0.heap g lv ut off B) : RcR w.heap g lv ut off B := hr.fr h.1
theorem rcA_rd (h : Sep w0 w (rcA g lv ut off :: rows Q_api_Block lv (B.map BV.t) :: As)) (hd : DatB B As) : RcR w.heap g lv ut off B :=
  ⟨⟨_, _, Sep.blk h⟩, ⟨Sep.rows h.tail, fun x hx => by
    obtain ⟨F, hF⟩ := h.onL (A := ownB x.2 x.1.d) (List.mem_cons_of_mem _ (List.mem_cons_of_mem _ (hd x hx)))
    exact OwnB.rd hF⟩⟩
theorem rcCan_spec (hr : RcR w.heap g lv ut off B) : cal P f_ref10_Chain_can [.pointer (some ⟨g, 0, none⟩)] w fun r w' => r = .int .i64 (if off = true then 5 else 0) ∧ w = w' := by
  refine s_ref10_Chain_can fun R hR => ?_
  unfold c_ref10_Chain_can
  obtain ⟨T, fr, hc⟩ := hr.cell
  simp only [fx, Nat.reduceAdd, forall_const, L_flurryref10_Chain hc, L_flurryref10_Chain__T hc, L_flurryref10_Chain__L hc, L_flurryref10_Chain__Off hc]
  cases off <;> simp only [fx, Nat.reduceAdd, forall_const] <;> exact hR _ _ ⟨rfl, rfl⟩
theorem rcLast_spec {y : BV} (hr : RcR w.heap g lv ut off B) (hy : B[B.length - 1]? = some y) (hn : B.length ≤ 1000000) (hck : y.1.chk = 0) (hh : y.1.h ≤ maxI) :
    cal P f_ref10_Chain_Last [.pointer (some ⟨g, 0, none⟩)] w fun r w' => r = .tuple #[kv y.1.id, .int .i64 y.1.h] ∧ Fr [] w w' := by
  refine s_ref10_Chain_Last fun R hR => ?_
  unfold c_ref10_Chain_Last
  have hpos : 0 < B.length := by
    have := (List.getElem?_eq_some_iff.1 hy).1
    omega
  have hy' : (B.map BV.t)[B.length - 1]? = some y.t := by rw [List.getElem?_map, hy]; rfl
  refine alloc_s (Sep.start w) (A_api_ID w) fun g2 w1 hs1 => ?_
  refine drH_S hs1 fun w2 hs2 _ => ?_
  simp only [fx, Nat.reduceAdd, forall_const]
  refine rdS_ld (v := lv) (fun u hu K hk => by obtain ⟨T, fr, hc⟩ := (hu.rc hr).cell; exact (L_flurryref10_Chain__L hc K).mpr hk) ?_
  refine rdS_ld (v := lv) (fun u hu K hk => by obtain ⟨T, fr, hc⟩ := (hu.rc hr).cell; exact (L_flurryref10_Chain__L hc K).mpr hk) ?_
  rw [hr.bw.len]
  simp only [fx, Nat.reduceAdd, forall_const]
  rw [wi64 (by omega) (by omega)]
  have e1 : (B.length : Int) - 1 = ((B.length - 1 : Nat) : Int) := by omega
  rw [e1]
  change ixs 34 _ _ _
  refine rdS_rowC (q := Q_api_Block) (by decide) hs2 (fun u hu => (hu.rc hr).bw.1) hy' .i64 ?_
  refine efS_i (alloc_s hs2 (A_api_Block w2) fun g4 w3 hs3 => ⟨hs3.tail, ?_⟩)
  have hyr : ∀ {z : World} {Cs : List Asn}, Sep w z Cs → RdB z.heap y.2 y.1.d := fun hz => (hz.rc hr).bw.2 y (List.mem_of_getElem? hy)
  refine efC_stN (St_api_Block (b := y.t) hs3 (one_api_Block (hyr hs3).one) fun w4 hs4 => ?_)
  simp only [L_api_Block hs4.blk, L_api_Block__Parent hs4.blk, L_api_Block__Height hs4.blk, L_api_Block__Data hs4.blk]
  refine cal_i (rbID_spec (b := y.1) (v := y.2) (hyr hs4) hh) ?_
  rintro _ w5 ⟨rfl, hf5⟩
  have hs5 := hs4.old hf5
  have hnm : y.1.name = y.1.id := if_pos hck
  rw [hnm]
  simp only [fx, Nat.reduceAdd, forall_const]
  refine alloc_s hs5 (A_api_ID w5) fun g5 w6 hs6 => ?_
  refine St_api_ID (b := y.1.id) hs6 fun w7 hs7 => ?_
  -- g5 0 · g4 1 · g2 2
  refine drH_PH' (S := fun u => Sep w u [blk g5 (Rdr.cells (rVec 32) y.1.id).toArray T_api_ID, blk g4 (Rdr.cells Q_api_Block y.t).toArray T_api_Block]) hs7 (fun u hu => Sep.pick hu [0, 1] 3) fun w8 hs8 _ => ?_
  refine ⟨kv y.1.id, fun u hu => (L_api_ID (Sep.blk hu) _).mpr rfl, ?_⟩
  refine ⟨.int .i64 y.1.h, fun u hu => (L_api_Block__Height (Sep.blk hu.tail) _).mpr rfl, ?_⟩
  refine efS_i (St_api_ID (b := y.1.id) (Sep.pick hs8 [2, 0, 1] 3) fun w9 hs9 => ⟨hs9.tail, ?_⟩)
  simp only [L_api_ID hs9.blk]
  exact hR _ _ ⟨rfl, hs9.fr0⟩
theorem rcAt_spec {n : Int} (hr : RcR w.heap g lv ut off B) :
    cal P f_ref10_Chain_At [.pointer (some ⟨g, 0, none⟩), .int .i64 n] w fun r w' => ∃ vd, r = .tuple #[bq (atB off (blks B) n) vd, .int .i64 (atE off (blks B) n)] ∧ Kp B vd (atB off (blks B) n).d ∧ Fr [] w w' := by
  refine s_ref10_Chain_At fun R hR => ?_
  unfold c_ref10_Chain_At
  refine alloc_s (Sep.start w) (A_api_Block w) fun g4 w1 hs1 => ?_
  refine cal_i (rcCan_spec (hs1.rc hr)) ?_
  rintro _ _ ⟨rfl, rfl⟩
  have hl : (blks B).length = B.length := by simp
  have bad : ∀ e : Int, e = atE off (blks B) n → e ≠ 0 → rdP P (Instr.build T_api_Block #[]) w1 fun t11 => stN 34 (.pointer (some ⟨g4, 0, none⟩)) t11 w1 fun w => ldN 34 (.pointer (some ⟨g4, 0, none⟩)) w.heap fun r0 => R (.tuple #[r0, .int .i64 e]) w := fun e he h0 => by
    rw [B_none]
    have hb : atB off (blks B) n = Blk.none := by unfold atB; rw [if_neg (by rw [← he]; exact h0)]
    refine St_api_Block (b := (Blk.none.p, Blk.none.h, .slice none 0 0)) hs1 (one_api_Block rfl) fun w2 hs2 => ?_
    simp only [L_api_Block hs2.blk, L_api_Block__Parent hs2.blk, L_api_Block__Height hs2.blk, L_api_Block__Data hs2.blk]
    refine hR _ _ ⟨.slice none 0 0, by rw [hb, ← he], ?_, hs2.fr0⟩
    rw [hb]
    exact Kp.none B
  cases off with
  | true =>
    rw [if_pos rfl]
    simp only [fx, Nat.reduceAdd, forall_const, show ((5 : Int) != 0) = true from rfl]
    exact bad 5 (by unfold atE; rw [if_pos rfl]) (by decide)
  | false =>
  rw [if_neg (by decide)]
  obtain ⟨T, fr, hc⟩ := (hs1.rc hr).cell
  simp only [fx, Nat.reduceAdd, forall_const, show ((0 : Int) != 0) = false from rfl, L_flurryref10_Chain hc, L_flurryref10_Chain__T hc, L_flurryref10_Chain__L hc, L_flurryref10_Chain__Off hc, (hs1.rc hr).bw.len]
  rw [cnd_bool]
  refine ⟨fun h => ?_, fun h => ?_⟩
  · have h : n < 0 ∨ (B.length : Int) ≤ n := by simpa using h
    exact bad 4 (by unfold atE; rw [if_neg (by decide), if_pos (by rw [hl]; exact h)]) (by decide)
  have h : ¬ (n < 0 ∨ (B.length : Int) ≤ n) := by simpa using h
  obtain ⟨i, rfl⟩ : ∃ i : Nat, n = i := ⟨n.toNat, by omega⟩
  have hi : i < B.length := by omega
  obtain ⟨y, hy⟩ : ∃ y, B[i]? = some y := ⟨_, List.getElem?_eq_getElem hi⟩
  have hy2 : (blks B)[i]? = some y.1 := by rw [List.getElem?_map, hy]; rfl
  refine BRows.ld (hs1.rc hr).bw hy .i64 ?_
  have hyr := (hs1.rc hr).bw.2 y (List.mem_of_getElem? hy)
  refine St_api_Block (b := (y.1.p, y.1.h, y.2)) hs1 (one_api_Block hyr.one) fun w3 hs3 => ?_
  simp only [L_api_Block hs3.blk, L_api_Block__Parent hs3.blk, L_api_Block__Height hs3.blk, L_api_Block__Data hs3.blk]
  refine hR _ _ ⟨y.2, by rw [atB_ok hy2, atE_ok (by rw [hl]; exact hi)], ?_, hs3.fr0⟩
  rw [atB_ok hy2]
  exact Kp.mem (List.mem_of_getElem? hy)
theorem fnd_step {L : List Blk} {k : Vec 32} {i : Nat} {b : Blk} (h : L[i]? = some b) : fnd (L.take (i + 1)) k = if k = b.id then some i else fnd (L.take i) k := by
  have hl : (L.take i).length = i := by
    have := (List.getElem?_eq_some_iff.1 h).1
    rw [List.length_take]; omega
  rw [List.take_add_one, h, show (some b).toList = [b] from rfl, fnd_snoc, hl]
theorem rcFind_spec {k : Vec 32} (hr : RcR w.heap g lv ut off B) (hg : goodB (blks B)) (hn : B.length ≤ 1000000) :
    cal P f_ref10_Chain_Find [.pointer (some ⟨g, 0, none⟩), kv k] w fun r w' => r = .int .i64 (fndI (blks B) k) ∧ Fr [] w w' := by
  refine s_ref10_Chain_Find fun R hR => ?_
  unfold c_ref10_Chain_Find
  refine bxQ (Sep.start w) fun g3 w1 hs1 => ?_
  obtain ⟨T, fr, hc⟩ := (hs1.rc hr).cell
  simp only [fx, Nat.reduceAdd, forall_const, L_flurryref10_Chain hc, L_flurryref10_Chain__T hc, L_flurryref10_Chain__L hc, L_flurryref10_Chain__Off hc, (hs1.rc hr).bw.len]
  rw [wi64 (by omega) (by omega)]
  obtain ⟨Bk, hBk⟩ : ∃ Bk : Asn, Bk = blk g3 (Rdr.cells (rVec 32) k).toArray T_api_ID := ⟨_, rfl⟩
  have hs1' : Sep w w1 [Bk] := by rw [hBk]; exact hs1
  refine ⟨fun t z => ∃ j : Nat, t = .int .i64 ((j : Int) - 1) ∧ j ≤ B.length ∧ fnd (blks B) k = fnd ((blks B).take j) k ∧ Sep w z [Bk], fun t _ => (RowKit.intOf t + 1).toNat,
    ⟨B.length, rfl, by omega, by rw [List.take_of_length_le (by simp)], hs1'⟩, ?_⟩
  rintro _ z ⟨j, rfl, hj, hf, hz⟩ -
  simp only [fx, Nat.reduceAdd, forall_const]
  rw [cnd_bool]
  refine ⟨fun h => ?_, fun h => ?_⟩
  · obtain ⟨i, rfl⟩ : ∃ i, j = i + 1 := ⟨j - 1, by simp at h; omega⟩
    obtain ⟨y, hy⟩ : ∃ y, B[i]? = some y := ⟨_, List.getElem?_eq_getElem (by omega)⟩
    have hy2 : (blks B)[i]? = some y.1 := by rw [List.getElem?_map, hy]; rfl
    have hgy := hg y.1 (List.mem_of_getElem? hy2)
    have e1 : ((i + 1 : Nat) : Int) - 1 = (i : Int) := by omega
    rw [e1]
    have hrz := hz.rc hr
    obtain ⟨T, fr, hc⟩ := hrz.cell
    simp only [fx, Nat.reduceAdd, forall_const, L_flurryref10_Chain hc, L_flurryref10_Chain__T hc, L_flurryref10_Chain__L hc, L_flurryref10_Chain__Off hc]
    refine BRows.ld hrz.bw hy .i64 ?_
    refine cal_i (rbID_spec (b := y.1) (v := y.2) (hrz.bw.2 y (List.mem_of_getElem? hy)) hgy.2) ?_
    rintro _ z1 ⟨rfl, hf1⟩
    have hz1 := hz.old hf1
    have hnm : y.1.name = y.1.id := if_pos hgy.1
    rw [hnm]
    simp only [fx, Nat.reduceAdd, forall_const]
    refine alloc_s hz1 (A_api_ID z1) fun g6 z2 hz2 => ?_
    refine St_api_ID (b := y.1.id) hz2 fun z3 hz3 => ?_
    have hb3 := Sep.blk (g := g3) (o := .cells (Rdr.cells (rVec 32) k).toArray T_api_ID (0, 0)) (by have := hz3.p1; rw [hBk] at this; exact this)
    simp only [L_api_ID hz3.blk, L_api_ID hb3, eq_api_ID]
    rw [cnd_bool]
    refine ⟨fun h => ?_, fun h => ?_⟩
    · have h : k = y.1.id := by simpa [eq_comm] using h
      refine hR _ _ ⟨?_, hz3.fr0⟩
      unfold fndI
      rw [hf, fnd_step hy2, if_pos h]
    · have h : ¬ k = y.1.id := by simpa [eq_comm] using h
      rw [wi64 (by omega) (by omega)]
      refine ⟨⟨i, rfl, by omega, ?_, hz3.tail⟩, by simp [RowKit.intOf]⟩
      rw [hf, fnd_step hy2, if_neg h]
  · obtain rfl : j = 0 := by simp at h; omega
    refine hR _ _ ⟨?_, hz.fr0⟩
    unfold fndI
    rw [hf]
    rfl
end
end Go.Fx
set_option linter.unusedVariables false
set_option linter.unusedSimpArgs false
namespace Go.Fx
section
variable {w0 w w' : World} {As : List Asn} {g gi gm : Nat} {lv iv m pt ut : Value} {over off : Bool} {B : List BV} {x : Tp}
theorem rcGet_spec {k : Vec 32} (hr : RcR w.heap g lv ut off B) (hg : goodB (blks B)) (hn : B.length ≤ 1000000) :
    cal P f_ref10_Chain_Get [.pointer (some ⟨g, 0, none⟩), kv k] w fun r w' => ∃ vd, r = .tuple #[bq (getB' off (blks B) k) vd, .int .i64 (getE' off (blks B) k)] ∧ Kp B vd (getB' off (blks B) k).d ∧ Fr [] w w' := by
  refine s_ref10_Chain_Get fun R hR => ?_
  unfold c_ref10_Chain_Get
  refine bxQ (Sep.start w) fun g3 w1 hs1 => ?_
  refine alloc_s hs1 (A_api_Block w1) fun g4 w2 hs2 => ?_
  refine cal_i (rcCan_spec (hs2.rc hr)) ?_
  rintro _ _ ⟨rfl, rfl⟩
  have bad : ∀ (z : World) (e : Int), Sep w z [blk g4 (Rdr.cells Q_api_Block (vz 32, (0 : Int), .slice none 0 0)).toArray T_api_Block, blk g3 (Rdr.cells (rVec 32) k).toArray T_api_ID] → e = getE' off (blks B) k → getB' off (blks B) k = Blk.none →
      rdP P (Instr.build T_api_Block #[]) z fun t11 => stN 34 (.pointer (some ⟨g4, 0, none⟩)) t11 z fun w => ldN 34 (.pointer (some ⟨g4, 0, none⟩)) w.heap fun r0 => R (.tuple #[r0, .int .i64 e]) w := fun z e hz he hb => by
    rw [B_none]
    refine St_api_Block (b := (Blk.none.p, Blk.none.h, .slice none 0 0)) hz (one_api_Block rfl) fun w2 hs2 => ?_
    simp only [L_api_Block hs2.blk, L_api_Block__Parent hs2.blk, L_api_Block__Height hs2.blk, L_api_Block__Data hs2.blk]
    refine hR _ _ ⟨.slice none 0 0, by rw [hb, ← he], ?_, hs2.fr0⟩
    rw [hb]
    exact Kp.none B
  cases off with
  | true =>
    rw [if_pos rfl]
    simp only [fx, Nat.reduceAdd, forall_const, show ((5 : Int) != 0) = true from rfl]
    exact bad w2 5 hs2 (by unfold getE'; rw [if_pos rfl]) (by unfold getB'; rw [if_pos rfl])
  | false =>
  rw [if_neg (by decide)]
  simp only [fx, Nat.reduceAdd, forall_const, show ((0 : Int) != 0) = false from rfl, L_api_ID (Sep.blk hs2.p1)]
  refine cal_i (rcFind_spec (k := k) (hs2.rc hr) hg hn) ?_
  rintro _ w3 ⟨rfl, hf3⟩
  have hs3 := hs2.old hf3
  unfold fndI
  cases hf : fnd (blks B) k with
  | none =>
    simp only [fx, Nat.reduceAdd, forall_const, show (decide ((-1 : Int) < 0)) = true from rfl]
    exact bad w3 4 hs3 (by unfold getE'; rw [if_neg (by decide), if_pos hf]) (by unfold getB'; rw [if_neg (by decide), hf])
  | some i =>
    obtain ⟨hi, b, hb, _⟩ := fnd_some hf
    have hi' : i < B.length := by simpa using hi
    obtain ⟨y, hy⟩ : ∃ y, B[i]? = some y := ⟨_, List.getElem?_eq_getElem hi'⟩
    have hy2 : (blks B)[i]? = some y.1 := by rw [List.getElem?_map, hy]; rfl
    have hg1 : getB' false (blks B) k = y.1 := by
      unfold getB'
      rw [if_neg (by decide), hf]
      show (blks B).getD i Blk.none = _
      rw [List.getD_eq_getElem?_getD, hy2]
      rfl
    have hg2 : getE' false (blks B) k = 0 := by unfold getE'; rw [if_neg (by decide), if_neg (by rw [hf]; simp)]
    obtain ⟨T, fr, hc⟩ := (hs3.rc hr).cell
    have hlt : (decide (((i : Nat) : Int) < 0)) = false := by simp
    simp only [fx, Nat.reduceAdd, forall_const, hlt, L_flurryref10_Chain hc, L_flurryref10_Chain__T hc, L_flurryref10_Chain__L hc, L_flurryref10_Chain__Off hc]
    refine BRows.ld (hs3.rc hr).bw hy .i64 ?_
    have hyr := (hs3.rc hr).bw.2 y (List.mem_of_getElem? hy)
    refine St_api_Block (b := (y.1.p, y.1.h, y.2)) hs3 (one_api_Block hyr.one) fun w5 hs5 => ?_
    simp only [L_api_Block hs5.blk, L_api_Block__Parent hs5.blk, L_api_Block__Height hs5.blk, L_api_Block__Data hs5.blk]
    refine hR _ _ ⟨y.2, by rw [hg1, hg2], ?_, hs5.fr0⟩
    rw [hg1]
    exact Kp.mem (List.mem_of_getElem? hy)
theorem rcAnc_spec {k : Vec 32} {n : Int} (hr : RcR w.heap g lv ut off B) (hg : goodB (blks B)) (hn : B.length ≤ 1000000) :
    cal P f_ref10_Chain_Ancestors [.pointer (some ⟨g, 0, none⟩), kv k, .int .i64 n] w fun r w' => ∃ (v : Value) (D : List BV), r = .tuple #[v, .int .i64 (ancE off (blks B) k n)] ∧ blks D = ancB off (blks B) k n ∧ BRows w'.heap v D ∧ Fr [] w w' := by
  refine s_ref10_Chain_Ancestors fun R hR => ?_
  unfold c_ref10_Chain_Ancestors
  refine bxQ (Sep.start w) fun g4 w1 hs1 => ?_
  refine cal_i (rcCan_spec (hs1.rc hr)) ?_
  rintro _ _ ⟨rfl, rfl⟩
  have none_rd : ∀ {z : World}, BRows z.heap (.slice none 0 0) [] := fun {z} => ⟨rowsNilC _ _, fun x hx => by cases hx⟩
  have bad : ∀ (z : World) (e : Int), Fr [] w z → e = ancE off (blks B) k n → e ≠ 0 → R (.tuple #[.slice none 0 0, .int .i64 e]) z := fun z e hz he h0 => by
    refine hR _ _ ⟨_, [], by rw [he], ?_, none_rd, hz⟩
    unfold ancB
    rw [if_pos (by rw [← he]; exact h0)]
    rfl
  cases off with
  | true =>
    rw [if_pos rfl]
    simp only [fx, Nat.reduceAdd, forall_const, show ((5 : Int) != 0) = true from rfl]
    exact bad w1 5 hs1.fr0 (by unfold ancE; rw [if_pos rfl]) (by decide)
  | false =>
  rw [if_neg (by decide)]
  simp only [fx, Nat.reduceAdd, forall_const, show ((0 : Int) != 0) = false from rfl]
  rw [cnd_bool]
  refine ⟨fun h => ?_, fun h => ?_⟩
  · have h : n < 1 ∨ 1024 < n := by simpa using h
    exact bad w1 1 hs1.fr0 (by unfold ancE; rw [if_neg (by decide), if_pos h]) (by decide)
  have hn1 : ¬ (n < 1 ∨ 1024 < n) := by simpa using h
  simp only [L_api_ID (Sep.blk hs1)]
  refine cal_i (rcFind_spec (k := k) (hs1.rc hr) hg hn) ?_
  rintro _ w2 ⟨rfl, hf2⟩
  have hs2 := hs1.old hf2
  unfold fndI
  cases hf : fnd (blks B) k with
  | none =>
    simp only [fx, Nat.reduceAdd, forall_const, show (decide ((-1 : Int) < 0)) = true from rfl]
    exact bad w2 4 hs2.fr0 (by unfold ancE; rw [if_neg (by decide), if_neg hn1, if_pos hf]) (by decide)
  | some i =>
  obtain ⟨hi, _⟩ := fnd_some hf
  have hi' : i < B.length := by simpa using hi
  have hE : ancE false (blks B) k n = 0 := by unfold ancE; rw [if_neg (by decide), if_neg hn1, if_neg (by rw [hf]; simp)]
  have hB : ancB false (blks B) k n = downs (blks B) i n.toNat := by unfold ancB; rw [if_neg (by rw [hE]; simp), hf]
  have hlt : (decide (((i : Nat) : Int) < 0)) = false := by simp
  simp only [fx, Nat.reduceAdd, forall_const, hlt]
  refine ⟨fun a b z => ∃ (m : Nat) (D : List BV), a = .int .i64 ((i : Int) - m) ∧ m ≤ i + 1 ∧ (m : Int) ≤ n ∧ D.length = m ∧ blks D = downs (blks B) i m ∧ (∀ q ∈ D, q ∈ B) ∧ Sep w z [rows Q_api_Block b (D.map BV.t)], fun a _ _ => (RowKit.intOf a + 1).toNat,
    ⟨0, [], by simp, by omega, by omega, rfl, rfl, (fun x hx => by cases hx), Sep.nilR (q := Q_api_Block) (Sep.start w |>.old hs2.fr0)⟩, ?_⟩
  rintro _ b z ⟨m, D, rfl, hmi, hmn, hDl, hD, hDB, hz⟩ -
  have hrw := Sep.rows hz
  have hrz := hz.rc hr
  have hlen : ∀ K, lenS b K = K (.int .i64 m) := fun K => by
    have := hrw.len K
    rwa [List.length_map, hDl] at this
  simp only [fx, Nat.reduceAdd, forall_const, hlen]
  rw [cnd_bool]
  refine ⟨fun h => ?_, fun h => ?_⟩
  · have h : (0 : Int) ≤ (i : Int) - m ∧ (m : Int) < n := by simpa using h
    obtain ⟨y, hy⟩ : ∃ y, B[i - m]? = some y := ⟨_, List.getElem?_eq_getElem (by omega)⟩
    have hy2 : (blks B)[i - m]? = some y.1 := by rw [List.getElem?_map, hy]; rfl
    have e1 : (i : Int) - m = ((i - m : Nat) : Int) := by omega
    rw [e1]
    obtain ⟨T, fr, hc⟩ := hrz.cell
    simp only [fx, Nat.reduceAdd, forall_const, L_flurryref10_Chain hc, L_flurryref10_Chain__T hc, L_flurryref10_Chain__L hc, L_flurryref10_Chain__Off hc]
    refine BRows.ld hrz.bw hy .i64 ?_
    refine cBldB (x := y) hz fun a z3 hz3 => ?_
    refine cAppB (x := y) (B := D) hz3.p1 (Sep.rows hz3) (hrz.bw.2 y (List.mem_of_getElem? hy)).one (by omega) fun u' z4 hz4 => ?_
    rw [wi64 (by omega) (by omega)]
    refine ⟨⟨m + 1, D ++ [y], by congr 1; omega, by omega, by omega, by simp [hDl], ?_, ?_, Sep.pick hz4 [0] 2⟩, by simp [RowKit.intOf] <;> omega⟩
    · rw [downs_snoc hi (by omega) hy2, ← hD]
      simp
    · intro q hq
      rcases List.mem_append.1 hq with hq | hq
      · exact hDB q hq
      · rw [List.mem_singleton.1 hq]; exact List.mem_of_getElem? hy
  · have h : (0 : Int) ≤ (i : Int) - m → n ≤ (m : Int) := by simpa using h
    refine hR _ _ ⟨b, D, by rw [hE], ?_, ⟨hrw, fun q hq => hrz.bw.2 q (hDB q hq)⟩, hz.fr0⟩
    rw [hB, hD]
    by_cases hc : m = i + 1
    · exact downs_all hi hc _ (by omega)
    · have : m = n.toNat := by have := h (by omega); omega
      rw [this]
theorem rt_one (hs : Sep w0 w (rt ut x :: As)) : ut.oneCell' = true := by
  rw [rt_open] at hs
  obtain ⟨g, s, ⟨rfl, _⟩, _⟩ := hs
  rfl
/-- What is in the document's tape: its bytes, and whether its power is off. -/
theorem rt_ld (hs : Sep w0 w (rt ut x :: As)) : ∃ (gt : Nat) (s : Value), ut = .pointer (some ⟨gt, 0, none⟩) ∧ (∀ K : Value → Prop, Go.Fx.ld1 (.pointer (some ⟨gt, 1, none⟩)) w.heap K = K (.bool x.off)) ∧
    (∀ K : Value → Prop, Go.Fx.ld1 (.pointer (some ⟨gt, 0, none⟩)) w.heap K = K s) ∧ RdB w.heap s x.b ∧ capOk s := by
  rw [rt_open] at hs
  obtain ⟨gt, s, ⟨rfl, hm⟩, hs⟩ := hs
  obtain ⟨a, c, rfl, hc⟩ := hs.p1.form
  refine ⟨gt, _, rfl, fun K => ?_, fun K => ?_, hs.p1.rd, fun a' n' c' he => ?_⟩
  · rw [ld1_eq hs.blk]; simp
  · rw [ld1_eq hs.blk]; simp
  · simp only [Value.slice.injEq] at he
    obtain ⟨_, rfl, rfl⟩ := he
    exact hc
theorem rt_made (hs : Sep w0 w (rt ut x :: As)) : x.made = true := by
  rw [rt_open] at hs
  obtain ⟨g, s, ⟨rfl, h⟩, _⟩ := hs
  exact h
theorem rcOpen_spec {b : Blk} {v : Value} (hs : Sep w0 w (rt ut x :: As)) (hx : x.Ok) (hb : ∀ z, Sep w0 z As → RdB z.heap v b.d) (hh : b.h ≤ maxI) :
    cal P f_ref10_Open [ut, bq b v] w fun r w' =>
      (x.off = true ∧ r = .tuple #[.pointer none, .int .i64 5] ∧ Sep w0 w' (rt ut x :: As)) ∨
      (x.off = false ∧ (b.chk ≠ 0 ∨ b.h ≠ 0) ∧ r = .tuple #[.pointer none, .int .i64 30] ∧ Sep w0 w' (rt ut x :: As)) ∨
      (x.off = false ∧ b.chk = 0 ∧ b.h = 0 ∧ ∃ g lv B E S, r = .tuple #[.pointer (some ⟨g, 0, none⟩), .int .i64 0] ∧ IsScan x.b S ∧ blks B = b :: linkT b S ∧ DatB B E ∧
        Sep w0 w' (rcA g lv ut false :: rows Q_api_Block lv (B.map BV.t) :: rt ut { x with b := layL (linkT b S) } :: (E ++ As))) := by
  refine s_ref10_Open fun R hR => ?_
  unfold c_ref10_Open
  have hp1 := rt_one hs
  have hm := rt_made hs
  obtain ⟨gt, sv, rfl, ld_off, ld_b, hsb, hcap⟩ := rt_ld hs
  refine bxQ hs fun g3 w1 hs1 => ?_
  obtain ⟨gt1, sv1, he1, ld_off1, _⟩ := rt_ld hs1.p1
  cases he1
  simp only [fx, Nat.reduceAdd, forall_const, ld_off1]
  cases hoff : x.off with
  | true =>
    simp only [fx, Nat.reduceAdd, forall_const]
    exact hR _ _ (.inl ⟨hoff, rfl, hs1.tail⟩)
  | false =>
  simp only [fx, Nat.reduceAdd, forall_const, L_api_Block hs1.blk, L_api_Block__Parent hs1.blk, L_api_Block__Height hs1.blk, L_api_Block__Data hs1.blk]
  refine cal_i (rCheck_spec (b := b) (v := v) (hb _ hs1.tail.tail)) ?_
  rintro _ w3 ⟨rfl, hf3⟩
  have hs3 := hs1.old hf3
  simp only [fx, Nat.reduceAdd, forall_const, L_api_Block hs3.blk, L_api_Block__Parent hs3.blk, L_api_Block__Height hs3.blk, L_api_Block__Data hs3.blk]
  rw [cnd_bool]
  refine ⟨fun h => ?_, fun h => ?_⟩
  · have h : b.chk ≠ 0 ∨ b.h ≠ 0 := by simpa using h
    exact hR _ _ (.inr (.inl ⟨hoff, h, rfl, hs3.tail⟩))
  have h : b.chk = 0 ∧ b.h = 0 := by simpa using h
  obtain ⟨hck, hh0⟩ := h
  have hdl := chk0_lenC hck
  refine cal_i (rbClone_spec (b := b) (v := v) (hb _ hs3.tail.tail) (by omega)) ?_
  rintro _ w4 ⟨vd, rfl, hs4⟩
  replace hs4 := hs3.join hs4
  refine cBldB (x := (b, vd)) hs4 fun lv0 w5 hs5 => ?_
  rw [B_flurryref10_Chain_0_1 hp1 (Sep.oneR hs5)]
  refine bxQ hs5 fun g w6 hs6 => ?_
  -- g 0 · lv0 1 · own 2 · b 3 · tape 4
  obtain ⟨gt6, sv6, he6, _, ld_b6, hsb6, hcap6⟩ := rt_ld (Sep.pick hs6 [4] 5)
  cases he6
  simp only [fx, Nat.reduceAdd, forall_const, ld_b6]
  have hxl := hx.1
  refine cal_i (rScan_spec hsb6 hcap6 (by omega)) ?_
  rintro _ w9 ⟨sx, SB, rfl, hsc, hs10⟩
  have hs11 : Sep w0 w9 (brow sx SB ++ (rcA g lv0 (.pointer (some ⟨gt, 0, none⟩)) false :: rows Q_api_Block lv0 [BV.t (b, vd)] :: ownB vd b.d :: blk g3 (Rdr.cells Q_api_Block (b.p, b.h, v)).toArray T_api_Block :: rt (.pointer (some ⟨gt, 0, none⟩)) x :: As)) := hs6.join hs10
  obtain ⟨S, hS⟩ : ∃ S, S = blks SB := ⟨_, rfl⟩
  replace hsc : IsScan x.b S := by rw [hS]; exact hsc
  obtain ⟨E0, hE0⟩ : ∃ E0, E0 = ownB vd b.d :: brow sx SB := ⟨_, rfl⟩
  obtain ⟨Z, hZ⟩ : ∃ Z, Z = rt (.pointer (some ⟨gt, 0, none⟩)) x :: (E0 ++ As) := ⟨_, rfl⟩
  have hs12 : Sep w0 w9 (rcA g lv0 (.pointer (some ⟨gt, 0, none⟩)) false :: rows Q_api_Block lv0 ([(b, vd)].map BV.t) :: Z) := by
    rw [hZ, hE0]
    have h1 : Sep w0 w9 ([rcA g lv0 (.pointer (some ⟨gt, 0, none⟩)) false, rows Q_api_Block lv0 [BV.t (b, vd)], ownB vd b.d, blk g3 (Rdr.cells Q_api_Block (b.p, b.h, v)).toArray T_api_Block, rt (.pointer (some ⟨gt, 0, none⟩)) x] ++ (brow sx SB ++ As)) := hs11.perm (List.perm_append_comm_assoc (brow sx SB) [rcA g lv0 (.pointer (some ⟨gt, 0, none⟩)) false, rows Q_api_Block lv0 [BV.t (b, vd)], ownB vd b.d, blk g3 (Rdr.cells Q_api_Block (b.p, b.h, v)).toArray T_api_Block, rt (.pointer (some ⟨gt, 0, none⟩)) x] As)
    exact Sep.pick h1 [0, 1, 4, 2] 5
  clear hs11 hs10 hs6 hs5 hs4
  have fB : ∀ {z : World} {Bs : List Asn}, Sep w0 z (Bs ++ Z) → BRows z.heap sx SB := fun {z Bs} hz => by
    have hz := hz.dropL
    rw [hZ, hE0] at hz
    exact brow_rd hz.tail.tail
  have hEm : ∀ A ∈ E0, A ∈ Z := fun A hA => by rw [hZ]; exact List.mem_cons_of_mem _ (List.mem_append_left _ hA)
  have hSBE : ∀ q ∈ SB, ownB q.2 q.1.d ∈ E0 := fun q hq => by
    rw [hE0]
    exact List.mem_cons_of_mem _ (List.mem_cons_of_mem _ (List.mem_map_of_mem (f := oV) hq))
  have hlS : S.length = SB.length := by rw [hS]; simp
  have hlay : ∀ i, (layL (S.take i)).length ≤ x.b.length := fun i => by
    obtain ⟨hg, t, ht, _⟩ := hsc
    have h1 : S = S.take i ++ S.drop i := (List.take_append_drop i S).symm
    have h2 : layL S = layL (S.take i) ++ layL (S.drop i) := by rw [← layL_append, List.take_append_drop]
    rw [ht, h2]
    simp only [List.length_append]
    omega
  have hSl : S.length ≤ 1000000 := by
    have h1 := layL_ge S
    have h2 := hsc.len
    omega
  simp only [fx, Nat.reduceAdd, forall_const]
  refine ⟨fun y z => ∃ (i : Nat) (lv : Value) (B : List BV), y = .int .i64 ((layL (S.take i)).length : Nat) ∧ linkT b S = S.take i ∧ blks B = b :: S.take i ∧ DatB B E0 ∧ Sep w0 z (rcA g lv (.pointer (some ⟨gt, 0, none⟩)) false :: rows Q_api_Block lv (B.map BV.t) :: Z), ?_, ?_⟩
  · refine ⟨fun y z' z => ∃ (i : Nat) (lv : Value) (B : List BV), y = .int .i64 ((layL (S.take i)).length : Nat) ∧ z' = .int .i64 i ∧ i ≤ SB.length ∧ linked b (S.take i) ∧ blks B = b :: S.take i ∧ DatB B E0 ∧ Sep w0 z (rcA g lv (.pointer (some ⟨gt, 0, none⟩)) false :: rows Q_api_Block lv (B.map BV.t) :: Z), fun _ y _ => (SB.length - RowKit.intOf y).toNat, ⟨0, lv0, [(b, vd)], rfl, rfl, by omega, trivial, rfl, (fun y hy => by rw [List.mem_singleton.1 hy, hE0]; exact List.mem_cons_self ..), hs12⟩, ?_⟩
    clear hs12
    rintro _ _ w10 ⟨i, lv, B, rfl, rfl, hi, hlk, hB, hD, hs10⟩ -
    have hl10 := (fB (Bs := [_, _]) hs10).len
    simp only [fx, Nat.reduceAdd, forall_const, hl10]
    rw [cnd_bool]
    refine ⟨fun h => ?_, fun h => ?_⟩
    case refine_2 =>
      have hge : i = S.length := by simp at h; omega
      refine ⟨i, lv, B, rfl, ?_, hB, hD, hs10⟩
      rw [hge, List.take_of_length_le (Nat.le_refl _)] at hlk ⊢
      exact linkT_self hlk
    have hlt : i < SB.length := by simp at h; omega
    obtain ⟨e, he⟩ : ∃ e, SB[i]? = some e := ⟨_, List.getElem?_eq_getElem hlt⟩
    have he' : (SB.map BV.t)[i]? = some e.t := by rw [List.getElem?_map, he]; rfl
    have heS : S[i]? = some e.1 := by rw [hS, List.getElem?_map, he]; rfl
    have hge := hsc.1 e.1 (List.mem_of_getElem? heS)
    obtain ⟨y0, hy0, hy1⟩ := lastOf hB
    have hy0' : (B.map BV.t)[B.length - 1]? = some y0.t := by rw [List.getElem?_map, hy0]; rfl
    have hBl : B.length = i + 1 := by
      have := congrArg List.length hB
      simp only [List.length_map, List.length_cons, List.length_take] at this
      omega
    have hrB : ∀ {z : World}, Sep w0 z (rcA g lv (.pointer (some ⟨gt, 0, none⟩)) false :: rows Q_api_Block lv (B.map BV.t) :: Z) → RcR z.heap g lv (.pointer (some ⟨gt, 0, none⟩)) false B := fun {z} hz => rcA_rd hz (hD.sub hEm)
    refine drH_S hs10 fun w13 hs13 _ => ?_
    change ixs 34 _ _ _
    refine rdS_rowC (q := Q_api_Block) (by decide) hs13 (fun u hu => (fB (Bs := [_, _]) hu).1) he' .i64 ?_
    refine rdS_ld (v := lv) (fun u hu K hk => (L_flurryref10_Chain__L (Sep.blk hu) K).mpr hk) ?_
    refine rdS_ld (v := lv) (fun u hu K hk => (L_flurryref10_Chain__L (Sep.blk hu) K).mpr hk) ?_
    rw [(hrB hs13).bw.len]
    simp only [fx, Nat.reduceAdd, forall_const]
    rw [wi64 (by omega) (by omega)]
    have e1 : (B.length : Int) - 1 = ((B.length - 1 : Nat) : Int) := by omega
    rw [e1]
    change ixs 34 _ _ _
    refine rdS_rowC (q := Q_api_Block) (by decide) hs13 (fun u hu => (hrB hu).bw.1) hy0' .i64 ?_
    have hyh : y0.1.h ≤ maxI := by
      have hm : y0.1 ∈ blks B := List.mem_map_of_mem (List.mem_of_getElem? hy0)
      rw [hB] at hm
      rcases List.mem_cons.1 hm with h | h
      · rw [h]; exact hh
      · exact (hsc.1 _ (List.mem_of_mem_take h)).2
    refine efC_cal (cal_i (rbLinked_spec (a := e.1) (b := y0.1) (u := e.2) (v := y0.2) ((fB (Bs := [_, _]) hs13).2 e (List.mem_of_getElem? he)) ((hrB hs13).bw.2 y0 (List.mem_of_getElem? hy0)) hyh hge.2) ?_)
    rintro _ w15 ⟨rfl, hf15⟩
    have hs15 := hs13.old hf15
    simp only [fx, Nat.reduceAdd, forall_const]
    rw [cnd_bool, hy1]
    refine ⟨fun h => ?_, fun h => ?_⟩
    · have h : e.1.link (lastB b (S.take i)) ≠ 0 := by simpa using h
      exact ⟨i, lv, B, rfl, linkT_take hlk heS h, hB, hD, hs15⟩
    have h : e.1.link (lastB b (S.take i)) = 0 := by simpa using h
    have hE1 : (e.2).oneCell' = true := ((fB (Bs := [_, _]) hs15).2 e (List.mem_of_getElem? he)).one
    refine drH_PH' (S := fun u => Sep w0 u (rcA g lv (.pointer (some ⟨gt, 0, none⟩)) false :: Z)) hs15 (fun u hu => Sep.pick hu [0] 2) fun w16 hs16 _ => ?_
    refine rdS_ld (v := lv) (fun u hu K hk => (L_flurryref10_Chain__L (Sep.blk hu) K).mpr hk) ?_
    change ixs 34 _ _ _
    refine rdS_rowC (q := Q_api_Block) (by decide) (S := fun u => Sep w0 u (rcA g lv (.pointer (some ⟨gt, 0, none⟩)) false :: Z)) (Sep.pick hs16 [0] 2) (fun u hu => (fB (Bs := [_]) hu).1) he' .i64 ?_
    refine efS_i (cBldB (x := e) hs16 fun a w17 hs17 => ⟨Sep.pick hs17 [1] 3, ?_⟩)
    refine efC_efP (cAppB (x := e) (B := B) (Sep.pick hs17 [2, 0, 1] 3) (Sep.rows hs17) hE1 (by omega) fun u' w18 hs18 => ?_)
    refine efC_st1 (St_flurryref10_Chain__L (Sep.pick hs18 [2, 0] 3) (Sep.oneR hs18) fun w19 hs19 => ?_)
    have hsx19 := fB (Bs := [_, _]) hs19
    change ixs 34 _ _ _
    refine BRows.ld hsx19 he .i64 ?_
    refine cal_i (rRecSize_spec (b := e.1) (v := e.2) (hsx19.2 e (List.mem_of_getElem? he)) hge.2) ?_
    rintro _ w20 ⟨rfl, hf20⟩
    have hs20 := hs19.old hf20
    have hro : e.1.recO = e.1.rcd := if_pos hge.1
    have hll := hlay (i + 1)
    rw [layL_tk heS, List.length_append] at hll
    simp only [fx, Nat.reduceAdd, forall_const, hro]
    rw [wi64 (by omega) (by omega), wi64 (by omega) (by omega)]
    refine ⟨⟨i + 1, u', B ++ [e], ?_, by simp, by omega, ?_, ?_, ?_, hs20⟩, by simp [RowKit.intOf] <;> omega⟩
    · rw [layL_tk heS, List.length_append, Int.natCast_add]
    · rw [List.take_add_one, heS]
      exact linked_snoc hlk h
    · unfold blks at hB ⊢
      rw [List.take_add_one, heS, List.map_append, hB]
      rfl
    · intro q hq
      rcases List.mem_append.1 hq with hq | hq
      · exact hD q hq
      · rw [List.mem_singleton.1 hq]; exact hSBE e (List.mem_of_getElem? he)
  clear hs12
  rintro _ w10 ⟨i, lv, B, rfl, hlT, hB, hD, hs10⟩ _
  have hend := hlay i
  rw [hZ] at hs10
  have hfin : x.b.take (layL (S.take i)).length = layL (linkT b S) := by
    obtain ⟨hg, t, ht, _⟩ := hsc
    have h1 : S = S.take i ++ S.drop i := (List.take_append_drop i S).symm
    have h2 : layL S = layL (S.take i) ++ layL (S.drop i) := by rw [← layL_append, List.take_append_drop]
    rw [ht, h2, List.append_assoc, List.take_left, hlT]
  obtain ⟨gt7, sv7, he7, _, ld_b7, hsb7, _⟩ := rt_ld (Sep.pick hs10 [2] 3)
  cases he7
  have out : ∀ z, Sep w0 z (rt (.pointer (some ⟨gt, 0, none⟩)) { x with b := layL (linkT b S) } :: rcA g lv (.pointer (some ⟨gt, 0, none⟩)) false :: rows Q_api_Block lv (B.map BV.t) :: (E0 ++ As)) → R (.tuple #[.pointer (some ⟨g, 0, none⟩), .int .i64 0]) z := fun z hz => by
    refine hR _ _ (.inr (.inr ⟨hoff, hck, hh0, g, lv, B, E0, S, rfl, hsc, by rw [hlT]; exact hB, hD, ?_⟩))
    exact Sep.pick hz [1, 2, 0] 3
  simp only [fx, Nat.reduceAdd, forall_const, ld_b7, hsb7.len]
  rw [cnd_bool]
  refine ⟨fun h => ?_, fun h => ?_⟩
  · refine cal_i (rTruncate_spec (n := ((layL (S.take i)).length : Nat)) (Sep.pick hs10 [2, 0, 1] 3) hx) ?_
    have hmay : x.may = 0 := by unfold Tp.may; rw [hm, hoff]; rfl
    have ht : x.truncate ((layL (S.take i)).length : Nat) = ({ x with b := layL (linkT b S) }, 0) := by
      unfold Tp.truncate
      rw [if_neg (by simp [hmay]), if_neg (by omega), Int.toNat_natCast, hfin]
    rw [ht]
    rintro _ w11 ⟨rfl, hs12⟩
    exact out w11 hs12
  · refine out _ ?_
    have hge : x.b.length ≤ (layL (S.take i)).length := by simp at h; omega
    rw [List.take_of_length_le hge] at hfin
    rw [← hfin]
    exact Sep.pick hs10 [2, 0, 1] 3
theorem app1r_spec {s a : Value} {l : List UInt8} {Bs : List Asn} (hs : Sep w0 w (rt ut x :: own a 1 1 [s] :: ownB s l :: Bs)) (hx : x.Ok) (hl : l.length ≤ 1000000) :
    cal P f_ref08_Tape_Append [ut, a] w fun v w' => v = .int .i64 (x.append l).2 ∧ Sep w0 w' (rt ut (x.append l).1 :: own a 1 1 [s] :: ownB s l :: Bs) := by
  refine cal_i (rAppend_spec (s := ⟨a, [⟨s, l⟩]⟩) hs hx fun w' h => ?_) ?_
  · refine ok_of_own h.cel h.capN (by simp) fun b hb => ?_
    simp at hb
    rw [hb]
    exact h.p1.rb (by simpa using (by omega : l.length ≤ 9223372036854775807))
  have hj : joined [⟨s, l⟩] = l := by simp [joined]
  simp only [hj]
  rintro _ w1 ⟨rfl, hs1⟩
  exact ⟨rfl, hs1⟩
theorem rcAccept_spec {b : Blk} {v : Value} {y : BV} (hs : Sep w0 w (rcA g lv ut over :: rows Q_api_Block lv (B.map BV.t) :: rt ut x :: As)) (hx : x.Ok) (hb : ∀ z, Sep w0 z As → RdB z.heap v b.d) (hD : DatB B As)
    (hh : b.h ≤ maxI) (hy : B[B.length - 1]? = some y) (hyh : y.1.h ≤ maxI) (hn : B.length ≤ 1000000) :
    cal P f_ref10_Chain_Accept [.pointer (some ⟨g, 0, none⟩), bq b v] w fun r w' =>
      ((over = true ∨ x.off = true) ∧ r = .int .i64 5 ∧ Sep w0 w' (rcA g lv ut over :: rows Q_api_Block lv (B.map BV.t) :: rt ut x :: As)) ∨
      (over = false ∧ x.off = false ∧ b.link y.1 ≠ 0 ∧ r = .int .i64 (b.link y.1) ∧ Sep w0 w' (rcA g lv ut over :: rows Q_api_Block lv (B.map BV.t) :: rt ut x :: As)) ∨
      (over = false ∧ x.off = false ∧ b.link y.1 = 0 ∧ (x.append b.rcd).2 = 0 ∧ r = .int .i64 0 ∧ ∃ lv' vd, Sep w0 w' (rcA g lv' ut false :: rows Q_api_Block lv' ((B ++ [(b, vd)]).map BV.t) :: rt ut (x.append b.rcd).1 :: ownB vd b.d :: As)) ∨
      (over = false ∧ x.off = false ∧ b.link y.1 = 0 ∧ (x.append b.rcd).2 ≠ 0 ∧ r = .int .i64 (x.append b.rcd).2 ∧ Sep w0 w' (rcA g lv ut ((x.append b.rcd).2 == 5) :: rows Q_api_Block lv (B.map BV.t) :: rt ut (x.append b.rcd).1 :: As)) := by
  refine s_ref10_Chain_Accept fun R hR => ?_
  unfold c_ref10_Chain_Accept
  have hrC : ∀ {z : World} {Bs : List Asn}, Sep w0 z (Bs ++ (rcA g lv ut over :: rows Q_api_Block lv (B.map BV.t) :: rt ut x :: As)) → RcR z.heap g lv ut over B := fun {z Bs} hz => rcA_rd hz.dropL (hD.sub fun A hA => List.mem_cons_of_mem _ hA)
  refine bxQ hs fun g3 w1 hs1 => ?_
  -- b 0 · c 1 · rows 2 · tape 3
  obtain ⟨gt, sv, rfl, ld_off, _⟩ := rt_ld (Sep.pick hs1 [3] 4)
  simp only [fx, Nat.reduceAdd, forall_const, L_flurryref10_Chain (Sep.blk hs1.p1), L_flurryref10_Chain__T (Sep.blk hs1.p1), L_flurryref10_Chain__L (Sep.blk hs1.p1), L_flurryref10_Chain__Off (Sep.blk hs1.p1)]
  cases over with
  | true =>
    simp only [fx, Nat.reduceAdd, forall_const]
    exact hR _ _ (.inl ⟨.inl rfl, rfl, hs1.tail⟩)
  | false =>
  simp only [fx, Nat.reduceAdd, forall_const, ld_off]
  cases hoff : x.off with
  | true =>
    simp only [fx, Nat.reduceAdd, forall_const]
    exact hR _ _ (.inl ⟨.inr hoff, rfl, hs1.tail⟩)
  | false =>
  simp only [fx, Nat.reduceAdd, forall_const]
  have hpos : 0 < B.length := by
    have := (List.getElem?_eq_some_iff.1 hy).1
    omega
  have hy' : (B.map BV.t)[B.length - 1]? = some y.t := by rw [List.getElem?_map, hy]; rfl
  refine drH_S hs1 fun w2 hs2 _ => ?_
  refine ⟨bq b v, fun u hu => (L_api_Block (Sep.blk hu) _).mpr rfl, ?_⟩
  refine rdS_ld (v := lv) (fun u hu K hk => (L_flurryref10_Chain__L (Sep.blk hu.tail) K).mpr hk) ?_
  refine rdS_ld (v := lv) (fun u hu K hk => (L_flurryref10_Chain__L (Sep.blk hu.tail) K).mpr hk) ?_
  rw [(hrC (Bs := [_]) hs2).bw.len]
  simp only [fx, Nat.reduceAdd, forall_const]
  rw [wi64 (by omega) (by omega)]
  have e1 : (B.length : Int) - 1 = ((B.length - 1 : Nat) : Int) := by omega
  rw [e1]
  change ixs 34 _ _ _
  refine rdS_rowC (q := Q_api_Block) (by decide) hs2 (fun u hu => (hrC (Bs := [_]) hu).bw.1) hy' .i64 ?_
  refine efC_cal (cal_i (rbLinked_spec (a := b) (b := y.1) (u := v) (v := y.2) (hb _ (Sep.pick hs2 [] 4)) ((hrC (Bs := [_]) hs2).bw.2 y (List.mem_of_getElem? hy)) hyh hh) ?_)
  rintro _ w4 ⟨rfl, hf4⟩
  have hs4 := hs2.old hf4
  clear hs1 hs2
  simp only [fx, Nat.reduceAdd, forall_const]
  rw [cnd_bool]
  refine ⟨fun h => ?_, fun h => ?_⟩
  · have h : b.link y.1 ≠ 0 := by simpa using h
    exact hR _ _ (.inr (.inl ⟨rfl, hoff, h, rfl, hs4.tail⟩))
  have hl0 : b.link y.1 = 0 := by simpa using h
  have hck := (link_chk hl0).1
  have hro : b.recO = b.rcd := if_pos hck
  have hdl := chk0_lenC hck
  simp only [L_api_Block hs4.blk, L_api_Block__Parent hs4.blk, L_api_Block__Height hs4.blk, L_api_Block__Data hs4.blk]
  refine cal_i (rRecBytes_spec (b := b) (v := v) (hb _ (Sep.pick hs4 [] 4)) hh) ?_
  rintro _ w5 ⟨s, rfl, hs5⟩
  replace hs5 := hs4.join hs5
  rw [hro] at hs5
  rw [hck]
  -- rec 0 · b 1 · c 2 · rows 3 · tape 4
  have hrl : b.rcd.length ≤ 1000000 := by
    have := Blk.recO_le b
    rw [hro] at this
    omega
  simp only [fx, Nat.reduceAdd, forall_const, show ((0 : Int) != 0) = false from rfl, L_flurryref10_Chain (Sep.blk (Sep.pick hs5 [2] 3)), L_flurryref10_Chain__T (Sep.blk (Sep.pick hs5 [2] 3)), L_flurryref10_Chain__L (Sep.blk (Sep.pick hs5 [2] 3)), L_flurryref10_Chain__Off (Sep.blk (Sep.pick hs5 [2] 3))]
  refine bldS1 hs5 hrl fun a w6 hs6 => ?_
  refine cal_i (app1r_spec (Sep.pick hs6 [5, 0, 1, 2, 3, 4] 6) hx hrl) ?_
  rintro _ w7 ⟨rfl, hs7⟩
  -- tape 0 · a 1 · rec 2 · b 3 · c 4 · rows 5
  simp only [fx, Nat.reduceAdd, forall_const]
  rw [cnd_bool]
  refine ⟨fun h => ?_, fun h => ?_⟩
  · have h : (x.append b.rcd).2 ≠ 0 := by simpa using h
    refine St_flurryref10_Chain__Off (Sep.pick hs7 [4, 5, 0] 6) fun w8 hs8 => ?_
    exact hR _ _ (.inr (.inr (.inr ⟨rfl, hoff, hl0, h, rfl, hs8⟩)))
  have h : (x.append b.rcd).2 = 0 := by simpa using h
  have hs8 := Sep.pick hs7 [3, 4, 0, 5] 6
  -- b 0 · c 1 · tape 2 · rows 3
  refine drH_PH' (S := fun u => Sep w0 u (blk g3 (Rdr.cells Q_api_Block (b.p, b.h, v)).toArray T_api_Block :: rcA g lv (.pointer (some ⟨gt, 0, none⟩)) false :: As)) hs8 (fun u hu => Sep.pick hu [0, 1] 4) fun w9 hs9 _ => ?_
  refine rdS_ld (v := lv) (fun u hu K hk => (L_flurryref10_Chain__L (Sep.blk hu.tail) K).mpr hk) ?_
  refine ⟨bq b v, fun u hu => (L_api_Block (Sep.blk hu) _).mpr rfl, ?_⟩
  refine efS_i (cal_i (rbClone_spec (b := b) (v := v) (hb _ (Sep.pick hs9 [] 4)) (by omega)) ?_)
  rintro _ w10 ⟨vd, rfl, hs10⟩
  replace hs10 := hs9.join hs10
  refine ⟨Sep.pick hs10 [1, 2] 5, ?_⟩
  -- own 0 · b 1 · c 2 · tape 3 · rows 4
  refine efS_i (cBldB (x := (b, vd)) hs10 fun a2 w11 hs11 => ⟨Sep.pick hs11 [2, 3] 6, ?_⟩)
  refine efC_efP (cAppB (x := (b, vd)) (B := B) (Sep.pick hs11 [5, 0, 1, 2, 3, 4] 6) (Sep.rows hs11) (Sep.one hs11.p1) hn fun u' w12 hs12 => ?_)
  -- rows 0 · lit 1 · own 2 · b 3 · c 4 · tape 5
  refine efC_st1 (St_flurryref10_Chain__L (Sep.pick hs12 [4, 0, 5, 2] 6) (Sep.oneR hs12) fun w13 hs13 => ?_)
  exact hR _ _ (.inr (.inr (.inl ⟨rfl, hoff, hl0, h, rfl, u', vd, hs13⟩)))
end
end Go.Fx
set_option linter.unusedVariables false
set_option linter.unusedSimpArgs false
namespace Go.Fx
section
variable {w0 w w' : World} {As : List Asn}
theorem linkT_good {S : List Blk} (h : goodB S) : goodB (linkT genB S) := fun b hb => by
  obtain ⟨t, ht⟩ := linkT_pre genB S
  exact h b (by rw [ht]; exact List.mem_append_left _ hb)
theorem linkT_lay {S : List Blk} : ∃ t, layL S = layL (linkT genB S) ++ t := by
  obtain ⟨t, ht⟩ := linkT_pre genB S
  exact ⟨layL t, by conv => lhs; rw [ht]
                    rw [layL_append]⟩
end
end Go.Fx
set_option linter.unusedVariables false
set_option linter.unusedSimpArgs false
namespace Go.Fx
theorem fnd_has (L : List Blk) (k : Vec 32) : ∀ n, n ≤ L.length → (∃ i b, i < n ∧ L[i]? = some b ∧ b.id = k) → (fnd (L.take n) k).isSome = true
  | 0, _, ⟨i, b, h, _⟩ => by omega
  | n + 1, hn, ⟨i, b, hi, hb, hk⟩ => by
    obtain ⟨c, hc⟩ : ∃ c, L[n]? = some c := ⟨_, List.getElem?_eq_getElem (by omega)⟩
    rw [fnd_step hc]
    by_cases h : k = c.id
    · rw [if_pos h]; rfl
    · rw [if_neg h]
      refine fnd_has L k n (by omega) ⟨i, b, ?_, hb, hk⟩
      by_cases hin : i = n
      · subst hin
        rw [hb] at hc
        cases hc
        exact absurd hk.symm h
      · omega
theorem fnd_mem {L : List Blk} {i : Nat} {b : Blk} (h : L[i]? = some b) : (fnd L b.id).isSome = true := by
  have := fnd_has L b.id L.length (Nat.le_refl _) ⟨i, b, (List.getElem?_eq_some_iff.1 h).1, h, rfl⟩
  rwa [List.take_length] at this
section
variable {w0 w w' : World} {As : List Asn} {g gi gm : Nat} {lv iv m pt ut : Value} {over off : Bool} {B : List BV} {x : Tp}
theorem alike10_spec {g2 : Nat} {lv2 : Value} {B2 : List BV} (hr : ChR w.heap g gi lv iv (.map (some gm)) pt over B) (hm : MpR w.heap gm (atF (blks B))) (hq : RcR w.heap g2 lv2 ut off B2) (hBB : blks B2 = blks B) (hg : goodB (blks B)) (h0 : 0 < B.length) (hn : B.length ≤ 1000000) :
    cal P f_law10_alike [.pointer (some ⟨g, 0, none⟩), .pointer (some ⟨g2, 0, none⟩)] w fun r w' => r = .bool true ∧ Fr [] w w' := by
  refine s_law10_alike fun R hR => ?_
  unfold c_law10_alike
  have hln : B2.length = B.length := by have := congrArg List.length hBB; simpa using this
  have hdl : ∀ x ∈ B, x.1.d.length ≤ 100000 := fun x hx => by
    have := chk0_lenC (hg x.1 (List.mem_map_of_mem hx)).1
    omega
  obtain ⟨⟨yb, yv⟩, hy⟩ : ∃ y, B[B.length - 1]? = some y := ⟨_, List.getElem?_eq_getElem (by omega)⟩
  obtain ⟨⟨yb2, yv2⟩, hy2⟩ : ∃ y2, B2[B2.length - 1]? = some y2 := ⟨_, List.getElem?_eq_getElem (by omega)⟩
  obtain rfl : yb2 = yb := by
    have h1 : (blks B2)[B2.length - 1]? = some yb2 := by rw [List.getElem?_map, hy2]; rfl
    have h2 : (blks B)[B.length - 1]? = some yb := by rw [List.getElem?_map, hy]; rfl
    rw [hBB, hln, h2] at h1
    exact (Option.some.inj h1).symm
  have hgy := hg yb2 (by
    have h2 : (blks B)[B.length - 1]? = some yb2 := by rw [List.getElem?_map, hy]; rfl
    exact List.mem_of_getElem? h2)
  have hy2' : (B2.map BV.t)[B2.length - 1]? = some (BV.t (yb2, yv2)) := by rw [List.getElem?_map, hy2]; rfl
  refine cal_i (cLastId_spec hr hy hn) ?_
  rintro _ w1 ⟨rfl, hf1⟩
  have hs1 := (Sep.start w).old hf1
  simp only [fx, Nat.reduceAdd, forall_const]
  refine alloc_s hs1 (A_api_ID w1) fun g5 w2 hs2 => ?_
  refine St_api_ID (b := yb2.id) hs2 fun w3 hs3 => ?_
  refine cal_i (rcLast_spec (hs3.rc hq) hy2 (by omega) hgy.1 hgy.2) ?_
  rintro _ w4 ⟨rfl, hf4⟩
  have hs4 := hs3.old hf4
  simp only [fx, Nat.reduceAdd, forall_const]
  refine alloc_s hs4 (A_api_ID w4) fun g7 w5 hs5 => ?_
  refine St_api_ID (b := yb2.id) hs5 fun w6 hs6 => ?_
  refine cal_i (told10_spec (most := 1048576) (hs6.ch hr) hn hdl (by omega)) ?_
  rintro r w7 ⟨N, EN, hN, hDN, hs7⟩
  replace hs7 := hs6.join hs7
  rw [List.take_of_length_le (by simp; omega)] at hN
  have hNl : N.length = B.length := by have := congrArg List.length hN; simpa using this
  obtain ⟨L7, hL7⟩ : ∃ L7, L7 = (rows Q_flurrylaw10_named r (N.map nmd) :: EN) ++ [blk g7 (Rdr.cells (rVec 32) yb2.id).toArray T_api_ID, blk g5 (Rdr.cells (rVec 32) yb2.id).toArray T_api_ID] := ⟨_, rfl⟩
  replace hs7 : Sep w w7 L7 := by rw [hL7]; exact hs7
  have rdL : ∀ {u : World} {Bs : List Asn}, Sep w u (Bs ++ L7) → Rows' Q_flurrylaw10_named u.heap r (N.map nmd) ∧ (∀ p ∈ N, RdB u.heap p.2 p.1.d) ∧ u.heap[g7]? = some (.cells (Rdr.cells (rVec 32) yb2.id).toArray T_api_ID (0, 0)) ∧ u.heap[g5]? = some (.cells (Rdr.cells (rVec 32) yb2.id).toArray T_api_ID (0, 0)) := fun {u Bs} hu => by
    have h1 := hu.dropL
    rw [hL7] at h1
    exact ⟨Sep.rows h1, datRd (As := [_]) hDN h1, Sep.blk h1.dropL, Sep.blk h1.dropL.tail⟩
  have hl1 : ∀ K, lenS r K = K (.int .i64 N.length) := fun K => by
    have := (rdL (Bs := []) hs7).1.len K
    rwa [List.length_map] at this
  have ldL : ∀ {u : World} {Bs : List Asn}, Sep w u Bs → ∀ K : Value → Prop, K lv2 → ld1 (.pointer (some ⟨g2, 1, none⟩)) u.heap K := fun {u Bs} hu K hk => by
    obtain ⟨T, fr, hc⟩ := (hu.rc hq).cell
    exact (L_flurryref10_Chain__L hc K).mpr hk
  have hl2 : ∀ K, lenS lv2 K = K (.int .i64 B2.length) := fun K => hq.bw.len K
  refine drH_S (As := L7) hs7 fun w8 hs8 _ => ?_
  refine ⟨kv yb2.id, fun u hu => (L_api_ID (rdL (Bs := []) hu).2.2.2 _).mpr rfl, ?_⟩
  refine ⟨kv yb2.id, fun u hu => (L_api_ID (rdL (Bs := []) hu).2.2.1 _).mpr rfl, ?_⟩
  refine ⟨.bool false, fun u hu => by rw [ne_api_ID, decide_eq_true rfl]; rfl, ?_⟩
  simp only [fx, Nat.reduceAdd, forall_const, show (yb2.h != yb2.h) = false by simp]
  refine jn1_dup ?_
  rw [hl1]
  simp only [fx, Nat.reduceAdd, forall_const]
  refine rdS_ld (v := lv2) (fun u hu K hk => ldL hu K hk) ?_
  rw [hl2]
  simp only [fx, Nat.reduceAdd, forall_const, show ((N.length : Int) != (B2.length : Int)) = false by rw [hNl, hln]; simp]
  refine jn1_dup ?_
  refine rdS_ld (v := lv2) (fun u hu K hk => ldL hu K hk) ?_
  rw [hl2]
  refine ⟨.int .i64 1, fun u _ => by rw [min_i64, if_neg (by omega)], ?_⟩
  refine efS_i (cal_i (told10_spec (most := 1) (hs8.ch hr) hn hdl (by omega)) ?_)
  rintro r2 w9 ⟨N2, EN2, hN2, hDN2, hs9⟩
  have hN2l : N2.length = 1 := by
    have := congrArg List.length hN2
    simp only [List.length_map, List.length_take] at this
    omega
  have hl3 : ∀ K, lenS r2 K = K (.int .i64 N2.length) := fun K => by
    have := (Sep.rows hs9).len K
    rwa [List.length_map] at this
  replace hs9 := (hs8.join hs9).dropL
  refine ⟨hs9, ?_⟩
  rw [hl3]
  simp only [fx, Nat.reduceAdd, forall_const, hN2l, show (((1 : Nat) : Int) != 1) = false from rfl]
  refine jn1_dup ?_
  refine rdS_ld (v := lv2) (fun u hu K hk => ldL hu K hk) ?_
  refine rdS_ld (v := lv2) (fun u hu K hk => ldL hu K hk) ?_
  rw [hl2]
  simp only [fx, Nat.reduceAdd, forall_const]
  rw [wi64 (by omega) (by omega)]
  have e1 : (B2.length : Int) - 1 = ((B2.length - 1 : Nat) : Int) := by omega
  rw [e1]
  change ixs 34 _ _ _
  refine rdS_rowC (q := Q_api_Block) (by decide) hs9 (fun u hu => (hu.rc hq).bw.1) hy2' .i64 ?_
  refine efS_i (cal_i (cBlock_spec (hs9.ch hr) hy hn hdl) ?_)
  rintro _ w10 ⟨vd, rfl, hs10⟩
  replace hs10 := hs9.join hs10
  refine ⟨hs10.tail, ?_⟩
  refine efS_i (cal_i (rSame_spec (a := yb2) (b := yb2) (v := yv2) (Sep.rd hs10) ((hs10.rc hq).bw.2 (yb2, yv2) (List.mem_of_getElem? hy2))) ?_)
  rintro _ w11 ⟨rfl, hf11⟩
  have hs11 := (hs10.old hf11).tail
  refine ⟨hs11, ?_⟩
  rw [decide_eq_true rfl]
  simp only [fx, Nat.reduceAdd, forall_const]
  obtain ⟨T, fr, hc⟩ := (hs11.rc hq).cell
  simp only [fx, Nat.reduceAdd, forall_const, L_flurryref10_Chain hc, L_flurryref10_Chain__T hc, L_flurryref10_Chain__L hc, L_flurryref10_Chain__Off hc, hl2]
  refine ⟨fun t z => ∃ i : Nat, t = .int .i64 i ∧ i ≤ B2.length ∧ Sep w z L7, fun t _ => (B2.length - RowKit.intOf t).toNat, ⟨0, rfl, by omega, hs11⟩, ?_⟩
  clear hs11 hs10 hs9 hs8 hs7
  rintro _ z ⟨i, rfl, hi, hz⟩ -
  simp only [fx, Nat.reduceAdd, forall_const]
  rw [cnd_bool]
  refine ⟨fun h => ?_, fun h => hR _ _ ⟨rfl, hz.fr0⟩⟩
  have hlt : i < B2.length := by simp at h; omega
  obtain ⟨⟨eb, ev⟩, he⟩ : ∃ e, B2[i]? = some e := ⟨_, List.getElem?_eq_getElem hlt⟩
  have he2 : (blks B)[i]? = some eb := by rw [← hBB, List.getElem?_map, he]; rfl
  obtain ⟨⟨nb, nv⟩, hp⟩ : ∃ p, N[i]? = some p := ⟨_, List.getElem?_eq_getElem (by omega)⟩
  obtain rfl : nb = eb := by
    have h1 : (blks N)[i]? = some nb := by rw [List.getElem?_map, hp]; rfl
    rw [hN, he2] at h1
    exact (Option.some.inj h1).symm
  have hge := hg nb (List.mem_of_getElem? he2)
  have heR : ∀ {u : World} {Bs : List Asn}, Sep w u Bs → RdB u.heap ev nb.d := fun hu => (hu.rc hq).bw.2 (nb, ev) (List.mem_of_getElem? he)
  refine BRows.ld (hz.rc hq).bw he .i64 ?_
  refine alloc_s hz (A_api_Block z) fun g11 z1 hz1 => ?_
  refine St_api_Block (b := (nb.p, nb.h, ev)) hz1 (one_api_Block (heR hz1).one) fun z2 hz2 => ?_
  simp only [L_api_Block hz2.blk, L_api_Block__Parent hz2.blk, L_api_Block__Height hz2.blk, L_api_Block__Data hz2.blk]
  refine cal_i (rbID_spec (b := nb) (v := ev) (heR hz2) hge.2) ?_
  rintro _ z3 ⟨rfl, hf3⟩
  have hz3 := hz2.old hf3
  have hnm : nb.name = nb.id := if_pos hge.1
  rw [hnm]
  simp only [fx, Nat.reduceAdd, forall_const]
  refine alloc_s hz3 (A_api_ID z3) fun g12 z4 hz4 => ?_
  refine St_api_ID (b := nb.id) hz4 fun z5 hz5 => ?_
  refine drH_S hz5 fun z6 hz6 _ => ?_
  change ixs 66 _ _ _
  refine rdS_nmI hz6 (fun u hu => (rdL (Bs := [_, _]) hu).1) hp .i64 ?_
  refine ⟨kv nb.id, fun u hu => (L_api_ID (Sep.blk hu) _).mpr rfl, ?_⟩
  refine ⟨.bool false, fun u hu => by rw [ne_api_ID, decide_eq_true rfl]; rfl, ?_⟩
  simp only [fx, Nat.reduceAdd, forall_const]
  refine jn1_dup ?_
  change ixs 66 _ _ _
  refine rdS_nmB hz6 (fun u hu => (rdL (Bs := [_, _]) hu).1) hp .i64 ?_
  refine ⟨bq nb ev, fun u hu => (L_api_Block (Sep.blk hu.tail) _).mpr rfl, ?_⟩
  refine efS_i (cal_i (rSame_spec (a := nb) (b := nb) (u := nv) (v := ev) ((rdL (Bs := [_, _]) hz6).2.1 (nb, nv) (List.mem_of_getElem? hp)) (heR hz6)) ?_)
  rintro _ z7 ⟨rfl, hf7⟩
  have hz7 := hz6.old hf7
  refine ⟨hz7, ?_⟩
  rw [decide_eq_true rfl]
  simp only [fx, Nat.reduceAdd, forall_const]
  refine jn1_dup ?_
  refine ⟨kv nb.id, fun u hu => (L_api_ID (Sep.blk hu) _).mpr rfl, ?_⟩
  refine efS_i (cal_i (cHas_spec (k := nb.id) (hz7.ch hr) (hm.fr hz7.fr0)) ?_)
  rintro _ z8 ⟨rfl, hf8⟩
  have hz8 := hz7.old hf8
  refine ⟨hz8, ?_⟩
  rw [fnd_mem he2]
  simp only [fx, Nat.reduceAdd, forall_const]
  rw [wi64 (by omega) (by omega)]
  exact ⟨⟨i + 1, by simp, by omega, hz8.tail.tail⟩, by simp [RowKit.intOf] <;> omega⟩
theorem flip_loopC {p d : Value} {l : List UInt8} {Kend : World → Prop} (hs : Sep w0 w (ownB d l :: As)) (hp : ∀ z l', Sep w0 z (ownB d l' :: As) → ∀ K : Value → Prop, K d → ld1 p z.heap K) (hl : l.length ≤ 9223372036854775806) (h : ∀ w', Sep w0 w' (ownB d (flip l l.length) :: As) → Kend w') :
    lp1 (Value.int IntKind.i64 0) w fun _ t89 w again7 => bi BinOp.lss t89 (.int .i64 l.length) fun t90 =>
      cnd t90 (ld1 p w.heap fun t92 => ixs 1 t92 t89 fun t94 => ld1 t94 w.heap fun t95 => bi BinOp.xor t95 (Value.int IntKind.u8 255) fun t96 => ixs 1 t92 t89 fun t97 => st1 t97 t96 w fun w => bi BinOp.add t89 (Value.int IntKind.i64 1) fun t98 => again7 t98 w) (Kend w) := by
  refine ⟨fun x w' => ∃ i : Nat, x = .int .i64 i ∧ i ≤ l.length ∧ Sep w0 w' (ownB d (flip l i) :: As), fun x _ => (l.length - RowKit.intOf x).toNat, ⟨0, rfl, by omega, by rw [flip_zero]; exact hs⟩, ?_⟩
  rintro _ w1 ⟨i, rfl, hi, hs1⟩ -
  simp only [fx, Nat.reduceAdd, forall_const]
  rw [cnd_bool]
  refine ⟨fun hlt => ?_, fun hlt => ?_⟩
  · have hlt : i < l.length := by simp at hlt; omega
    refine hp _ _ hs1 _ ?_
    refine ldxB_s hs1 (by rw [flip_len]; exact hlt) ?_
    rw [xor255, flip_get hlt]
    refine stxB_s hs1 (by rw [flip_len]; exact hlt) _ fun w2 hs2 => ?_
    rw [flip_set hlt] at hs2
    rw [wi64 (by omega) (by omega)]
    exact ⟨⟨i + 1, by simp, by omega, hs2⟩, by simp [RowKit.intOf] <;> omega⟩
  · obtain rfl : i = l.length := by simp at hlt; omega
    exact h _ hs1
end
end Go.Fx
set_option linter.unusedVariables false
set_option linter.unusedSimpArgs false
namespace Go.Fx
section
variable {w0 w w' : World} {As : List Asn} {g gi gm : Nat} {lv iv m pt ut : Value} {over off : Bool} {B : List BV} {x : Tp}
theorem neB {o1 o2 : Operand} {a b : Bool} {w : World} (K : Value → Prop) : rdP P (eqS .neq T_bool o1 o2 (.bool a) (.bool b)) w K = K (.bool (a != b)) := rdP_eq (by cases a <;> cases b <;> kernel_rfl) K
theorem eqB {o1 o2 : Operand} {a b : Bool} {w : World} (K : Value → Prop) : rdP P (eqS .eql T_bool o1 o2 (.bool a) (.bool b)) w K = K (.bool (a == b)) := rdP_eq (by cases a <;> cases b <;> kernel_rfl) K
theorem fndI_ge {L : List Blk} {k : Vec 32} : decide ((0 : Int) ≤ fndI L k) = (fnd L k).isSome := by
  unfold fndI
  cases fnd L k with
  | none => rfl
  | some i => simp
theorem asks10_spec {g2 : Nat} {lv2 : Value} {B2 : List BV} {o : OA} (hr : ChR w.heap g gi lv iv (.map (some gm)) pt over B) (hm : MpR w.heap gm (atF (blks B))) (hq : RcR w.heap g2 lv2 ut over B2) (hBB : blks B2 = blks B) (hg : goodB (blks B)) (h0 : 0 < B.length) (hn : B.length ≤ 1000000)
    (hod : RdB w.heap o.dv o.d) (hob : RdB w.heap o.bv o.b.d) (hoh : o.b.h ≤ maxI) :
    cal P f_law10_asks [.pointer (some ⟨g, 0, none⟩), .pointer (some ⟨g2, 0, none⟩), .agg (Rdr.cells Q_flurrylaw10_Op o.t).toArray] w fun r w' => r = .bool true ∧ Fr [] w w' := by
  refine s_law10_asks fun R hR => ?_
  unfold c_law10_asks
  have hln : B2.length = B.length := by have := congrArg List.length hBB; simpa using this
  have hdl : ∀ x ∈ B, x.1.d.length ≤ 100000 := fun x hx => by
    have := chk0_lenC (hg x.1 (List.mem_map_of_mem hx)).1
    omega
  have hg2 : goodB (blks B2) := by rw [hBB]; exact hg
  have kp : ∀ {u : World} {Bs : List Asn} {vd : Value} {d : List UInt8}, Kp B2 vd d → Sep w u Bs → RdB u.heap vd d := fun hk hu => hk _ (hu.rc hq).bw.2
  refine bxQ (Sep.start w) fun g5 w1 hs1 => ?_
  simp only [fx, Nat.reduceAdd, forall_const, L_flurrylaw10_Op hs1.blk, L_flurrylaw10_Op__Do hs1.blk, L_flurrylaw10_Op__N hs1.blk, L_flurrylaw10_Op__Data hs1.blk, L_flurrylaw10_Op__B hs1.blk, L_flurrylaw10_Op__B_Parent hs1.blk, L_flurrylaw10_Op__B_Height hs1.blk, L_flurrylaw10_Op__B_Data hs1.blk]
  refine cal_i (cAt_spec (n := o.n) (hs1.ch hr) hdl) ?_
  rintro _ w2 ⟨vd1, rfl, hs2⟩
  replace hs2 := hs1.join hs2
  obtain ⟨b1, hb1⟩ : ∃ b1, b1 = atB over (blks B) o.n := ⟨_, rfl⟩
  rw [← hb1] at hs2 ⊢
  simp only [fx, Nat.reduceAdd, forall_const]
  refine alloc_s hs2 (A_api_Block w2) fun g7 w3 hs3 => ?_
  refine St_api_Block (b := (b1.p, b1.h, vd1)) hs3 (one_api_Block (Sep.one hs3.p1)) fun w4 hs4 => ?_
  simp only [fx, Nat.reduceAdd, forall_const, L_flurrylaw10_Op (Sep.blk hs4.p2), L_flurrylaw10_Op__Do (Sep.blk hs4.p2), L_flurrylaw10_Op__N (Sep.blk hs4.p2), L_flurrylaw10_Op__Data (Sep.blk hs4.p2), L_flurrylaw10_Op__B (Sep.blk hs4.p2), L_flurrylaw10_Op__B_Parent (Sep.blk hs4.p2), L_flurrylaw10_Op__B_Height (Sep.blk hs4.p2), L_flurrylaw10_Op__B_Data (Sep.blk hs4.p2)]
  refine cal_i (rcAt_spec (n := o.n) (hs4.rc hq)) ?_
  rintro _ w5 ⟨vd2, rfl, hk2, hf5⟩
  have hs5 := hs4.old hf5
  rw [hBB, ← hb1] at hk2
  rw [hBB, ← hb1]
  simp only [fx, Nat.reduceAdd, forall_const]
  refine alloc_s hs5 (A_api_Block w5) fun g9 w6 hs6 => ?_
  refine St_api_Block (b := (b1.p, b1.h, vd2)) hs6 (one_api_Block (kp hk2 hs6).one) fun w7 hs7 => ?_
  -- g9 0 · g7 1 · own 2 · g5 3
  simp only [fx, Nat.reduceAdd, forall_const, L_flurrylaw10_Op (Sep.blk hs7.p3), L_flurrylaw10_Op__Do (Sep.blk hs7.p3), L_flurrylaw10_Op__N (Sep.blk hs7.p3), L_flurrylaw10_Op__Data (Sep.blk hs7.p3), L_flurrylaw10_Op__B (Sep.blk hs7.p3), L_flurrylaw10_Op__B_Parent (Sep.blk hs7.p3), L_flurrylaw10_Op__B_Height (Sep.blk hs7.p3), L_flurrylaw10_Op__B_Data (Sep.blk hs7.p3)]
  refine cal_i (rbID_spec (b := o.b) (v := o.bv) (hs7.rdB hob) hoh) ?_
  rintro _ w8 ⟨rfl, hf8⟩
  have hs8 := hs7.old hf8
  simp only [fx, Nat.reduceAdd, forall_const]
  refine alloc_s hs8 (A_api_ID w8) fun g11 w9 hs9 => ?_
  refine St_api_ID (b := o.b.name) hs9 fun w10 hs10 => ?_
  obtain ⟨T, hT⟩ : ∃ T, T = [blk g9 (Rdr.cells Q_api_Block (b1.p, b1.h, vd2)).toArray T_api_Block, blk g7 (Rdr.cells Q_api_Block (b1.p, b1.h, vd1)).toArray T_api_Block, ownB vd1 b1.d, blk g5 (Rdr.cells Q_flurrylaw10_Op o.t).toArray T_flurrylaw10_Op] := ⟨_, rfl⟩
  replace hs10 : Sep w w10 (blk g11 (Rdr.cells (rVec 32) o.b.name).toArray T_api_ID :: T) := by rw [hT]; exact hs10
  have rT : ∀ {u : World} {Bs : List Asn}, Sep w u (Bs ++ T) → u.heap[g9]? = some (.cells (Rdr.cells Q_api_Block (b1.p, b1.h, vd2)).toArray T_api_Block (0, 0)) ∧ u.heap[g7]? = some (.cells (Rdr.cells Q_api_Block (b1.p, b1.h, vd1)).toArray T_api_Block (0, 0)) ∧ RdB u.heap vd1 b1.d ∧ u.heap[g5]? = some (.cells (Rdr.cells Q_flurrylaw10_Op o.t).toArray T_flurrylaw10_Op (0, 0)) := fun {u Bs} hu => by
    have h1 := hu.dropL
    rw [hT] at h1
    exact ⟨Sep.blk h1, Sep.blk h1.p1, Sep.rd h1.p2, Sep.blk h1.p3⟩
  clear hs9 hs8 hs7 hs6 hs5 hs4 hs3 hs2
  refine ⟨fun z => ∃ k : Vec 32, Sep w z (blk g11 (Rdr.cells (rVec 32) k).toArray T_api_ID :: T), ?_, ?_⟩
  · refine drw_s hs10 fun w11 hs11 _ => ?_
    obtain ⟨T2, fr2, hc⟩ := (hs11.rc hq).cell
    simp only [fx, Nat.reduceAdd, forall_const, L_flurrylaw10_Op (rT (Bs := [_]) hs11).2.2.2, L_flurrylaw10_Op__Do (rT (Bs := [_]) hs11).2.2.2, L_flurrylaw10_Op__N (rT (Bs := [_]) hs11).2.2.2, L_flurrylaw10_Op__Data (rT (Bs := [_]) hs11).2.2.2, L_flurrylaw10_Op__B (rT (Bs := [_]) hs11).2.2.2, L_flurrylaw10_Op__B_Parent (rT (Bs := [_]) hs11).2.2.2, L_flurrylaw10_Op__B_Height (rT (Bs := [_]) hs11).2.2.2, L_flurrylaw10_Op__B_Data (rT (Bs := [_]) hs11).2.2.2, L_flurryref10_Chain hc, L_flurryref10_Chain__T hc, L_flurryref10_Chain__L hc, L_flurryref10_Chain__Off hc, (hs11.rc hq).bw.len]
    rw [cnd_bool]
    refine ⟨fun h => ?_, fun _ => ⟨_, hs11⟩⟩
    have h : (0 : Int) ≤ o.n ∧ o.n < (B2.length : Int) := by
      simp only [OA.t, Bool.and_eq_true] at h
      exact ⟨of_decide_eq_true h.1, of_decide_eq_true h.2⟩
    obtain ⟨i, hi⟩ : ∃ i : Nat, o.n = i := ⟨o.n.toNat, by omega⟩
    obtain ⟨y, hy⟩ : ∃ y, B2[i]? = some y := ⟨_, List.getElem?_eq_getElem (by omega)⟩
    have hy' : (B2.map BV.t)[i]? = some y.t := by rw [List.getElem?_map, hy]; rfl
    have hgy := hg2 y.1 (List.mem_map_of_mem (List.mem_of_getElem? hy))
    refine drH_S hs11 fun w12 hs12 _ => ?_
    refine rdS_ld (v := lv2) (fun u hu K hk => by obtain ⟨T, fr, hc⟩ := (hu.rc hq).cell; exact (L_flurryref10_Chain__L hc K).mpr hk) ?_
    refine ⟨.int .i64 (i : Int), fun u hu => by rw [← hi]; exact (L_flurrylaw10_Op__N (rT (Bs := [_]) hu).2.2.2 _).mpr rfl, ?_⟩
    change ixs 34 _ _ _
    refine rdS_rowC (q := Q_api_Block) (by decide) hs12 (fun u hu => (hu.rc hq).bw.1) hy' .i64 ?_
    refine efC_cal (cal_i (rbID_spec (b := y.1) (v := y.2) ((hs12.rc hq).bw.2 y (List.mem_of_getElem? hy)) hgy.2) ?_)
    rintro _ w13 ⟨rfl, hf13⟩
    have hs13 := hs12.old hf13
    simp only [fx, Nat.reduceAdd, forall_const]
    refine efC_stN (St_api_ID (b := y.1.name) hs13 fun w14 hs14 => ?_)
    exact ⟨_, hs14⟩
  rintro w11 ⟨k, hs11⟩ _
  clear hs10
  simp only [L_api_ID hs11.blk]
  refine cal_i (cGet_spec (k := k) (hs11.ch hr) (hm.fr hs11.fr0) hn hdl) ?_
  rintro _ w12 ⟨vd3, rfl, hs12⟩
  replace hs12 := hs11.join hs12
  obtain ⟨b3, hb3⟩ : ∃ b3, b3 = getB' over (blks B) k := ⟨_, rfl⟩
  rw [← hb3] at hs12 ⊢
  simp only [fx, Nat.reduceAdd, forall_const]
  refine alloc_s hs12 (A_api_Block w12) fun g13 w13 hs13 => ?_
  refine St_api_Block (b := (b3.p, b3.h, vd3)) hs13 (one_api_Block (Sep.one hs13.p1)) fun w14 hs14 => ?_
  -- g13 0 · own3 1 · g11 2 · T
  simp only [L_api_ID (Sep.blk hs14.p2)]
  refine cal_i (rcGet_spec (k := k) (hs14.rc hq) hg2 (by omega)) ?_
  rintro _ w15 ⟨vd4, rfl, hk4, hf15⟩
  have hs15 := hs14.old hf15
  rw [hBB, ← hb3] at hk4
  rw [hBB, ← hb3]
  simp only [fx, Nat.reduceAdd, forall_const]
  refine alloc_s hs15 (A_api_Block w15) fun g15 w16 hs16 => ?_
  refine St_api_Block (b := (b3.p, b3.h, vd4)) hs16 (one_api_Block (kp hk4 hs16).one) fun w17 hs17 => ?_
  -- g15 0 · g13 1 · own3 2 · g11 3 · T
  clear hs16 hs15 hs14 hs13 hs12 hs11
  obtain ⟨L17, hL17⟩ : ∃ L17, L17 = (blk g15 (Rdr.cells Q_api_Block (b3.p, b3.h, vd4)).toArray T_api_Block :: blk g13 (Rdr.cells Q_api_Block (b3.p, b3.h, vd3)).toArray T_api_Block :: ownB vd3 b3.d :: blk g11 (Rdr.cells (rVec 32) k).toArray T_api_ID :: T) := ⟨_, rfl⟩
  replace hs17 : Sep w w17 L17 := by rw [hL17]; exact hs17
  have rL : ∀ {u : World} {Bs : List Asn}, Sep w u (Bs ++ L17) → u.heap[g15]? = some (.cells (Rdr.cells Q_api_Block (b3.p, b3.h, vd4)).toArray T_api_Block (0, 0)) ∧ u.heap[g13]? = some (.cells (Rdr.cells Q_api_Block (b3.p, b3.h, vd3)).toArray T_api_Block (0, 0)) ∧ RdB u.heap vd3 b3.d ∧ u.heap[g11]? = some (.cells (Rdr.cells (rVec 32) k).toArray T_api_ID (0, 0)) ∧ Sep w u T := fun {u Bs} hu => by
    have h1 := hu.dropL
    rw [hL17] at h1
    exact ⟨Sep.blk h1, Sep.blk h1.p1, Sep.rd h1.p2, Sep.blk h1.p3, h1.tail.tail.tail.tail⟩
  refine drH_S (As := L17) hs17 fun w18 hs18 _ => ?_
  refine ⟨bq b1 vd1, fun u hu => (L_api_Block (rT (Bs := []) (rL (Bs := []) hu).2.2.2.2).2.1 _).mpr rfl, ?_⟩
  refine ⟨bq b1 vd2, fun u hu => (L_api_Block (rT (Bs := []) (rL (Bs := []) hu).2.2.2.2).1 _).mpr rfl, ?_⟩
  refine efC_cut (cal_i (rSame_spec (a := b1) (b := b1) (u := vd1) (v := vd2) (rT (Bs := []) (rL (Bs := []) hs18).2.2.2.2).2.2.1 (kp hk2 hs18)) ?_)
  rintro _ w19 ⟨rfl, hf19⟩
  have hs19 := hs18.old hf19
  refine ⟨fun u => Sep w u L17, hs19, ?_⟩
  rw [decide_eq_true rfl]
  simp only [fx, Nat.reduceAdd, forall_const, show (atE over (blks B) o.n != atE over (blks B) o.n) = false by simp]
  refine jn1_dup ?_
  refine ⟨bq b3 vd3, fun u hu => (L_api_Block (rL (Bs := []) hu).2.1 _).mpr rfl, ?_⟩
  refine ⟨bq b3 vd4, fun u hu => (L_api_Block (rL (Bs := []) hu).1 _).mpr rfl, ?_⟩
  refine efS_i (cal_i (rSame_spec (a := b3) (b := b3) (u := vd3) (v := vd4) (rL (Bs := []) hs19).2.2.1 (kp hk4 hs19)) ?_)
  rintro _ w20 ⟨rfl, hf20⟩
  have hs20 := hs19.old hf20
  refine ⟨hs20, ?_⟩
  rw [decide_eq_true rfl]
  simp only [fx, Nat.reduceAdd, forall_const, show (getE' over (blks B) k != getE' over (blks B) k) = false by simp]
  refine jn1_dup ?_
  refine ⟨kv k, fun u hu => (L_api_ID (rL (Bs := []) hu).2.2.2.1 _).mpr rfl, ?_⟩
  refine ⟨kv k, fun u hu => (L_api_ID (rL (Bs := []) hu).2.2.2.1 _).mpr rfl, ?_⟩
  refine efS_i (cal_i (cHas_spec (k := k) (hs20.ch hr) (hm.fr hs20.fr0)) ?_)
  rintro _ w21 ⟨rfl, hf21⟩
  have hs21 := hs20.old hf21
  refine ⟨hs21, ?_⟩
  refine efS_i (cal_i (rcFind_spec (k := k) (hs21.rc hq) hg2 (by omega)) ?_)
  rintro _ w22 ⟨rfl, hf22⟩
  have hs22 := hs21.old hf22
  refine ⟨hs22, ?_⟩
  simp only [fx, Nat.reduceAdd, forall_const]
  rw [hBB, fndI_ge]
  refine ⟨.bool false, fun u hu => by rw [neB]; simp, ?_⟩
  clear hs17 hs18 hs19 hs20 hs21
  have hc22 := (rL (Bs := []) hs22).2.1
  simp only [fx, Nat.reduceAdd, forall_const, L_api_Block hc22, L_api_Block__Parent hc22, L_api_Block__Height hc22, L_api_Block__Data hc22, (rL (Bs := []) hs22).2.2.1.len]
  have hb3l : b3.d.length ≤ 200 := by
    have hz : Blk.none.d.length ≤ 200 := by decide
    rw [hb3]
    unfold getB'
    split
    · exact hz
    · cases hf : fnd (blks B) k with
      | none => exact hz
      | some i =>
        obtain ⟨hi, b, hb, _⟩ := fnd_some hf
        show ((blks B).getD i Blk.none).d.length ≤ 200
        rw [List.getD_eq_getElem?_getD, hb]
        exact chk0_lenC (hg b (List.mem_of_getElem? hb)).1
  rw [hL17] at hs22
  refine flip_loopC (d := vd3) (l := b3.d) (Sep.pick hs22 [2, 1, 3] 4) (fun z l' hz K hK => (L_api_Block__Data (Sep.blk hz.tail) K).mpr hK) (by omega) fun w23 hs23 => ?_
  -- own3 0 · g13 1 · g11 2 · T
  have hc23 := (rT (Bs := [_, _, _]) hs23).2.2.2
  have hod23 := hs23.rdB hod
  simp only [fx, Nat.reduceAdd, forall_const, L_flurrylaw10_Op hc23, L_flurrylaw10_Op__Do hc23, L_flurrylaw10_Op__N hc23, L_flurrylaw10_Op__Data hc23, L_flurrylaw10_Op__B hc23, L_flurrylaw10_Op__B_Parent hc23, L_flurrylaw10_Op__B_Height hc23, L_flurrylaw10_Op__B_Data hc23]
  have hOD : ∀ K, lenS o.dv K = K (.int .i64 o.d.length) := fun K => hod23.len K
  change lenS o.dv _
  rw [hOD]
  refine rows_lit (q := rInt .i64) hs23 S_sl_int (l := [o.n, (o.d.length : Int)]) (V := fun a => .int .i64 a) (fun a => rfl) rfl rfl (by decide) (by decide) fun g24 w24 hs24 => ?_
  simp only [fx, Nat.reduceAdd, forall_const]
  refine ⟨fun t z => ∃ i : Nat, t = .int .i64 i ∧ i ≤ 2 ∧ Sep w z [rows (rInt .i64) (.slice (some ⟨g24, 0, none⟩) 2 2) [o.n, (o.d.length : Int)], blk g11 (Rdr.cells (rVec 32) k).toArray T_api_ID], fun t _ => (2 - RowKit.intOf t).toNat, ⟨0, rfl, by omega, Sep.dropR (As := [_, _]) (Sep.pick hs24 [0, 3] 4)⟩, ?_⟩
  clear hs24 hs23 hs22 hc22 hc23 hod23
  rintro _ z ⟨i, rfl, hi, hz⟩ -
  simp only [fx, Nat.reduceAdd, forall_const]
  rw [cnd_bool]
  refine ⟨fun h => ?_, fun h => hR _ _ ⟨rfl, hz.fr0⟩⟩
  have hlt : i < 2 := by simp at h; omega
  obtain ⟨n, hnn⟩ : ∃ n, [o.n, (o.d.length : Int)][i]? = some n := ⟨_, List.getElem?_eq_getElem hlt⟩
  refine Rows'.ldI (Sep.rows hz) hnn .i64 ?_
  simp only [L_api_ID (Sep.blk hz.p1)]
  refine cal_i (cAnc_spec (k := k) (n := n) (hz.ch hr) (hm.fr hz.fr0) hn hdl) ?_
  rintro _ z1 ⟨v1, D1, rfl, hD1, hr1, hf1⟩
  have hz1 := hz.old hf1
  simp only [fx, Nat.reduceAdd, forall_const, L_api_ID (Sep.blk hz1.p1)]
  refine cal_i (rcAnc_spec (k := k) (n := n) (hz1.rc hq) hg2 (by omega)) ?_
  rintro _ z2 ⟨v2, D2, rfl, hD2, hr2, hf2⟩
  have hz2 := hz1.old hf2
  rw [hBB] at hD2 ⊢
  simp only [fx, Nat.reduceAdd, forall_const]
  have hDl : D1.length ≤ 9223372036854775807 := by
    have h1 : (blks D1).length ≤ (blks B).length := by
      rw [hD1]
      unfold ancB
      split
      · simp
      · split
        · simp
        · unfold downs
          rw [List.length_take, List.length_reverse, List.length_take]
          omega
    simp only [List.length_map] at h1
    omega
  refine cal_i (SameAll_spec (hr1.fr hf2) hr2 hDl) ?_
  rintro _ z3 ⟨rfl, hf3⟩
  have hz3 := hz2.old hf3
  have hDD : D1.map (·.1) = D2.map (·.1) := by
    have h1 : blks D1 = blks D2 := by rw [hD1, hD2]
    exact h1
  rw [decide_eq_true hDD]
  simp only [fx, Nat.reduceAdd, forall_const, show (ancE over (blks B) k n != ancE over (blks B) k n) = false by simp]
  rw [wi64 (by omega) (by omega)]
  exact ⟨⟨i + 1, by simp, by omega, hz3⟩, by simp [RowKit.intOf] <;> omega⟩
end
end Go.Fx
set_option linter.unusedVariables false
set_option linter.unusedSimpArgs false
namespace Go.Fx
abbrev wA (gw : Nat) (pt cp ut rp : Value) : Asn := blk gw (Rdr.cells Q_flurrylaw10_world (pt, cp, ut, rp)).toArray T_flurrylaw10_world
theorem eqTape {a : Addr} {o1 o2 : Operand} {w : World} (K : Value → Prop) : rdP P (eqS .eql T_p_tape_Tape o1 o2 (.pointer (some a)) (.pointer (some a))) w K = K (.bool true) := by
  obtain ⟨j, hj⟩ := Option.isSome_iff_exists.1 (show (P.info? T_tape_Tape).isSome = true by kernel_rfl)
  refine rdP_eq ?_ K
  have h2 := run_eql_ptr_same (P := P) w a (show P.underlying T_p_tape_Tape = some (.pointer T_tape_Tape) by kernel_rfl) hj
  simp only [eqS, eqGuard]
  simp [h2]
def Bad (x : Tp) (b : Blk) : Prop := x.off = true ∨ b.chk ≠ 0 ∨ b.h ≠ 0
def opE (x : Tp) : Int := if x.off = true then 5 else 30
theorem opE_ne (x : Tp) : opE x ≠ 0 := by unfold opE; split <;> decide
/-- What a chain answers a block, and what becomes of it. -/
def acc (over : Bool) (x : Tp) (L : List Blk) (y b : Blk) : Int × Tp × Bool × List Blk :=
  if over = true ∨ x.off = true then (5, x, over, L) else if b.link y ≠ 0 then (b.link y, x, over, L) else
  if (x.append b.rcd).2 = 0 then (0, (x.append b.rcd).1, false, L ++ [b]) else ((x.append b.rcd).2, (x.append b.rcd).1, ((x.append b.rcd).2 == 5), L)
section
variable {w0 w w' : World} {As : List Asn} {g gi gm gw : Nat} {lv iv m pt ut cp rp : Value} {over off : Bool} {B : List BV} {x : Tp}
theorem tp_form (hs : Sep w0 w (tp pt x :: As)) : ∃ gt : Nat, pt = .pointer (some ⟨gt, 0, none⟩) := by
  rw [tp_open] at hs
  obtain ⟨g, s, rfl, _⟩ := hs
  exact ⟨g, rfl⟩
theorem rt_form (hs : Sep w0 w (rt ut x :: As)) : ∃ gt : Nat, ut = .pointer (some ⟨gt, 0, none⟩) := by
  rw [rt_open] at hs
  obtain ⟨g, s, ⟨rfl, _⟩, _⟩ := hs
  exact ⟨g, rfl⟩
theorem cOpen2 {b : Blk} {v : Value} (hs : Sep w0 w (tp pt x :: As)) (hx : x.Ok) (hm : x.made = true) (hC : Cub w0) (hb : ∀ z, Sep w0 z As → RdB z.heap v b.d) (hh : b.h ≤ maxI) :
    cal P f_chain_Open [pt, bq b v] w fun r w' =>
      (Bad x b ∧ r = .tuple #[.pointer none, .int .i64 (opE x)] ∧ Sep w0 w' (tp pt x :: As)) ∨
      (¬ Bad x b ∧ ∃ g gi gm lv iv B E S, r = .tuple #[.pointer (some ⟨g, 0, none⟩), .int .i64 0] ∧ IsScan x.b S ∧ blks B = b :: linkT b S ∧ DatB B E ∧
        Sep w0 w' (chH g gi gm lv iv pt false B ++ (tp pt { x with b := layL (linkT b S) } :: (E ++ As)))) := by
  refine cal_i (cOpen_spec hs hx hm hC hb hh) ?_
  rintro r w1 (⟨h, rfl, hs1⟩ | ⟨h, h2, rfl, hs1⟩ | ⟨h, h2, h3, hr⟩)
  · exact .inl ⟨.inl h, by unfold opE; rw [if_pos h], hs1⟩
  · exact .inl ⟨.inr h2, by unfold opE; rw [if_neg (by rw [h]; decide)], hs1⟩
  · refine .inr ⟨?_, hr⟩
    rintro (h4 | h4 | h4)
    · rw [h] at h4; cases h4
    · exact h4 h2
    · exact h4 h3
theorem rcOpen2 {b : Blk} {v : Value} (hs : Sep w0 w (rt ut x :: As)) (hx : x.Ok) (hb : ∀ z, Sep w0 z As → RdB z.heap v b.d) (hh : b.h ≤ maxI) :
    cal P f_ref10_Open [ut, bq b v] w fun r w' =>
      (Bad x b ∧ r = .tuple #[.pointer none, .int .i64 (opE x)] ∧ Sep w0 w' (rt ut x :: As)) ∨
      (¬ Bad x b ∧ ∃ g lv B E S, r = .tuple #[.pointer (some ⟨g, 0, none⟩), .int .i64 0] ∧ IsScan x.b S ∧ blks B = b :: linkT b S ∧ DatB B E ∧
        Sep w0 w' (rcA g lv ut false :: rows Q_api_Block lv (B.map BV.t) :: rt ut { x with b := layL (linkT b S) } :: (E ++ As))) := by
  refine cal_i (rcOpen_spec hs hx hb hh) ?_
  rintro r w1 (⟨h, rfl, hs1⟩ | ⟨h, h2, rfl, hs1⟩ | ⟨h, h2, h3, hr⟩)
  · exact .inl ⟨.inl h, by unfold opE; rw [if_pos h], hs1⟩
  · exact .inl ⟨.inr h2, by unfold opE; rw [if_neg (by rw [h]; decide)], hs1⟩
  · refine .inr ⟨?_, hr⟩
    rintro (h4 | h4 | h4)
    · rw [h] at h4; cases h4
    · exact h4 h2
    · exact h4 h3
theorem opens_spec {b : Blk} {v : Value} (hs : Sep w0 w (tp pt x :: rt ut x :: wA gw pt cp ut rp :: As)) (hx : x.Ok) (hC : Cub w0) (hb : ∀ z, Sep w0 z As → RdB z.heap v b.d) (hh : b.h ≤ maxI) :
    cal P f_law10_world_opens [.pointer (some ⟨gw, 0, none⟩), bq b v] w fun r w' => r = .bool true ∧
      ((Bad x b ∧ Sep w0 w' (tp pt x :: rt ut x :: wA gw pt cp ut rp :: As)) ∨
       (¬ Bad x b ∧ ∃ g gi gm lv iv B g2 lv2 B2 S E, IsScan x.b S ∧ blks B = b :: linkT b S ∧ blks B2 = b :: linkT b S ∧ DatB B E ∧ DatB B2 E ∧
        Sep w0 w' (chH g gi gm lv iv pt false B ++ (tp pt { x with b := layL (linkT b S) } :: rcA g2 lv2 ut false :: rows Q_api_Block lv2 (B2.map BV.t) :: rt ut { x with b := layL (linkT b S) } :: wA gw pt (.pointer (some ⟨g, 0, none⟩)) ut (.pointer (some ⟨g2, 0, none⟩)) :: (As ++ E))))) := by
  refine s_law10_world_opens fun R hR => ?_
  unfold c_law10_world_opens
  have hm : x.made = true := rt_made hs.p1
  obtain ⟨gt, rfl⟩ := tp_form hs
  obtain ⟨gu, rfl⟩ := rt_form hs.p1
  refine bxQ hs fun g3 w1 hs1 => ?_
  -- b 0 · tp 1 · rt 2 · wA 3
  refine drH_S hs1 fun w2 hs2 _ => ?_
  simp only [fx, Nat.reduceAdd, forall_const]
  refine rdS_ld (v := .pointer (some ⟨gt, 0, none⟩)) (fun u hu K hk => (L_flurrylaw10_world__t (Sep.blk (Sep.pick hu [3] 4)) K).mpr hk) ?_
  refine ⟨bq b v, fun u hu => (L_api_Block (Sep.blk hu) _).mpr rfl, ?_⟩
  refine efC_cal (cal_i (cOpen2 (b := b) (v := v) (Sep.pick hs2 [1, 2, 3, 0] 4) hx hm hC (fun z hz => hb z hz.tail.tail.tail) hh) ?_)
  rintro _ w3 (⟨hbad, rfl, hs3⟩ | ⟨hbad, g, gi, gm, lv, iv, B, E, S, rfl, hS, hB, hD, hs3⟩)
  · -- tp 0 · rt 1 · wA 2 · b 3
    simp only [fx, Nat.reduceAdd, forall_const]
    refine drH_S hs3 fun w4 hs4 _ => ?_
    refine rdS_ld (v := .pointer (some ⟨gu, 0, none⟩)) (fun u hu K hk => (L_flurrylaw10_world__u (Sep.blk (Sep.pick hu [2] 3)) K).mpr hk) ?_
    refine ⟨bq b v, fun u hu => (L_api_Block (Sep.blk (Sep.pick hu [3] 4)) _).mpr rfl, ?_⟩
    refine efC_cal (cal_i (rcOpen2 (b := b) (v := v) (Sep.pick hs4 [1, 0, 2, 3] 4) hx (fun z hz => hb z hz.tail.tail.tail) hh) ?_)
    rintro _ w5 (⟨_, rfl, hs5⟩ | ⟨h, _⟩)
    case inr => exact absurd hbad h
    have h1 : (opE x != opE x) = false := by simp
    have h2 : (opE x != 0) = true := by simpa using opE_ne x
    simp only [fx, Nat.reduceAdd, forall_const, h1, h2, neB, Option.isNone_none, bne_self_eq_false]
    refine drH_S hs5 fun w6 hs6 _ => ?_
    exact hR _ _ ⟨rfl, .inl ⟨hbad, Sep.pick hs6 [1, 0, 2] 4⟩⟩
  · simp only [fx, Nat.reduceAdd, forall_const]
    obtain ⟨M, hM⟩ : ∃ M, M = chH g gi gm lv iv (.pointer (some ⟨gt, 0, none⟩)) false B ++ (tp (.pointer (some ⟨gt, 0, none⟩)) { x with b := layL (linkT b S) } :: E) := ⟨_, rfl⟩
    have hs4 : Sep w0 w3 (rt (.pointer (some ⟨gu, 0, none⟩)) x :: (M ++ (wA gw (.pointer (some ⟨gt, 0, none⟩)) cp (.pointer (some ⟨gu, 0, none⟩)) rp :: blk g3 (Rdr.cells Q_api_Block (b.p, b.h, v)).toArray T_api_Block :: As))) := by
      refine Sep.mid ?_
      rw [hM, List.append_assoc]
      exact hs3
    refine drH_S hs4 fun w5 hs5 _ => ?_
    refine rdS_ld (v := .pointer (some ⟨gu, 0, none⟩)) (fun u hu K hk => (L_flurrylaw10_world__u (Sep.blk hu.tail.dropL) K).mpr hk) ?_
    refine ⟨bq b v, fun u hu => (L_api_Block (Sep.blk hu.tail.dropL.tail) _).mpr rfl, ?_⟩
    refine efC_cal (cal_i (rcOpen2 (b := b) (v := v) hs5 hx (fun z hz => hb z hz.dropL.tail.tail) hh) ?_)
    rintro _ w6 (⟨h, _⟩ | ⟨_, g2, lv2, B2, E2, S2, rfl, hS2, hB2, hD2, hs6⟩)
    case inl => exact absurd h hbad
    obtain rfl := hS2.uniq hS
    have hs7 := Sep.mid (As := rcA g2 lv2 (.pointer (some ⟨gu, 0, none⟩)) false :: rows Q_api_Block lv2 (B2.map BV.t) :: rt (.pointer (some ⟨gu, 0, none⟩)) { x with b := layL (linkT b S2) } :: (E2 ++ M)) (A := wA gw (.pointer (some ⟨gt, 0, none⟩)) cp (.pointer (some ⟨gu, 0, none⟩)) rp) (Bs := blk g3 (Rdr.cells Q_api_Block (b.p, b.h, v)).toArray T_api_Block :: As) (by
      show Sep w0 w6 (rcA g2 lv2 (.pointer (some ⟨gu, 0, none⟩)) false :: rows Q_api_Block lv2 (B2.map BV.t) :: rt (.pointer (some ⟨gu, 0, none⟩)) { x with b := layL (linkT b S2) } :: ((E2 ++ M) ++ _))
      rw [List.append_assoc]
      exact hs6)
    simp only [fx, Nat.reduceAdd, forall_const, show ((0 : Int) != 0) = false from rfl, neB, Option.isNone_some, bne_self_eq_false]
    refine ⟨fun z => Sep w0 z (wA gw (.pointer (some ⟨gt, 0, none⟩)) (.pointer (some ⟨g, 0, none⟩)) (.pointer (some ⟨gu, 0, none⟩)) (.pointer (some ⟨g2, 0, none⟩)) :: (rcA g2 lv2 (.pointer (some ⟨gu, 0, none⟩)) false :: rows Q_api_Block lv2 (B2.map BV.t) :: rt (.pointer (some ⟨gu, 0, none⟩)) { x with b := layL (linkT b S2) } :: (E2 ++ M) ++ (blk g3 (Rdr.cells Q_api_Block (b.p, b.h, v)).toArray T_api_Block :: As))), ?_, ?_⟩
    · try simp only [fx, Nat.reduceAdd, forall_const]
      refine St_flurrylaw10_world__c hs7 rfl fun z1 hz1 => ?_
      refine St_flurrylaw10_world__w hz1 rfl fun z2 hz2 => ?_
      exact hz2
    · intro z hz _
      have hz1 : Sep w0 z (wA gw (.pointer (some ⟨gt, 0, none⟩)) (.pointer (some ⟨g, 0, none⟩)) (.pointer (some ⟨gu, 0, none⟩)) (.pointer (some ⟨g2, 0, none⟩)) :: rcA g2 lv2 (.pointer (some ⟨gu, 0, none⟩)) false :: rows Q_api_Block lv2 (B2.map BV.t) :: rt (.pointer (some ⟨gu, 0, none⟩)) { x with b := layL (linkT b S2) } :: (M ++ (As ++ E2))) := by
        have h1 : Sep w0 z ([wA gw (.pointer (some ⟨gt, 0, none⟩)) (.pointer (some ⟨g, 0, none⟩)) (.pointer (some ⟨gu, 0, none⟩)) (.pointer (some ⟨g2, 0, none⟩)), rcA g2 lv2 (.pointer (some ⟨gu, 0, none⟩)) false, rows Q_api_Block lv2 (B2.map BV.t), rt (.pointer (some ⟨gu, 0, none⟩)) { x with b := layL (linkT b S2) }] ++ (E2 ++ (M ++ (blk g3 (Rdr.cells Q_api_Block (b.p, b.h, v)).toArray T_api_Block :: As)))) := by
          have h0 := hz
          simp only [List.cons_append, List.append_assoc] at h0 ⊢
          exact h0
        have h2 := h1.perm (List.Perm.append_left _ (List.perm_append_comm (l₁ := E2) (l₂ := M ++ (blk g3 (Rdr.cells Q_api_Block (b.p, b.h, v)).toArray T_api_Block :: As))))
        have h3 : Sep w0 z (([wA gw (.pointer (some ⟨gt, 0, none⟩)) (.pointer (some ⟨g, 0, none⟩)) (.pointer (some ⟨gu, 0, none⟩)) (.pointer (some ⟨g2, 0, none⟩)), rcA g2 lv2 (.pointer (some ⟨gu, 0, none⟩)) false, rows Q_api_Block lv2 (B2.map BV.t), rt (.pointer (some ⟨gu, 0, none⟩)) { x with b := layL (linkT b S2) }] ++ M) ++ blk g3 (Rdr.cells Q_api_Block (b.p, b.h, v)).toArray T_api_Block :: (As ++ E2)) := by
          simp only [List.cons_append, List.append_assoc, List.nil_append] at h2 ⊢
          exact h2
        have h4 := (Sep.mid h3).tail
        simp only [List.cons_append, List.append_assoc, List.nil_append] at h4
        exact h4
      rw [hM] at hz1
      have hz2 : Sep w0 z (wA gw (.pointer (some ⟨gt, 0, none⟩)) (.pointer (some ⟨g, 0, none⟩)) (.pointer (some ⟨gu, 0, none⟩)) (.pointer (some ⟨g2, 0, none⟩)) :: rcA g2 lv2 (.pointer (some ⟨gu, 0, none⟩)) false :: rows Q_api_Block lv2 (B2.map BV.t) :: rt (.pointer (some ⟨gu, 0, none⟩)) { x with b := layL (linkT b S2) } :: (chH g gi gm lv iv (.pointer (some ⟨gt, 0, none⟩)) false B ++ (tp (.pointer (some ⟨gt, 0, none⟩)) { x with b := layL (linkT b S2) } :: (As ++ (E2 ++ E))))) := by
        have h1 : Sep w0 z ((wA gw (.pointer (some ⟨gt, 0, none⟩)) (.pointer (some ⟨g, 0, none⟩)) (.pointer (some ⟨gu, 0, none⟩)) (.pointer (some ⟨g2, 0, none⟩)) :: rcA g2 lv2 (.pointer (some ⟨gu, 0, none⟩)) false :: rows Q_api_Block lv2 (B2.map BV.t) :: rt (.pointer (some ⟨gu, 0, none⟩)) { x with b := layL (linkT b S2) } :: (chH g gi gm lv iv (.pointer (some ⟨gt, 0, none⟩)) false B ++ [tp (.pointer (some ⟨gt, 0, none⟩)) { x with b := layL (linkT b S2) }])) ++ (E ++ (As ++ E2))) := by
          simp only [List.cons_append, List.append_assoc, List.nil_append] at hz1 ⊢
          exact hz1
        have h2 := h1.perm (List.Perm.append_left _ (List.perm_append_comm (l₁ := E) (l₂ := As ++ E2)))
        simp only [List.cons_append, List.append_assoc, List.nil_append] at h2 ⊢
        exact h2
      obtain ⟨L, hL⟩ : ∃ L, L = (wA gw (.pointer (some ⟨gt, 0, none⟩)) (.pointer (some ⟨g, 0, none⟩)) (.pointer (some ⟨gu, 0, none⟩)) (.pointer (some ⟨g2, 0, none⟩)) :: rcA g2 lv2 (.pointer (some ⟨gu, 0, none⟩)) false :: rows Q_api_Block lv2 (B2.map BV.t) :: rt (.pointer (some ⟨gu, 0, none⟩)) { x with b := layL (linkT b S2) } :: (chH g gi gm lv iv (.pointer (some ⟨gt, 0, none⟩)) false B ++ (tp (.pointer (some ⟨gt, 0, none⟩)) { x with b := layL (linkT b S2) } :: (As ++ (E2 ++ E))))) := ⟨_, rfl⟩
      rw [← hL] at hz2
      refine drH_S hz2 fun z3 hz3 _ => ?_
      refine jn1_dup ?_
      refine rdS_ld (v := .pointer (some ⟨gt, 0, none⟩)) (fun u hu K hk => by rw [hL] at hu; exact (L_flurrylaw10_world__t (Sep.blk hu) K).mpr hk) ?_
      have hr3 : ChR z3.heap g gi lv iv (.map (some gm)) (.pointer (some ⟨gt, 0, none⟩)) false B := by
        have h1 := hz3
        rw [hL] at h1
        exact chH_rd h1.tail.tail.tail.tail (hD.sub fun A hA => List.mem_cons_of_mem _ (List.mem_append_right _ (List.mem_append_right _ hA)))
      refine efS_i (cal_i (cTape_spec hr3) ?_)
      rintro _ _ ⟨rfl, rfl⟩
      refine ⟨hz3, ?_⟩
      refine ⟨.bool true, fun u _ => by rw [eqTape], ?_⟩
      simp only [fx, Nat.reduceAdd, forall_const]
      rw [hL] at hz3
      refine hR _ _ ⟨rfl, .inr ⟨hbad, g, gi, gm, lv, iv, B, g2, lv2, B2, S2, E2 ++ E, hS2, hB, hB2, hD.sub fun A hA => List.mem_append_right _ hA, hD2.sub fun A hA => List.mem_append_left _ hA, ?_⟩⟩
      exact Sep.pick hz3 [4, 5, 6, 7, 8, 9, 1, 2, 3, 0] 10
theorem cAcc {b : Blk} {v : Value} {y : BV} (hs : Sep w0 w (chH g gi gm lv iv pt over B ++ (tp pt x :: As))) (hx : x.Ok) (hm : x.made = true) (hC : Cub w0) (hb : ∀ z, Sep w0 z As → RdB z.heap v b.d) (hD : DatB B As)
    (hh : b.h ≤ maxI) (hy : B[B.length - 1]? = some y) (hyh : y.1.h ≤ maxI) (hn : B.length ≤ 1000000) :
    cal P f_chain_Chain_Accept [.pointer (some ⟨g, 0, none⟩), bq b v] w fun r w' => r = .int .i64 (acc over x (blks B) y.1 b).1 ∧ ∃ lv' iv' B' E1, blks B' = (acc over x (blks B) y.1 b).2.2.2 ∧ (∀ F, DatB B F → DatB B' (F ++ E1)) ∧
      Sep w0 w' (chH g gi gm lv' iv' pt (acc over x (blks B) y.1 b).2.2.1 B' ++ (tp pt (acc over x (blks B) y.1 b).2.1 :: (As ++ E1))) := by
  refine cal_i (cAccept_spec hs hx hm hC hb hD hh hy hyh hn) ?_
  have same : ∀ F, DatB B F → DatB B (F ++ []) := fun F hF => by rw [List.append_nil]; exact hF
  rintro r w1 (⟨h, rfl, hs1⟩ | ⟨h1, h2, h3, rfl, hs1⟩ | ⟨h1, h2, h3, h4, rfl, lv', iv', vd, hs1⟩ | ⟨h1, h2, h3, h4, rfl, hs1⟩)
  · have e : acc over x (blks B) y.1 b = (5, x, over, blks B) := by unfold acc; rw [if_pos h]
    rw [e]
    exact ⟨rfl, lv, iv, B, [], rfl, same, by rw [List.append_nil]; exact hs1⟩
  · have h0 : ¬ (over = true ∨ x.off = true) := by rw [h1, h2]; simp
    have e : acc over x (blks B) y.1 b = (b.link y.1, x, over, blks B) := by unfold acc; rw [if_neg h0, if_pos h3]
    rw [e]
    exact ⟨rfl, lv, iv, B, [], rfl, same, by rw [List.append_nil]; exact hs1⟩
  · have h0 : ¬ (over = true ∨ x.off = true) := by rw [h1, h2]; simp
    have e : acc over x (blks B) y.1 b = (0, (x.append b.rcd).1, false, blks B ++ [b]) := by unfold acc; rw [if_neg h0, if_neg (by rw [h3]; decide), if_pos h4]
    rw [e]
    refine ⟨rfl, lv', iv', B ++ [(b, vd)], [ownB vd b.d], by simp, fun F hF q hq => ?_, ?_⟩
    · rcases List.mem_append.1 hq with hq | hq
      · exact List.mem_append_left _ (hF q hq)
      · rw [List.mem_singleton.1 hq]; exact List.mem_append_right _ (List.mem_cons_self ..)
    · have h1 : Sep w0 w1 ((chH g gi gm lv' iv' pt false (B ++ [(b, vd)]) ++ [tp pt (x.append b.rcd).1]) ++ ([ownB vd b.d] ++ As)) := by
        simp only [List.cons_append, List.append_assoc, List.nil_append] at hs1 ⊢
        exact hs1
      have h2 := h1.perm (List.Perm.append_left _ (List.perm_append_comm (l₁ := [ownB vd b.d]) (l₂ := As)))
      simp only [List.cons_append, List.append_assoc, List.nil_append] at h2 ⊢
      exact h2
  · have h0 : ¬ (over = true ∨ x.off = true) := by rw [h1, h2]; simp
    have e : acc over x (blks B) y.1 b = ((x.append b.rcd).2, (x.append b.rcd).1, ((x.append b.rcd).2 == 5), blks B) := by unfold acc; rw [if_neg h0, if_neg (by rw [h3]; decide), if_neg h4]
    rw [e]
    exact ⟨rfl, lv, iv, B, [], rfl, same, by rw [List.append_nil]; exact hs1⟩
theorem rcAcc {b : Blk} {v : Value} {y : BV} (hs : Sep w0 w (rcA g lv ut over :: rows Q_api_Block lv (B.map BV.t) :: rt ut x :: As)) (hx : x.Ok) (hb : ∀ z, Sep w0 z As → RdB z.heap v b.d) (hD : DatB B As)
    (hh : b.h ≤ maxI) (hy : B[B.length - 1]? = some y) (hyh : y.1.h ≤ maxI) (hn : B.length ≤ 1000000) :
    cal P f_ref10_Chain_Accept [.pointer (some ⟨g, 0, none⟩), bq b v] w fun r w' => r = .int .i64 (acc over x (blks B) y.1 b).1 ∧ ∃ lv' B' E1, blks B' = (acc over x (blks B) y.1 b).2.2.2 ∧ (∀ F, DatB B F → DatB B' (F ++ E1)) ∧
      Sep w0 w' (rcA g lv' ut (acc over x (blks B) y.1 b).2.2.1 :: rows Q_api_Block lv' (B'.map BV.t) :: rt ut (acc over x (blks B) y.1 b).2.1 :: (As ++ E1)) := by
  refine cal_i (rcAccept_spec hs hx hb hD hh hy hyh hn) ?_
  have same : ∀ F, DatB B F → DatB B (F ++ []) := fun F hF => by rw [List.append_nil]; exact hF
  rintro r w1 (⟨h, rfl, hs1⟩ | ⟨h1, h2, h3, rfl, hs1⟩ | ⟨h1, h2, h3, h4, rfl, lv', vd, hs1⟩ | ⟨h1, h2, h3, h4, rfl, hs1⟩)
  · have e : acc over x (blks B) y.1 b = (5, x, over, blks B) := by unfold acc; rw [if_pos h]
    rw [e]
    exact ⟨rfl, lv, B, [], rfl, same, by rw [List.append_nil]; exact hs1⟩
  · have h0 : ¬ (over = true ∨ x.off = true) := by rw [h1, h2]; simp
    have e : acc over x (blks B) y.1 b = (b.link y.1, x, over, blks B) := by unfold acc; rw [if_neg h0, if_pos h3]
    rw [e]
    exact ⟨rfl, lv, B, [], rfl, same, by rw [List.append_nil]; exact hs1⟩
  · have h0 : ¬ (over = true ∨ x.off = true) := by rw [h1, h2]; simp
    have e : acc over x (blks B) y.1 b = (0, (x.append b.rcd).1, false, blks B ++ [b]) := by unfold acc; rw [if_neg h0, if_neg (by rw [h3]; decide), if_pos h4]
    rw [e]
    refine ⟨rfl, lv', B ++ [(b, vd)], [ownB vd b.d], by simp, fun F hF q hq => ?_, ?_⟩
    · rcases List.mem_append.1 hq with hq | hq
      · exact List.mem_append_left _ (hF q hq)
      · rw [List.mem_singleton.1 hq]; exact List.mem_append_right _ (List.mem_cons_self ..)
    · exact hs1.perm (((List.perm_append_comm (l₁ := [ownB vd b.d]) (l₂ := As)).cons _).cons _ |>.cons _)
  · have h0 : ¬ (over = true ∨ x.off = true) := by rw [h1, h2]; simp
    have e : acc over x (blks B) y.1 b = ((x.append b.rcd).2, (x.append b.rcd).1, ((x.append b.rcd).2 == 5), blks B) := by unfold acc; rw [if_neg h0, if_neg (by rw [h3]; decide), if_neg h4]
    rw [e]
    exact ⟨rfl, lv, B, [], rfl, same, by rw [List.append_nil]; exact hs1⟩
end
end Go.Fx
