/-
  Topo's counts: the program's.
-/
import Derived.Maps.RangeRun
import Derived.KernelRfl
import Derived.Test.YtpdnddcodnpmeaaGreatDoorQ9768f012
import Derived.Test.YtpdnddcodnpmeaaGreatDoorQ952b5fe2
import Derived.Test.YtpdnddcodnpmeaaGreatDoorQd5ec66e2
import Derived.Test.YtpdnddcodnpmeaaGreatDoorQ855ca3e0
import Derived.Test.YtpdnddcodnpmeaaGreatDoorQd3b58593
import Derived.Test.YtpdnddcodnpmeaaGreatDoorQ15a7199f
import Derived.Test.YtpdnddcodnpmeaaGreatDoorQ32d01978
import Derived.Test.YtpdnddcodnpmeaaGreatDoorQ0ec6ddef
import Derived.Test.YtpdnddcodnpmeaaGreatDoorQ330fd3d3
set_option linter.unusedVariables false
set_option linter.unusedSimpArgs false
namespace Go.Fx
def mvOk (t : Tr) (N : List TN) (k : Vec 32) : Bool := (blkOf k N).isSome && decide ((nb k N).1.p = t.root)
def mvT (t : Tr) (N : List TN) (k : Vec 32) : Tr := ⟨k, (nb k N).1.h, t.most⟩
def mvGone (t : Tr) (N : List TN) (k : Vec 32) : List (Vec 32) := (N.map (·.1)).filter fun x => !under t N x k
def mvStay (t : Tr) (N : List TN) (k : Vec 32) : List (Vec 32) := (N.map (·.1)).filter fun x => !decide (x = k) && under t N x k
def mvN (t : Tr) (N : List TN) (k : Vec 32) : List TN := N.filter fun x => !decide (x.1 = k) && under t N x.1 k
theorem findE_idx {n : Nat} {k : Vec n} : ∀ {l : List (Ent n)} {i j : Nat} {v : Value}, findE k l i = some (j, v) → i ≤ j
  | [], _, _, _, h => by simp [findE] at h
  | x :: l, i, j, v, h => by
    unfold findE at h
    split at h
    · simp at h; omega
    · have := findE_idx h; omega
theorem filter_ne_self {n : Nat} {k : Vec n} {l : List (Ent n)} (h : k ∉ l.map (·.1)) : l.filter (fun x => !decide (x.1 = k)) = l := by
  rw [List.filter_eq_self]
  intro x hx
  have : x.1 ≠ k := fun he => h (he ▸ List.mem_map_of_mem hx)
  simp [this]
theorem delE_filter {n : Nat} {k : Vec n} {l : List (Ent n)} (hn : (l.map (·.1)).Nodup) : delE k l = l.filter fun x => !decide (x.1 = k) := by
  have go : ∀ (l : List (Ent n)) (i : Nat), (l.map (·.1)).Nodup → (match findE k l i with
      | some (j, _) => l.eraseIdx (j - i)
      | none => l) = l.filter fun x => !decide (x.1 = k) := by
    intro l
    induction l with
    | nil => intro i _; rfl
    | cons x l ih =>
      intro i hn
      simp only [List.map_cons, List.nodup_cons] at hn
      unfold findE
      by_cases hx : k = x.1
      · rw [if_pos hx]
        subst hx
        simp only [Nat.sub_self, List.eraseIdx_zero, List.tail_cons]
        rw [List.filter_cons_of_neg (by simp), filter_ne_self hn.1]
      · rw [if_neg hx, List.filter_cons_of_pos (by simp; exact fun h => hx h.symm), ← ih (i + 1) hn.2]
        cases hf : findE k l (i + 1) with
        | none => rfl
        | some y =>
          obtain ⟨j, v⟩ := y
          have := findE_idx hf
          simp only
          rw [show j - i = (j - (i + 1)) + 1 by omega, List.eraseIdx_cons_succ]
  unfold delE
  have := go l 0 hn
  cases hf : findE k l 0 with
  | none => rw [hf] at this; exact this
  | some y => rw [hf] at this; exact this
theorem del_N {w0 w : World} {As : List Asn} {gm c : Nat} {N : List TN} {k : Vec 32} {K : Value → World → Prop} (hs : Sep w0 w (mpN gm N c :: As)) (h : ∀ w', Sep w0 w' (mpN gm (N.filter fun x => !decide (x.1 = k)) c :: As) → K (.tuple #[]) w') :
    efP P (Builtin.delete_ #[T_map_api_ID_api_Block, T_api_ID] T_ #[.map (some gm), kv k]) w K := by
  obtain ⟨E, hE, hs2⟩ := mpN_open hs
  refine del_s U_map_api_ID_api_Block KT hs2 fun w' hs' => h w' ?_
  rw [delE_filter hE.nd] at hs'
  exact mpN_close (hE.filter fun y => !decide (y = k)) hs'
theorem keep_step {N : List TN} {G : List (Vec 32)} {x : Vec 32} : (N.filter fun y => !decide (y.1 ∈ G)).filter (fun y => !decide (y.1 = x)) = N.filter fun y => !decide (y.1 ∈ G ++ [x]) := by
  rw [List.filter_filter]
  congr 1
  funext y
  by_cases h1 : y.1 = x <;> by_cases h2 : y.1 ∈ G <;> simp [h1, h2]
section
variable {w0 w w' : World} {As : List Asn} {g gm c : Nat} {ov : Value} {t : Tr} {N : List TN}
theorem Move_spec (hs : Sep w0 w (trH g gm ov t N c ++ As)) (hd : Dat N As) (hw : TrW t N) (hu : (N.map (·.1)).Nodup) (hn : N.length ≤ 1000000) (k : Vec 32) :
    cal P f_tree_Tree_Move [.pointer (some ⟨g, 0, none⟩), kv k] w fun r w' =>
      (mvOk t N k = false ∧ r = .tuple #[.slice none 0 0, .int .i64 4] ∧ Sep w0 w' (trH g gm ov t N c ++ As)) ∨
      (mvOk t N k = true ∧ ∃ gv ov', r = .tuple #[gv, .int .i64 0] ∧ Sep w0 w' (trH g gm ov' (mvT t N k) (mvN t N k) c ++ (rows (rVec 32) gv (mvGone t N k) :: As))) := by
  have hr := trH_rd hs hd
  refine s_tree_Tree_Move fun R hR => ?_
  unfold c_tree_Tree_Move
  refine bx_s (Sep.start w) fun g2 w1 hs1 => ?_
  replace hs1 : Sep w w1 [blk g2 #[.pointer (some ⟨g, 0, none⟩)] T_p_tree_Tree] := hs1
  refine bxQ hs1 fun g3 w2 hs2 => ?_
  refine ld1_i (Sep.p1 hs2).blk rfl ?_
  refine cal_i (tnone_spec (hs2.tr hr)) ?_
  rintro _ _ ⟨rfl, rfl⟩
  simp only [fx, Nat.reduceAdd, forall_const]
  refine drH_S hs2 fun w3 hs3 _ => ?_
  refine rdS_ld (v := .pointer (some ⟨g, 0, none⟩)) (fun u hu K hk => ld1_i (Sep.p1 hu).blk rfl hk) ?_
  simp only [fx, Nat.reduceAdd, forall_const]
  refine rdS_ld (v := .map (some gm)) (fun u hu K hk => by
    obtain ⟨T, fr, hc⟩ := (hu.tr hr).cell
    exact (L_tree_Tree__blocks hc K).mpr hk) ?_
  refine ⟨kv k, fun u hu => (L_api_ID hu.blk _).mpr rfl, ?_⟩
  refine ⟨.tuple #[(getE k (N.map TN.ent)).getD (bq Blk.none (.slice none 0 0)), .bool (getE k (N.map TN.ent)).isSome], fun u hu => ((hu.tr hr).look k _).mpr rfl, ?_⟩
  rw [nb_get, nb_is]
  simp only [fx, Nat.reduceAdd, forall_const]
  refine efS_i (alloc_s hs3 (A_api_Block w3) fun g6 w4 hs4 => ⟨hs4.tail, ?_⟩)
  refine efC_stN (St_api_Block hs4 (one_api_Block (nb_rd (hs4.tr hr) k).one) fun w5 hs5 => ?_)
  refine drw_s hs5 fun w6 hs6 _ => ?_
  obtain ⟨T, fr, hc⟩ := (hs6.tr hr).cell
  have hl2 : ∀ K : Value → Prop, ld1 (.pointer (some ⟨g2, 0, none⟩)) w6.heap K = K (.pointer (some ⟨g, 0, none⟩)) := fun K => by rw [ld1_eq (Sep.p2 hs6).blk]; exact ex_some _ K
  simp only [fx, Nat.reduceAdd, forall_const, L_api_Block hs6.blk, L_api_Block__Parent hs6.blk, L_api_Block__Height hs6.blk, L_api_Block__Data hs6.blk, hl2, L_tree_Tree hc, L_tree_Tree__made hc, L_tree_Tree__root hc, L_tree_Tree__height hc, L_tree_Tree__most hc, L_tree_Tree__blocks hc, L_tree_Tree__order hc, ne_api_ID]
  rw [cnd_bool]
  refine ⟨fun h => ?_, fun h => ?_⟩
  · refine hR _ _ (.inl ⟨?_, rfl, hs.old hs6.fr0⟩)
    unfold mvOk
    simp only [Bool.or_eq_true, Bool.not_eq_true'] at h
    rcases h with h | h
    · rw [h, Bool.false_and]
    · rw [h, Bool.and_false]
  have hok : mvOk t N k = true := by
    unfold mvOk
    simp only [Bool.or_eq_false_iff, Bool.not_eq_false'] at h
    rw [h.1, h.2]
    rfl
  refine cal_i (those_spec (f := f_tree_Tree_Move_1) (cap := [.pointer (some ⟨g2, 0, none⟩), .pointer (some ⟨g3, 0, none⟩)]) (so := fun x => !under t N x k) (hs6.tr hr) hn (by kernel_rfl) ?_) ?_
  · intro z x hz
    have hsz := hs6.old hz
    refine s_tree_Tree_Move_1 fun R hR => ?_
    unfold c_tree_Tree_Move_1
    refine bxQ (Sep.start z) fun g5 w5 hs5 => ?_
    have h2 := hs5.fr0.blk (Sep.p2 hsz).blk (by simp)
    have h3 := hs5.fr0.blk (Sep.p1 hsz).blk (by simp)
    refine ld1_i h2 rfl ?_
    simp only [L_api_ID hs5.blk, L_api_ID h3]
    refine cal_i (Within_spec (TrR.fr (hsz.tr hr) hs5.fr0) hw x k) ?_
    rintro _ w6 ⟨rfl, hf6⟩
    simp only [fx, Nat.reduceAdd, forall_const]
    exact hR _ _ ⟨rfl, (hs5.old hf6).fr0⟩
  rintro gv w7 hs7
  replace hs7 := hs6.join hs7
  rw [ld1_eq (Sep.blk (Sep.p3 hs7))]
  refine ⟨_, rfl, ?_⟩
  refine cal_i (those_spec (f := f_tree_Tree_Move_2) (cap := [.pointer (some ⟨g3, 0, none⟩), .pointer (some ⟨g2, 0, none⟩)]) (so := fun x => !decide (x = k) && under t N x k) (hs7.tr hr) hn (by kernel_rfl) ?_) ?_
  · intro z x hz
    have hsz := hs7.old hz
    refine s_tree_Tree_Move_2 fun R hR => ?_
    unfold c_tree_Tree_Move_2
    refine bxQ (Sep.start z) fun g5 w5 hs5 => ?_
    have h2 := hs5.fr0.blk (Sep.blk (Sep.p3 hsz)) (by simp)
    have h3 := hs5.fr0.blk (Sep.blk (Sep.p2 hsz)) (by simp)
    have hl2 : ∀ K : Value → Prop, ld1 (.pointer (some ⟨g2, 0, none⟩)) w5.heap K = K (.pointer (some ⟨g, 0, none⟩)) := fun K => by rw [ld1_eq h2]; exact ex_some _ K
    simp only [L_api_ID hs5.blk, L_api_ID h3, ne_api_ID]
    by_cases hx : x = k
    · simp only [hx, decide_true, fx, Nat.reduceAdd, forall_const]
      exact hR _ _ ⟨by simp [hx], hs5.fr0⟩
    · simp only [hx, decide_false, fx, Nat.reduceAdd, forall_const]
      refine jn1_dup ?_
      rw [hl2]
      refine cal_i (Within_spec (TrR.fr (hsz.tr hr) hs5.fr0) hw x k) ?_
      rintro _ w6 ⟨rfl, hf6⟩
      simp only [fx, Nat.reduceAdd, forall_const]
      exact hR _ _ ⟨by simp [hx], (hs5.old hf6).fr0⟩
  rintro sv w8 hs8
  replace hs8 := hs7.join hs8
  change Sep w w8 [rows (rVec 32) sv (mvStay t N k), rows (rVec 32) gv (mvGone t N k), blk g6 _ T_api_Block, blk g3 _ T_api_ID, blk g2 _ T_p_tree_Tree] at hs8
  have hA := hs.join hs8
  obtain ⟨G, hG⟩ : ∃ G, G = mvGone t N k := ⟨_, rfl⟩
  have hGl : G.length ≤ 1000000 := by
    rw [hG]
    unfold mvGone
    have := List.length_filter_le (fun x => !under t N x k) (N.map (·.1))
    rw [List.length_map] at this
    omega
  rw [← hG] at hA
  have hA' : Sep w0 w8 (mpN gm (N.filter fun y => !decide (y.1 ∈ G.take 0)) c :: rows (rVec 32) gv G :: blk g3 (Rdr.cells (rVec 32) k).toArray T_api_ID :: blk g2 #[.pointer (some ⟨g, 0, none⟩)] T_p_tree_Tree :: blk g (Rdr.cells Q_tree_Tree (tq t gm ov)).toArray T_tree_Tree ::
      rows (rVec 32) sv (mvStay t N k) :: blk g6 (Rdr.cells Q_api_Block ((nb k N).1.p, (nb k N).1.h, (nb k N).2)).toArray T_api_Block :: rows (rVec 32) ov (N.map (·.1)) :: As) := by
    have e0 : (N.filter fun y => !decide (y.1 ∈ G.take 0)) = N := List.filter_eq_self.2 fun y _ => by simp
    rw [e0]
    exact Sep.pick hA [6, 1, 3, 4, 5, 0, 2, 7] 8
  have hlen : ∀ K, lenS gv K = K (.int .i64 G.length) := fun K => (Sep.rows hA'.p1).len K
  simp only [hlen]
  refine ⟨fun x z => ∃ i : Nat, x = .int .i64 i ∧ i ≤ G.length ∧ Sep w0 z (mpN gm (N.filter fun y => !decide (y.1 ∈ G.take i)) c :: rows (rVec 32) gv G :: blk g3 (Rdr.cells (rVec 32) k).toArray T_api_ID :: blk g2 #[.pointer (some ⟨g, 0, none⟩)] T_p_tree_Tree :: blk g (Rdr.cells Q_tree_Tree (tq t gm ov)).toArray T_tree_Tree ::
      rows (rVec 32) sv (mvStay t N k) :: blk g6 (Rdr.cells Q_api_Block ((nb k N).1.p, (nb k N).1.h, (nb k N).2)).toArray T_api_Block :: rows (rVec 32) ov (N.map (·.1)) :: As), fun x _ => (G.length - RowKit.intOf x).toNat, ⟨0, rfl, by omega, hA'⟩, ?_⟩
  rintro _ w9 ⟨i, rfl, hi, hs9⟩ -
  simp only [fx, Nat.reduceAdd, forall_const]
  rw [cnd_bool]
  refine ⟨fun h => ?_, fun h => ?_⟩
  · have hlt : i < G.length := by simp at h; omega
    obtain ⟨x, hx⟩ : ∃ x, G[i]? = some x := ⟨_, List.getElem?_eq_getElem hlt⟩
    change ixs 32 _ _ _
    refine Rows'.ldN (q := rVec 32) (by decide) (Sep.rows hs9.p1) hx .i64 ?_
    refine alloc_s hs9 (A_api_ID w9) fun g11 w10 hs10 => ?_
    refine St_api_ID (b := x) hs10 fun w11 hs11 => ?_
    refine drH_S hs11 fun w12 hs12 _ => ?_
    refine rdS_ld (v := .pointer (some ⟨g, 0, none⟩)) (fun u hu K hk => ld1_i (Sep.blk (Sep.p4 hu)) rfl hk) ?_
    simp only [fx, Nat.reduceAdd, forall_const]
    refine rdS_ld (v := .map (some gm)) (fun u hu K hk => (L_tree_Tree__blocks (Sep.p5 hu).blk K).mpr hk) ?_
    refine ⟨kv x, fun u hu => (L_api_ID (Sep.blk hu) _).mpr rfl, ?_⟩
    refine efC_efP (del_N hs12.p1 fun w13 hs13 => ?_)
    rw [wi64 (by omega) (by omega)]
    refine ⟨⟨i + 1, by simp, by omega, ?_⟩, by simp [RowKit.intOf]; omega⟩
    have e : (N.filter fun y => !decide (y.1 ∈ G.take (i + 1))) = (N.filter fun y => !decide (y.1 ∈ G.take i)).filter fun y => !decide (y.1 = x) := by
      rw [keep_step, List.take_add_one, hx]
      rfl
    rw [e]
    exact hs13.d1
  have hge : i = G.length := by simp at h; omega
  rw [hge, List.take_of_length_le (Nat.le_refl _)] at hs9
  clear hlen hA' hA
  refine drH_S hs9 fun w10 hs10 _ => ?_
  refine rdS_ld (v := .pointer (some ⟨g, 0, none⟩)) (fun u hu K hk => ld1_i (Sep.blk (Sep.p3 hu)) rfl hk) ?_
  simp only [fx, Nat.reduceAdd, forall_const]
  refine rdS_ld (v := .map (some gm)) (fun u hu K hk => (L_tree_Tree__blocks (Sep.p4 hu).blk K).mpr hk) ?_
  refine ⟨kv k, fun u hu => (L_api_ID (Sep.blk (Sep.p2 hu)) _).mpr rfl, ?_⟩
  refine efC_efP (del_N hs10 fun w11 hs11 => ?_)
  have hfin : (N.filter fun y => !decide (y.1 ∈ G)).filter (fun y => !decide (y.1 = k)) = mvN t N k := by
    rw [List.filter_filter, hG]
    unfold mvN
    refine List.filter_congr fun x hx => ?_
    have hxm : x.1 ∈ N.map (·.1) := List.mem_map_of_mem hx
    show (!decide (x.1 = k) && !decide (x.1 ∈ mvGone t N k)) = _
    congr 1
    have hm : x.1 ∈ mvGone t N k ↔ under t N x.1 k = false := by
      unfold mvGone
      rw [List.mem_filter]
      simp [hxm]
    cases hq : under t N x.1 k
    · simp [hm, hq]
    · simp [hm, hq]
  rw [hfin] at hs11
  have hs12 := Sep.pick hs11 [4, 3, 2, 6, 0, 1, 5, 7] 8
  refine ⟨fun u => ∃ q, Sep w0 u (blk g (Rdr.cells Q_tree_Tree q).toArray T_tree_Tree :: blk g2 #[.pointer (some ⟨g, 0, none⟩)] T_p_tree_Tree :: blk g3 (Rdr.cells (rVec 32) k).toArray T_api_ID ::
    blk g6 (Rdr.cells Q_api_Block ((nb k N).1.p, (nb k N).1.h, (nb k N).2)).toArray T_api_Block :: mpN gm (mvN t N k) c :: rows (rVec 32) gv G :: rows (rVec 32) sv (mvStay t N k) :: rows (rVec 32) ov (N.map (·.1)) :: As), ⟨_, hs12.drew _⟩, ?_⟩
  refine rdS_ld (v := .pointer (some ⟨g, 0, none⟩)) (fun u ⟨q, hu⟩ K hk => ld1_i (Sep.blk (Sep.p1 hu)) rfl hk) ?_
  refine rdS_ld (v := .pointer (some ⟨g, 0, none⟩)) (fun u ⟨q, hu⟩ K hk => ld1_i (Sep.blk (Sep.p1 hu)) rfl hk) ?_
  refine rdS_ld (v := .pointer (some ⟨g, 0, none⟩)) (fun u ⟨q, hu⟩ K hk => ld1_i (Sep.blk (Sep.p1 hu)) rfl hk) ?_
  refine ⟨kv k, fun u ⟨q, hu⟩ => (L_api_ID (Sep.blk (Sep.p2 hu)) _).mpr rfl, ?_⟩
  simp only [fx, Nat.reduceAdd, forall_const]
  refine rdS_ld (v := .int .i64 (nb k N).1.h) (fun u ⟨q, hu⟩ K hk => (L_api_Block__Height (Sep.blk (Sep.p3 hu)) K).mpr hk) ?_
  refine efS_i (St_tree_Tree__root (hs12.drew _) oneVec fun w13 hs13 => ⟨⟨_, hs13⟩, ?_⟩)
  refine efS_i (St_tree_Tree__height hs13 fun w14 hs14 => ⟨⟨_, hs14⟩, ?_⟩)
  refine efC_st1 (St_tree_Tree__order hs14 (Sep.oneR (Sep.pick hs14 [6] 7)) fun w15 hs15 => ?_)
  refine hR _ _ (.inr ⟨hok, gv, sv, rfl, ?_⟩)
  have hs16 := Sep.pick hs15 [0, 4, 6, 5] 8
  have e2 : (mvN t N k).map (·.1) = mvStay t N k := by
    unfold mvN mvStay
    rw [List.filter_map]
    rfl
  subst hG
  unfold trH
  rw [e2]
  exact hs16
end
end Go.Fx
set_option linter.unusedVariables false
set_option linter.unusedSimpArgs false
namespace Go.Fx
/-- A tree to which blocks were added. -/
structure TI (t : Tr) (N : List TN) : Prop where
  w : TrW t N
  nd : (N.map (·.1)).Nodup
  hb : ∀ k, has t N k = true → hgt t N k ≤ N.length
  hi : ∀ x ∈ N, x.2.1.h ≤ maxI
  ht : 0 ≤ t.ht
section
variable {t : Tr} {N : List TN}
theorem TI.nil (h : 0 ≤ t.ht) : TI t [] := ⟨TrW.nil t, by simp, fun k hk => by
  have : k = t.root := by simpa [has, blkOf, nodeOf] using hk
  subst this
  simp [hgt, levH], (fun x hx => by cases hx), h⟩
theorem addE_ok {b : Blk} (h : addE t N b = 0) : b.chk = 0 ∧ has t N b.id = false ∧ has t N b.p = true ∧ 1 ≤ b.h ∧ b.h = levH t N b.p + 1 ∧ (N.length : Int) < t.most := by
  unfold addE at h
  split at h
  · rename_i h1; exact absurd h h1
  rename_i h1
  split at h
  · cases h
  rename_i h2
  split at h
  · cases h
  rename_i h3
  split at h
  · cases h
  rename_i h4
  refine ⟨by simpa using h1, by simpa using h2, ?_, ?_, ?_, by omega⟩
  · cases hp : has t N b.p with
    | true => rfl
    | false => exact absurd (.inl hp) h3
  · by_cases hq : b.h < 1
    · exact absurd (.inr (.inl hq)) h3
    · omega
  · by_cases hq : b.h - 1 = levH t N b.p
    · omega
    · exact absurd (.inr (.inr hq)) h3
theorem has_mem {k : Vec 32} (h : has t N k = true) : k = t.root ∨ k ∈ N.map (·.1) := by
  unfold has at h
  simp only [Bool.or_eq_true, decide_eq_true_eq] at h
  refine h.imp id fun h => ?_
  unfold blkOf nodeOf at h
  rw [Option.isSome_map, List.find?_isSome] at h
  obtain ⟨x, hx, hk⟩ := h
  have hk : k = x.1 := by simpa using hk
  exact hk ▸ List.mem_map_of_mem hx
theorem mem_has {k : Vec 32} (h : k = t.root ∨ k ∈ N.map (·.1)) : has t N k = true := by
  unfold has
  rcases h with rfl | h
  · simp
  · obtain ⟨x, hx, rfl⟩ := List.mem_map.1 h
    have : (blkOf x.1 N).isSome = true := by
      unfold blkOf nodeOf
      rw [Option.isSome_map, List.find?_isSome]
      exact ⟨x, hx, by simp⟩
    simp [this]
theorem lev_ge (hw : TrW t N) {k : Vec 32} (hk : has t N k = true) : t.ht ≤ levH t N k := by
  by_cases hr : k = t.root
  · unfold levH; rw [if_pos hr]; omega
  · have hb := has_blk hk hr
    have := hw.above _ _ hb
    unfold levH
    rw [if_neg hr, hb]
    simp only
    omega
theorem lev_hgt (hw : TrW t N) {k : Vec 32} (hk : has t N k = true) : levH t N k = t.ht + (hgt t N k : Int) := by
  have := lev_ge hw hk
  unfold hgt
  omega
theorem TI.add {b : Blk} {vd : Value} {c : Nat} (hi : TI t N) (h : addE t N b = 0) (hm : b.h ≤ maxI) : TI t (N ++ [(b.id, b, vd, c)]) := by
  obtain ⟨h1, h2, h3, h4, h5, h6⟩ := addE_ok h
  have hnm : b.id ∉ N.map (·.1) := fun hm => by rw [mem_has (.inr hm)] at h2; cases h2
  have hnr : b.id ≠ t.root := fun he => by rw [mem_has (.inl he)] at h2; cases h2
  refine ⟨hi.w.add h, ?_, fun k hk => ?_, fun x hx => ?_, hi.ht⟩
  · rw [List.map_append, List.nodup_append]
    refine ⟨hi.nd, by simp, fun x hx y hy => ?_⟩
    simp only [List.map_cons, List.map_nil, List.mem_singleton] at hy
    subst hy
    intro he
    exact hnm (he ▸ hx)
  · rw [List.length_append, List.length_singleton]
    by_cases hold : has t N k = true
    · have h7 := has_old (x := (b.id, b, vd, c)) hold
      have h8 := hi.hb k hold
      unfold hgt at h8 ⊢
      rw [h7.2]
      omega
    · have hk' : k = b.id := by
        rcases has_mem hk with rfl | hm'
        · exact absurd (mem_has (.inl rfl)) hold
        · rw [List.map_append, List.mem_append] at hm'
          rcases hm' with hm' | hm'
          · exact absurd (mem_has (.inr hm')) hold
          · simpa using hm'
      subst hk'
      have h8 := hi.hb _ h3
      have hl := lev_hgt hi.w h3
      have hb : blkOf b.id (N ++ [(b.id, b, vd, c)]) = some b := by
        rw [blkOf_snoc]
        have : blkOf b.id N = none := by
          unfold has at h2
          simp only [Bool.or_eq_false_iff] at h2
          simpa using h2.2
        rw [this]
        simp
      have : levH t (N ++ [(b.id, b, vd, c)]) b.id = b.h := by
        unfold levH
        rw [if_neg hnr, hb]
      unfold hgt
      rw [this, h5, hl]
      omega
  · rcases List.mem_append.1 hx with hx | hx
    · exact hi.hi x hx
    · obtain rfl : x = (b.id, b, vd, c) := by simpa using hx
      exact hm
/-! ### Ways -/
theorem path_root : pathOf t N t.root = [] := by
  unfold pathOf
  rw [wayUp_root]
  split <;> rfl
theorem path_step (hw : TrW t N) {k : Vec 32} (h : has t N k = true) (hk : k ≠ t.root) : pathOf t N k = pathOf t N (upOf k N) ++ [k] := by
  have h2 := (up_has hw h hk).1
  unfold pathOf
  rw [if_pos h, if_pos h2, wayUp_step hw h hk, List.reverse_cons]
theorem path_ind (hw : TrW t N) {C : Vec 32 → Prop} (h0 : C t.root) (h1 : ∀ k, has t N k = true → k ≠ t.root → C (upOf k N) → C k) : ∀ k, has t N k = true → C k := by
  intro k
  generalize hn : hgt t N k = n
  induction n using Nat.strongRecOn generalizing k with
  | ind n ih =>
    intro hk
    by_cases hr : k = t.root
    · subst hr; exact h0
    · obtain ⟨h2, h3⟩ := up_has hw hk hr
      exact h1 k hk hr (ih _ (by omega) _ rfl h2)
theorem hgt_root : hgt t N t.root = 0 := by simp [hgt, levH]
theorem path_len (hw : TrW t N) : ∀ k, has t N k = true → (pathOf t N k).length = hgt t N k := by
  refine path_ind hw (by rw [path_root, hgt_root]; rfl) fun k hk hr ih => ?_
  rw [path_step hw hk hr, List.length_append, ih, (up_has hw hk hr).2]
  rfl
/-- What stands at a place of a way. -/
theorem path_at (hw : TrW t N) : ∀ k, has t N k = true → ∀ i x, (pathOf t N k)[i]? = some x →
    has t N x = true ∧ x ≠ t.root ∧ hgt t N x = i + 1 ∧ (if i = 0 then some t.root else (pathOf t N k)[i - 1]?) = some (upOf x N) := by
  refine path_ind hw (fun i x hx => by rw [path_root] at hx; simp at hx) fun k hk hr ih i x hx => ?_
  obtain ⟨h2, h3⟩ := up_has hw hk hr
  have hl := path_len hw _ h2
  rw [path_step hw hk hr] at hx ⊢
  by_cases hi : i < (pathOf t N (upOf k N)).length
  · rw [List.getElem?_append_left hi] at hx
    obtain ⟨h4, h5, h6, h7⟩ := ih i x hx
    refine ⟨h4, h5, h6, ?_⟩
    rw [List.getElem?_append_left (by omega)]
    exact h7
  · have hi2 : i = (pathOf t N (upOf k N)).length := by
      have := (List.getElem?_eq_some_iff.1 hx).1
      rw [List.length_append, List.length_singleton] at this
      omega
    subst hi2
    rw [List.getElem?_append_right (Nat.le_refl _), Nat.sub_self] at hx
    simp only [List.getElem?_cons_zero, Option.some.injEq] at hx
    subst hx
    refine ⟨hk, hr, by rw [h3, hl], ?_⟩
    by_cases h0 : (pathOf t N (upOf k N)).length = 0
    · rw [if_pos h0]
      by_cases hur : upOf k N = t.root
      · rw [hur]
      · rw [path_step hw h2 hur, List.length_append] at h0
        simp at h0
    · rw [if_neg h0, List.getElem?_append_left (by omega)]
      have hur : upOf k N ≠ t.root := fun he => by rw [he, path_root] at h0; exact h0 rfl
      rw [path_step hw h2 hur, List.length_append, List.length_singleton, Nat.add_sub_cancel, List.getElem?_append_right (Nat.le_refl _), Nat.sub_self]
      rfl
theorem under_path {a b : Vec 32} (ha : has t N a = true) (hb : has t N b = true) : under t N a b = (decide (b = t.root) || decide (b ∈ pathOf t N a)) := by
  unfold under pathOf
  rw [ha, hb, if_pos rfl]
  simp
theorem blk_h (hw : TrW t N) {k : Vec 32} (hk : has t N k = true) (hr : k ≠ t.root) : (nb k N).1.h = t.ht + (hgt t N k : Int) := by
  rw [← lev_hgt hw hk]
  unfold levH
  rw [if_neg hr, has_blk hk hr]
end
end Go.Fx
set_option linter.unusedVariables false
set_option linter.unusedSimpArgs false
namespace Go.Fx
theorem rdS_rowI {S : World → Prop} {w : World} {v : Value} {l : List Int} {j : Nat} {a : Int} {K : Value → Prop}
    (hw : S w) (hS : ∀ u, S u → Rows' (rInt .i64) u.heap v l) (hj : l[j]? = some a) (k : IntKind) (h : K (.int .i64 a)) : ixs 1 v (.int k (j : Int)) fun t => rdS S (fun w => Go.Fx.ld1 t w.heap) K := by
  obtain ⟨g, o, c, rfl⟩ := (hS w hw).form (by decide) hj
  have hlt := (List.getElem?_eq_some_iff.1 hj).1
  rw [ixs_mk _ _ _ _ _ _ _ _ (by omega) (by omega), Int.toNat_natCast]
  refine ⟨.int .i64 a, fun z hz => ?_, h⟩
  have hat := At.of (by decide) (hS z hz) hj
  have e : (rInt .i64).size = 1 := rfl
  rw [e] at hat
  show Go.Fx.ld1 _ z.heap _
  rw [At.ld1 (v := .int .i64 a) hat]
section
variable {w0 w : World} {As : List Asn}
/-- slices.Equal on names. -/
theorem idsEqual_spec {u v : Value} {a b : List (Vec 32)} (ha : Rows' (rVec 32) w.heap u a) (hb : Rows' (rVec 32) w.heap v b) (hl : a.length ≤ 1000000) : cal P f_slices_Equal_api_ID_api_ID [u, v] w fun r w' => r = .bool (decide (a = b)) ∧ Fr [] w w' := by
  refine s_slices_Equal_api_ID_api_ID fun R hR => ?_
  unfold c_slices_Equal_api_ID_api_ID
  simp only [ha.len, hb.len, fx, Nat.reduceAdd, forall_const]
  rw [cnd_bool]
  refine ⟨fun h => ?_, fun h => ?_⟩
  · have h : a.length ≠ b.length := by simp at h; omega
    exact hR _ _ ⟨by rw [decide_eq_false (fun he => h (by rw [he]))], Fr.refl _ _⟩
  have hab : a.length = b.length := by simp at h; omega
  refine ⟨fun y z => ∃ i : Nat, y = .int .i64 i ∧ i ≤ a.length ∧ a.take i = b.take i ∧ Fr [] w z, fun y _ => (a.length - RowKit.intOf y).toNat, ⟨0, rfl, by omega, by simp, Fr.refl _ _⟩, ?_⟩
  rintro _ w1 ⟨i, rfl, hi, ht, hf⟩ -
  simp only [fx, Nat.reduceAdd, forall_const]
  rw [cnd_bool]
  refine ⟨fun h => ?_, fun h => ?_⟩
  · have hlt : i < a.length := by simp at h; omega
    obtain ⟨x, hx⟩ : ∃ x, a[i]? = some x := ⟨_, List.getElem?_eq_getElem hlt⟩
    obtain ⟨y, hy⟩ : ∃ y, b[i]? = some y := ⟨_, List.getElem?_eq_getElem (by omega)⟩
    refine drw_s ((Sep.start w).old hf) fun w2 hs2 _ => ?_
    change ixs 32 _ _ _
    refine Rows'.ldN (q := rVec 32) (by decide) (ha.fr hs2.fr0) hx .i64 ?_
    change ixs 32 _ _ _
    refine Rows'.ldN (q := rVec 32) (by decide) (hb.fr hs2.fr0) hy .i64 ?_
    rw [ne_api_ID, cnd_bool]
    refine ⟨fun h => ?_, fun h => ?_⟩
    · have h : ¬ x = y := by simpa using h
      refine hR _ _ ⟨?_, hs2.fr0⟩
      rw [decide_eq_false fun he => h (by rw [he, hy] at hx; simpa using hx.symm)]
    · have h : x = y := by simpa using h
      rw [wi64 (by omega) (by omega)]
      exact ⟨⟨i + 1, by simp, by omega, by rw [List.take_add_one, List.take_add_one, ht, hx, hy, h], hs2.fr0⟩, by simp [RowKit.intOf]; omega⟩
  · have hge : i = a.length := by simp at h; omega
    rw [hge, List.take_of_length_le (Nat.le_refl _), List.take_of_length_le (by omega)] at ht
    exact hR _ _ ⟨by rw [decide_eq_true ht], hf⟩
theorem idsIndex_spec {u : Value} {a : List (Vec 32)} (ha : Rows' (rVec 32) w.heap u a) (hl : a.length ≤ 1000000) (k : Vec 32) : cal P f_slices_Index_api_ID_api_ID [u, kv k] w fun r w' => (∃ i : Int, r = .int .i64 i ∧ (decide (0 ≤ i) = decide (k ∈ a))) ∧ Fr [] w w' := by
  refine s_slices_Index_api_ID_api_ID fun R hR => ?_
  unfold c_slices_Index_api_ID_api_ID
  refine bxQ (Sep.start w) fun g w1 hs => ?_
  simp only [ha.len]
  refine ⟨fun y z => ∃ i : Nat, y = .int .i64 i ∧ i ≤ a.length ∧ k ∉ a.take i ∧ Sep w z [blk g (Rdr.cells (rVec 32) k).toArray T_api_ID], fun y _ => (a.length - RowKit.intOf y).toNat, ⟨0, rfl, by omega, by simp, hs⟩, ?_⟩
  rintro _ w2 ⟨i, rfl, hi, ht, hs2⟩ -
  simp only [fx, Nat.reduceAdd, forall_const]
  rw [cnd_bool]
  refine ⟨fun h => ?_, fun h => ?_⟩
  · have hlt : i < a.length := by simp at h; omega
    obtain ⟨x, hx⟩ : ∃ x, a[i]? = some x := ⟨_, List.getElem?_eq_getElem hlt⟩
    refine drw_s hs2 fun w3 hs3 _ => ?_
    simp only [L_api_ID hs3.blk]
    change ixs 32 _ _ _
    refine Rows'.ldN (q := rVec 32) (by decide) (ha.fr hs3.fr0) hx .i64 ?_
    rw [eq_api_ID, cnd_bool]
    refine ⟨fun h => ?_, fun h => ?_⟩
    · have h : k = x := by simpa using h
      refine hR _ _ ⟨⟨i, rfl, ?_⟩, hs3.fr0⟩
      rw [decide_eq_true (by omega), decide_eq_true (h ▸ List.mem_of_getElem? hx)]
    · have h : ¬ k = x := by simpa using h
      rw [wi64 (by omega) (by omega)]
      refine ⟨⟨i + 1, by simp, by omega, ?_, hs3⟩, by simp [RowKit.intOf]; omega⟩
      rw [List.take_add_one, hx, List.mem_append]
      rintro (hm | hm)
      · exact ht hm
      · exact h (by simpa using hm)
  · have hge : i = a.length := by simp at h; omega
    rw [hge, List.take_of_length_le (Nat.le_refl _)] at ht
    exact hR _ _ ⟨⟨-1, rfl, by rw [decide_eq_false (by omega), decide_eq_false ht]⟩, hs2.fr0⟩
theorem idsContains_spec {u : Value} {a : List (Vec 32)} (ha : Rows' (rVec 32) w.heap u a) (hl : a.length ≤ 1000000) (k : Vec 32) : cal P f_slices_Contains_api_ID_api_ID [u, kv k] w fun r w' => r = .bool (decide (k ∈ a)) ∧ Fr [] w w' := by
  refine s_slices_Contains_api_ID_api_ID fun R hR => ?_
  unfold c_slices_Contains_api_ID_api_ID
  refine bxQ (Sep.start w) fun g w1 hs => ?_
  simp only [L_api_ID hs.blk]
  refine cal_i (idsIndex_spec (ha.fr hs.fr0) hl k) ?_
  rintro _ w2 ⟨⟨i, rfl, hi⟩, hf⟩
  simp only [fx, Nat.reduceAdd, forall_const]
  exact hR _ _ ⟨by rw [hi], (hs.old hf).fr0⟩
end
section
variable {w0 w : World} {As : List Asn}
end
end Go.Fx
set_option linter.unusedVariables false
set_option linter.unusedSimpArgs false
namespace Go.Fx
abbrev nms (N : List TN) : List (Vec 32) := N.map (·.1)
section
variable {w0 w : World} {As : List Asn}
theorem bldI {r : Vec 32} {K : Value → World → Prop} {Bs : List Asn} (hs : Sep w0 w Bs) (hk : ∀ a z, Sep w0 z (rows (rVec 32) a [r] :: Bs) → K a z) : efP P (Instr.buildSlice T_sl_api_ID 1 #[(0, kv r)]) w K :=
  rows_lit hs S_sl_api_ID (l := [r]) (V := fun a => .agg (Rdr.cells (rVec 32) a).toArray) (fun a => rfl) rfl rfl (by decide) (by decide) fun g7 w7 hs7 => hk _ _ hs7
theorem bldH {h : Int} {K : Value → World → Prop} {Bs : List Asn} (hs : Sep w0 w Bs) (hk : ∀ a z, Sep w0 z (rows (rInt .i64) a [h] :: Bs) → K a z) : efP P (Instr.buildSlice T_sl_int64 1 #[(0, .int .i64 h)]) w K :=
  rows_lit (q := rInt .i64) hs S_sl_int64 (l := [h]) (V := fun a => .int .i64 a) (fun a => rfl) rfl rfl (by decide) (by decide) fun g7 w7 hs7 => hk _ _ hs7
theorem appI {r : Vec 32} {x a : Value} {ids : List (Vec 32)} {K : Value → World → Prop} {Bs : List Asn} (hs : Sep w0 w (rows (rVec 32) x ids :: Bs)) (ha : Rows' (rVec 32) w.heap a [r]) (hl : ids.length ≤ 1000000)
    (hk : ∀ x' z, Sep w0 z (rows (rVec 32) x' (ids ++ [r]) :: Bs) → K x' z) : efP P (Builtin.append_ #[T_sl_api_ID, T_sl_api_ID] T_sl_api_ID #[x, a]) w K :=
  rows_app S_sl_api_ID U_sl_api_ID (by simp) hs ha (by simp only [List.flatMap_cons, List.flatMap_nil, List.append_nil]; exact oneVec) (by simp; omega) (by simp; omega) fun v8 w8 hs8 => hk _ _ hs8
theorem appH {h : Int} {y b : Value} {hs' : List Int} {K : Value → World → Prop} {Bs : List Asn} (hs : Sep w0 w (rows (rInt .i64) y hs' :: Bs)) (ha : Rows' (rInt .i64) w.heap b [h]) (hl : hs'.length ≤ 1000000)
    (hk : ∀ y' z, Sep w0 z (rows (rInt .i64) y' (hs' ++ [h]) :: Bs) → K y' z) : efP P (Builtin.append_ #[T_sl_int64, T_sl_int64] T_sl_int64 #[y, b]) w K :=
  rows_app (q := rInt .i64) S_sl_int64 U_sl_int64 (by simp) hs ha (by simp only [List.flatMap_cons, List.flatMap_nil, List.append_nil]; exact oneI) (by simp; omega) (by simp; omega) fun v8 w8 hs8 => hk _ _ hs8
theorem three_app {r : Vec 32} {h : Int} {x y : Value} {ids : List (Vec 32)} {hs' : List Int} {K : Value → Value → World → Prop} (hs : Sep w0 w (rows (rVec 32) x ids :: rows (rInt .i64) y hs' :: As)) (hl1 : ids.length ≤ 1000000) (hl2 : hs'.length ≤ 1000000)
    (hk : ∀ x' y' z, Sep w0 z (rows (rVec 32) x' (ids ++ [r]) :: rows (rInt .i64) y' (hs' ++ [h]) :: As) → K x' y' z) :
    (efS (fun u => Sep w0 u As) (efP P (Instr.buildSlice T_sl_api_ID 1 #[(0, kv r)])) w fun a w =>
      (efS (fun u => Sep w0 u As) (efP P (Builtin.append_ #[T_sl_api_ID, T_sl_api_ID] T_sl_api_ID #[x, a])) w fun x' w =>
        efS (fun u => Sep w0 u As) (efP P (Instr.buildSlice T_sl_int64 1 #[(0, .int .i64 h)])) w fun b w =>
        efC (efP P (Builtin.append_ #[T_sl_int64, T_sl_int64] T_sl_int64 #[y, b])) w fun S y' w => K x' y' w) ∧
      ((efS (fun u => Sep w0 u As) (efP P (Instr.buildSlice T_sl_int64 1 #[(0, .int .i64 h)])) w fun b w =>
        efS (fun u => Sep w0 u As) (efP P (Builtin.append_ #[T_sl_api_ID, T_sl_api_ID] T_sl_api_ID #[x, a])) w fun x' w =>
        efC (efP P (Builtin.append_ #[T_sl_int64, T_sl_int64] T_sl_int64 #[y, b])) w fun S y' w => K x' y' w) ∧ True)) ∧
    ((efS (fun u => Sep w0 u As) (efP P (Instr.buildSlice T_sl_int64 1 #[(0, .int .i64 h)])) w fun b w =>
      efS (fun u => Sep w0 u As) (efP P (Instr.buildSlice T_sl_api_ID 1 #[(0, kv r)])) w fun a w =>
      efS (fun u => Sep w0 u As) (efP P (Builtin.append_ #[T_sl_api_ID, T_sl_api_ID] T_sl_api_ID #[x, a])) w fun x' w =>
      efC (efP P (Builtin.append_ #[T_sl_int64, T_sl_int64] T_sl_int64 #[y, b])) w fun S y' w => K x' y' w) ∧ True) := by
  refine ⟨?_, ?_, trivial⟩
  · refine efS_i (bldI hs fun a z hz => ⟨hz.tail.tail.tail, ?_, ?_, trivial⟩)
    · refine efS_i (appI hz.p1 (Sep.rows hz) hl1 fun x' z' hz' => ⟨hz'.tail.tail.tail, ?_⟩)
      refine efS_i (bldH hz' fun b z2 hz2 => ⟨hz2.tail.tail.tail.tail, ?_⟩)
      refine efC_efP (appH (Sep.pick hz2 [3, 0, 1, 2] 4) (Sep.rows hz2) hl2 fun y' z3 hz3 => hk _ _ _ ?_)
      exact Sep.pick hz3 [2, 0] 4
    · refine efS_i (bldH hz fun b z2 hz2 => ⟨hz2.tail.tail.tail.tail, ?_⟩)
      refine efS_i (appI hz2.p2 (Sep.rows hz2.p1) hl1 fun x' z' hz' => ⟨hz'.tail.tail.tail.tail, ?_⟩)
      refine efC_efP (appH (Sep.pick hz' [3, 0, 1, 2] 4) (Sep.rows hz'.p1) hl2 fun y' z3 hz3 => hk _ _ _ ?_)
      exact Sep.pick hz3 [1, 0] 4
  · refine efS_i (bldH hs fun b z hz => ⟨hz.tail.tail.tail, ?_⟩)
    refine efS_i (bldI hz fun a z2 hz2 => ⟨hz2.tail.tail.tail.tail, ?_⟩)
    refine efS_i (appI hz2.p2 (Sep.rows hz2) hl1 fun x' z' hz' => ⟨hz'.tail.tail.tail.tail, ?_⟩)
    refine efC_efP (appH (Sep.pick hz' [3, 0, 1, 2] 4) (Sep.rows hz'.p2) hl2 fun y' z3 hz3 => hk _ _ _ ?_)
    exact Sep.pick hz3 [1, 0] 4
end
end Go.Fx
set_option linter.unusedVariables false
set_option linter.unusedSimpArgs false
namespace Go.Fx
/-- A tree to which blocks were added, and whose root was moved; no block is higher than m above the root. -/
structure TM (t : Tr) (N : List TN) (m : Nat) : Prop where
  w : TrW t N
  nd : (N.map (·.1)).Nodup
  hb : ∀ k, has t N k = true → hgt t N k ≤ m
  hi : ∀ x ∈ N, x.2.1.h ≤ maxI
  ht : 0 ≤ t.ht
section
variable {t : Tr} {N : List TN} {m : Nat}
theorem TI.tm (h : TI t N) : TM t N N.length := ⟨h.w, h.nd, h.hb, h.hi, h.ht⟩
theorem TM.mono {m' : Nat} (h : TM t N m) (hm : m ≤ m') : TM t N m' := ⟨h.w, h.nd, fun k hk => Nat.le_trans (h.hb k hk) hm, h.hi, h.ht⟩
theorem TM.nil (h : 0 ≤ t.ht) : TM t [] m := (TI.nil h).tm.mono (Nat.zero_le _)
theorem TM.add {b : Blk} {vd : Value} {c : Nat} (hi : TM t N m) (h : addE t N b = 0) (hm : b.h ≤ maxI) : TM t (N ++ [(b.id, b, vd, c)]) (m + 1) := by
  obtain ⟨h1, h2, h3, h4, h5, h6⟩ := addE_ok h
  have hnm : b.id ∉ N.map (·.1) := fun hm => by rw [mem_has (.inr hm)] at h2; cases h2
  have hnr : b.id ≠ t.root := fun he => by rw [mem_has (.inl he)] at h2; cases h2
  refine ⟨hi.w.add h, ?_, fun k hk => ?_, fun x hx => ?_, hi.ht⟩
  · rw [List.map_append, List.nodup_append]
    refine ⟨hi.nd, by simp, fun x hx y hy => ?_⟩
    simp only [List.map_cons, List.map_nil, List.mem_singleton] at hy
    subst hy
    intro he
    exact hnm (he ▸ hx)
  · by_cases hold : has t N k = true
    · have h7 := has_old (x := (b.id, b, vd, c)) hold
      have h8 := hi.hb k hold
      unfold hgt at h8 ⊢
      rw [h7.2]
      omega
    · have hk' : k = b.id := by
        rcases has_mem hk with rfl | hm'
        · exact absurd (mem_has (.inl rfl)) hold
        · rw [List.map_append, List.mem_append] at hm'
          rcases hm' with hm' | hm'
          · exact absurd (mem_has (.inr hm')) hold
          · simpa using hm'
      subst hk'
      have h8 := hi.hb _ h3
      have hl := lev_hgt hi.w h3
      have hb : blkOf b.id (N ++ [(b.id, b, vd, c)]) = some b := by
        rw [blkOf_snoc]
        have : blkOf b.id N = none := by
          unfold has at h2
          simp only [Bool.or_eq_false_iff] at h2
          simpa using h2.2
        rw [this]
        simp
      have : levH t (N ++ [(b.id, b, vd, c)]) b.id = b.h := by
        unfold levH
        rw [if_neg hnr, hb]
      unfold hgt
      rw [this, h5, hl]
      omega
  · rcases List.mem_append.1 hx with hx | hx
    · exact hi.hi x hx
    · obtain rfl : x = (b.id, b, vd, c) := by simpa using hx
      exact hm
theorem nodeOf_filter (p : Vec 32 → Bool) (k : Vec 32) : ∀ N : List TN, nodeOf k (N.filter fun x => p x.1) = if p k = true then nodeOf k N else none
  | [] => by simp [nodeOf]
  | x :: N => by
    have ih := nodeOf_filter p k N
    unfold nodeOf at ih ⊢
    by_cases hk : k = x.1
    · subst hk
      by_cases hp : p x.1 = true
      · rw [List.filter_cons_of_pos (p := fun x : TN => p x.1) hp, if_pos hp]
        simp
      · rw [List.filter_cons_of_neg (p := fun x : TN => p x.1) hp, ih, if_neg hp, if_neg hp]
    · rw [List.find?_cons_of_neg (by simpa using hk), ← ih]
      by_cases hp : p x.1 = true
      · rw [List.filter_cons_of_pos (p := fun x : TN => p x.1) hp, List.find?_cons_of_neg (by simpa using hk)]
      · rw [List.filter_cons_of_neg (p := fun x : TN => p x.1) hp]
theorem blkOf_filter (p : Vec 32 → Bool) (k : Vec 32) (N : List TN) : blkOf k (N.filter fun x => p x.1) = if p k = true then blkOf k N else none := by
  unfold blkOf
  rw [nodeOf_filter]
  split <;> rfl
theorem nb_filter (p : Vec 32 → Bool) (k : Vec 32) (N : List TN) (h : p k = true) : nb k (N.filter fun x => p x.1) = nb k N := by
  unfold nb
  rw [nodeOf_filter, if_pos h]
theorem mvN_eq (t : Tr) (N : List TN) (k : Vec 32) : mvN t N k = N.filter fun x => (fun y => !decide (y = k) && under t N y k) x.1 := rfl
theorem mv_blk {k x : Vec 32} : blkOf x (mvN t N k) = if x ≠ k ∧ under t N x k = true then blkOf x N else none := by
  rw [mvN_eq, blkOf_filter (fun y => !decide (y = k) && under t N y k)]
  by_cases h1 : x = k <;> by_cases h2 : under t N x k = true <;> simp [h1, h2]
theorem blk_has {k : Vec 32} {b : Blk} (h : blkOf k N = some b) : has t N k = true := by unfold has; rw [h]; simp
theorem blk_nroot (hw : TrW t N) {k : Vec 32} {b : Blk} (h : blkOf k N = some b) : k ≠ t.root := fun he => by rw [he, hw.noroot] at h; cases h
theorem mvOk_spec {k : Vec 32} (h : mvOk t N k = true) : blkOf k N = some (nb k N).1 ∧ upOf k N = t.root := by
  unfold mvOk at h
  simp only [Bool.and_eq_true, decide_eq_true_eq] at h
  refine ⟨?_, h.2⟩
  rcases nb_blk (k := k) (N := N) with ⟨h1, _⟩ | h1
  · rw [h1] at h; cases h.1
  · exact h1
/-- Who is under the child: its parent is, or is the child. -/
theorem mv_up (hw : TrW t N) {k x : Vec 32} (hk : mvOk t N k = true) (hx : has t N x = true) (hne : x ≠ k) (hu : under t N x k = true) : x ≠ t.root ∧ has t N (upOf x N) = true ∧ (upOf x N = k ∨ under t N (upOf x N) k = true) := by
  obtain ⟨hkb, hkp⟩ := mvOk_spec hk
  have hkh : has t N k = true := blk_has hkb
  have hkr := blk_nroot hw hkb
  rw [under_path hx hkh] at hu
  simp only [Bool.or_eq_true, decide_eq_true_eq] at hu
  have hu : k ∈ pathOf t N x := hu.resolve_left hkr
  have hxr : x ≠ t.root := fun he => by rw [he, path_root] at hu; cases hu
  have h2 := (up_has hw hx hxr).1
  refine ⟨hxr, h2, ?_⟩
  rw [path_step hw hx hxr, List.mem_append] at hu
  rcases hu with hu | hu
  · right
    rw [under_path h2 hkh, decide_eq_true hu, Bool.or_true]
  · exact absurd (by simpa using hu) (Ne.symm hne)
theorem mv_has {k x : Vec 32} (hw : TrW t N) (hk : mvOk t N k = true) (h : has (mvT t N k) (mvN t N k) x = true) : has t N x = true ∧ levH (mvT t N k) (mvN t N k) x = levH t N x := by
  obtain ⟨hkb, hkp⟩ := mvOk_spec hk
  by_cases hx : x = k
  · subst hx
    refine ⟨blk_has hkb, ?_⟩
    unfold levH
    rw [if_pos (show x = (mvT t N x).root from rfl), if_neg (blk_nroot hw hkb), hkb]
    rfl
  · have hb := has_blk h (show x ≠ (mvT t N k).root from hx)
    have hb2 := hb
    rw [mv_blk] at hb
    split at hb
    · rename_i hu
      refine ⟨blk_has hb, ?_⟩
      unfold levH
      rw [if_neg (show x ≠ (mvT t N k).root from hx), if_neg (blk_nroot hw hb), hb2, hb]
    · cases hb
theorem TM.move {k : Vec 32} (hi : TM t N m) (hk : mvOk t N k = true) : TM (mvT t N k) (mvN t N k) m := by
  have hw := hi.w
  obtain ⟨hkb, hkp⟩ := mvOk_spec hk
  have hkh : has t N k = true := blk_has hkb
  have hkr := blk_nroot hw hkb
  have hkl : levH t N k = (nb k N).1.h := by unfold levH; rw [if_neg hkr, hkb]
  have hmem : ∀ x b, blkOf x (mvN t N k) = some b → x ≠ k ∧ under t N x k = true ∧ blkOf x N = some b := fun x b h => by
    rw [mv_blk] at h
    split at h
    · rename_i hu; exact ⟨hu.1, hu.2, h⟩
    · cases h
  have hpar : ∀ x b, blkOf x (mvN t N k) = some b → has (mvT t N k) (mvN t N k) b.p = true := fun x b h => by
    obtain ⟨h1, h2, h3⟩ := hmem x b h
    obtain ⟨h4, h5, h6⟩ := mv_up hw hk (blk_has h3) h1 h2
    have e : b.p = upOf x N := by
      have := has_blk (blk_has (t := t) h3) h4
      rw [h3] at this
      simp only [Option.some.injEq] at this
      unfold upOf
      rw [← this]
    rw [e]
    by_cases hp : upOf x N = k
    · rw [hp]; exact mem_has (.inl rfl)
    · have hu := h6.resolve_left hp
      have hpr : upOf x N ≠ t.root := fun he => by
        rw [he, under_path (mem_has (.inl rfl)) hkh, path_root] at hu
        simp [hkr] at hu
      unfold has
      rw [mv_blk, if_pos ⟨hp, hu⟩, has_blk h5 hpr]
      simp
  have hgt : ∀ x b, blkOf x (mvN t N k) = some b → (nb k N).1.h < b.h := fun x b h => by
    obtain ⟨h1, h2, h3⟩ := hmem x b h
    have hxh := blk_has (t := t) h3
    rw [under_path hxh hkh] at h2
    simp only [Bool.or_eq_true, decide_eq_true_eq] at h2
    have h2 : k ∈ pathOf t N x := h2.resolve_left hkr
    obtain ⟨j, hj⟩ := List.mem_iff_getElem?.1 h2
    have h4 := path_at hw x hxh j k hj
    have hxr : x ≠ t.root := fun he => by rw [he, path_root] at h2; cases h2
    have hlx := path_len hw x hxh
    have hjl := (List.getElem?_eq_some_iff.1 hj).1
    have hlast : (pathOf t N x)[(pathOf t N x).length - 1]? = some x := by
      rw [path_step hw hxh hxr]
      simp
    have hjne : j ≠ (pathOf t N x).length - 1 := fun he => by
      rw [he, hlast] at hj
      exact h1 (by simpa using hj)
    have hbx := blk_h hw hxh hxr
    have hbk := blk_h hw hkh hkr
    have e : (nb x N).1 = b := by
      have := has_blk hxh hxr
      rw [h3] at this
      simpa using this.symm
    rw [e] at hbx
    omega
  refine ⟨⟨fun x b h => ⟨hpar x b h, ?_⟩, hgt, ?_, fun x hx => hw.small x (List.mem_filter.1 hx).1⟩, ?_, fun x hx => ?_, fun x hx => hi.hi x (List.mem_filter.1 hx).1, ?_⟩
  · rw [(mv_has hw hk (hpar x b h)).2]
    exact (hw.up x b (hmem x b h).2.2).2
  · rw [mv_blk]
    exact if_neg fun h => h.1 rfl
  · exact hi.nd.sublist (List.filter_sublist.map _)
  · obtain ⟨h1, h2⟩ := mv_has hw hk hx
    have h3 := hi.hb x h1
    have h4 := hw.above k _ hkb
    unfold Go.Fx.hgt at h3 ⊢
    rw [h2]
    show (levH t N x - (nb k N).1.h).toNat ≤ m
    omega
  · have h4 := hw.above k _ hkb
    have h5 := hi.ht
    show 0 ≤ (nb k N).1.h
    omega
end
end Go.Fx
set_option linter.unusedVariables false
set_option linter.unusedSimpArgs false
namespace Go.Fx
/-- A node's cells. -/
def TN.nd (x : TN) : Vec 32 × Vec 32 × Int × Value := (x.1, x.2.1.p, x.2.1.h, x.2.2.1)
structure RfR (h : Heap) (g : Nat) (lv : Value) (t : Tr) (N : List TN) : Prop where
  cell : ∃ T fr, h[g]? = some (.cells (Rdr.cells Q_flurryref11_Tree (t.root, t.ht, t.most, lv)).toArray T fr)
  rw : Rows' Q_flurryref11_Node h lv (N.map TN.nd)
  dat : ∀ x ∈ N, RdB h x.2.2.1 x.2.1.d
section
variable {w0 w w' : World} {As : List Asn} {g : Nat} {lv : Value} {t : Tr} {N : List TN}
theorem RfR.fr (h : RfR w.heap g lv t N) (hf : Fr [] w w') : RfR w'.heap g lv t N := by
  obtain ⟨T, fr, hc⟩ := h.cell
  exact ⟨⟨T, fr, hf.blk hc (by simp)⟩, h.rw.fr hf, fun x hx => (h.dat x hx).fr hf (off_nil _)⟩
theorem RfR.len (hr : RfR w.heap g lv t N) (K : Value → Prop) : lenS lv K = K (.int .i64 N.length) := by
  have := hr.rw.len K
  rwa [List.length_map] at this
/-- 'L[i]'. -/
theorem RfR.ix (hr : RfR w.heap g lv t N) {i : Nat} {x : TN} (hi : N[i]? = some x) : ∃ g2 o, At w.heap g2 o (Rdr.cells Q_flurryref11_Node x.nd) ∧ ∀ (k : IntKind) (K : Value → Prop), ixs 66 lv (.int k (i : Int)) K = K (.pointer (some ⟨g2, o, none⟩)) := by
  have h1 : (N.map TN.nd)[i]? = some x.nd := by rw [List.getElem?_map, hi]; rfl
  exact Rows'.ix (q := Q_flurryref11_Node) (by decide) hr.rw h1
theorem RfR.nb (hr : RfR w.heap g lv t N) (k : Vec 32) : RdB w.heap (nb k N).2 (nb k N).1.d := by
  unfold Go.Fx.nb
  cases hno : nodeOf k N with
  | none => exact rdNil w
  | some x => exact hr.dat x (List.mem_of_find?_eq_some hno)
end
end Go.Fx
set_option linter.unusedVariables false
set_option linter.unusedSimpArgs false
namespace Go.Fx
/-- An effect that is a cut, behind which whatever holds. -/
theorem efC_cut {f : World → (Value → World → Prop) → Prop} {w : World} {K : (World → Prop) → Value → World → Prop} (h : f w fun v w' => ∃ S : World → Prop, S w' ∧ K S v w') : efC f w K := h
/-- An iterator of n values: what it hands over at place i is known by 'arg'; M: the memory that it looks at is as it was. -/
def Iter (P : Program) (g : Value) (M : Heap → Prop) (n : Nat) (arg : Nat → World → List Value → Prop) : Prop :=
  ∃ gf cap, g = .func (.func gf) #[] cap ∧ callable P gf = true ∧ ∀ (y : Value) (w0 w : World) (J : Nat → List Asn → Prop) (X : List Asn → Prop) (As : List Asn), y.oneCell' = true → J 0 As → Sep w0 w As →
    (∀ i Bs Ls z, J i Bs → Sep w0 z (Bs ++ Ls) → M z.heap) →
    (∀ i args z Bs Ls, i < n → arg i z args → J i Bs → Sep w0 z (Bs ++ Ls) → calY P y args z fun r z' => (r = .bool true ∧ ∃ Cs, J (i + 1) Cs ∧ Sep w0 z' (Cs ++ Ls)) ∨ (r = .bool false ∧ ∃ Cs, X Cs ∧ Sep w0 z' (Cs ++ Ls))) →
    cal P gf (y :: cap.toList) w fun r z' => r = .tuple #[] ∧ ((∃ Cs, J n Cs ∧ Sep w0 z' Cs) ∨ ∃ Cs, X Cs ∧ Sep w0 z' Cs)
section
variable {w0 w w' : World} {As Bs : List Asn}
theorem Sep.rot (h : Sep w0 w (As ++ Bs)) : Sep w0 w (Bs ++ As) := h.perm List.perm_append_comm
theorem Sep.objUpd {g : Nat} {o : Obj} (o' : Obj) (h : Sep w0 w (.obj g o :: As)) : Sep w0 (setBlk w g o') (.obj g o' :: As) := by
  obtain ⟨F, ⟨hb, rfl⟩, hk⟩ := h.upd
  exact hk _ [g] (.obj g o') ⟨setBlk_self w g _ _ hb, rfl⟩ (fr_setBlk w g _) (Grew.refl _ _)
theorem Sep.objAt {g : Nat} {o : Obj} (h : Sep w0 w (.obj g o :: As)) : w.heap[g]? = some o := by
  obtain ⟨F, ⟨hb, rfl⟩, hk⟩ := h.upd
  exact hb
theorem takeD_s {D : Nat} {K : World → Prop} (hs : Sep w0 w (.obj D dfB :: As)) (h : ∀ w', Sep w0 w' As → K w') : takeD [D] w K :=
  ⟨hs.objAt, h _ (hs.objUpd _).tail⟩
theorem rng_s {P : Program} {g : Value} {M : Heap → Prop} {n k : Nat} {arg : Nat → World → List Value → Prop} {rnd : List Value → World → (World → (World → Prop) → Prop) → (Option Code → World → Prop) → Prop}
    {out : Nat → List (Option Code × (World → Prop))} (hs : Sep w0 w As) (hit : Iter P g M n arg) (hk : ∀ i z args, arg i z args → args.length = k)
    (J : Nat → List Asn → Prop) (X : Code → List Asn → Prop) (h0 : J 0 As) (hM : ∀ i Bs Ls z, J i Bs → Sep w0 z (Bs ++ Ls) → M z.heap)
    (hrnd : ∀ (i : Nat) (args : List Value) (z : World) (Bs LR LB : List Asn) (bg : World → (World → Prop) → Prop) (fin : Option Code → World → Prop), i < n → J i Bs → arg i z args → Sep w0 z (Bs ++ LR) →
      (∀ z' Cs K, Sep w0 z' (Cs ++ LR) → (∀ z'', Sep w0 z'' (Cs ++ LB) → K z'') → bg z' K) →
      (∀ z' Cs, J (i + 1) Cs → Sep w0 z' (Cs ++ LB) → fin none z') → (∀ j z' Cs, X j Cs → Sep w0 z' (Cs ++ LB) → fin (some j) z') → rnd args z bg fin)
    (hN : ∀ D Bs z, J n Bs → Sep w0 z (.obj D dfB :: Bs) → outL none z (out D)) (hX : ∀ D j Bs z, X j Bs → Sep w0 z (.obj D dfB :: Bs) → outL (some j) z (out D)) : rng P g k w rnd out := by
  obtain ⟨gf, cap, hg, hcal, hI⟩ := hit
  refine ⟨gf, cap, hg, hcal, fun y rec h1 hy => ?_⟩
  have swap2 : ∀ {z : World} {Cs : List Asn} {A B : Asn}, Sep w0 z (Cs ++ [A, B]) → Sep w0 z (A :: B :: Cs) := fun h => Sep.rot h
  have swap3 : ∀ {z : World} {Cs : List Asn} {A B : Asn}, Sep w0 z (A :: B :: Cs) → Sep w0 z (Cs ++ [A, B]) := fun {z Cs A B} h => Sep.rot (As := [A, B]) h
  -- the record at the head, and back
  have hd : ∀ {z : World} {Cs Ls : List Asn} {A : Asn}, Sep w0 z (Cs ++ (A :: Ls)) → Sep w0 z (A :: (Cs ++ Ls)) := fun h => h.perm List.perm_middle
  have bk : ∀ {z : World} {Cs Ls : List Asn} {A : Asn}, Sep w0 z (A :: (Cs ++ Ls)) → Sep w0 z (Cs ++ (A :: Ls)) := fun h => h.perm List.perm_middle.symm
  refine cal_i (hI y w0 _ (fun i Bs => ∃ Cs, J i Cs ∧ Bs = Cs ++ [.obj (w.heap.size + 1) (rec .ready none), .obj w.heap.size dfB])
    (fun Bs => ∃ j Cs, X j Cs ∧ Bs = Cs ++ [.obj (w.heap.size + 1) (rec .done (some j)), .obj w.heap.size dfB]) (As ++ [.obj (w.heap.size + 1) (rec .ready none), .obj w.heap.size dfB]) h1 ⟨As, h0, rfl⟩ (swap3 ?_) ?_ ?_) ?_
  · have h2 : Sep w0 (w.alloc dfB) (.obj w.heap.size dfB :: As) := hs.new (F' := [w.heap.size]) (fr_alloc w _) (B := .obj w.heap.size dfB) ⟨alloc_new w _, rfl⟩ (by simp)
    have e : (w.alloc dfB).heap.size = w.heap.size + 1 := by simp
    refine h2.new (F' := [w.heap.size + 1]) (fr_alloc _ _) (B := .obj (w.heap.size + 1) (rec .ready none)) ⟨?_, rfl⟩ (by simp)
    have := alloc_new (w.alloc dfB) (rec .ready none)
    rwa [e] at this
  · rintro i _ Ls z ⟨Cs, hJ, rfl⟩ hB
    rw [List.append_assoc] at hB
    exact hM i Cs _ z hJ hB
  · rintro i args z _ Ls hi harg ⟨Bs, hJ, rfl⟩ hB
    rw [List.append_assoc] at hB
    refine hy args z _ (hk i z args harg) (hd hB).objAt ?_
    refine hrnd i args z Bs _ (.obj (w.heap.size + 1) (rec .busy none) :: .obj w.heap.size dfB :: Ls) _ _ hi hJ harg hB ?_ ?_ ?_
    · intro z' Cs K hz hK
      exact ⟨(hd hz).objAt, hK _ (bk ((hd hz).objUpd _))⟩
    · intro z' Cs hC hz
      exact ⟨(hd hz).objAt, .inl ⟨rfl, _, ⟨Cs, hC, rfl⟩, by rw [List.append_assoc]; exact bk ((hd hz).objUpd _)⟩⟩
    · intro j z' Cs hC hz
      exact ⟨(hd hz).objAt, .inr ⟨rfl, _, ⟨j, Cs, hC, rfl⟩, by rw [List.append_assoc]; exact bk ((hd hz).objUpd _)⟩⟩
  · rintro v z ⟨-, ⟨_, ⟨Bs, hJ, rfl⟩, hB⟩ | ⟨_, ⟨j, Bs, hX', rfl⟩, hB⟩⟩
    · exact ⟨none, (swap2 hB).objAt, hN _ Bs _ hJ ((swap2 hB).objUpd _).tail⟩
    · exact ⟨some j, (swap2 hB).objAt, hX _ j Bs _ hX' ((swap2 hB).objUpd _).tail⟩
end
end Go.Fx
set_option linter.unusedVariables false
set_option linter.unusedSimpArgs false
namespace Go.Fx
section
variable {w0 w w' : World} {As : List Asn} {g : Nat} {lv : Value} {t : Tr} {N : List TN}
end
end Go.Fx
set_option linter.unusedVariables false
set_option linter.unusedSimpArgs false
namespace Go.Fx
section
variable {P : Program} {n : Nat} {w0 w : World} {As : List Asn}
abbrev mit (gi gm c : Nat) (D : List (Ent n)) : Asn := Asn.obj gi (.mapIter (some gm) c (D.map (·.2.2)).toArray c)
theorem range_s {M T V gm c : Nat} {E : List (Ent n)} {K : Value → World → Prop} (hM : P.underlying M = some (.map T V)) (hs : Sep w0 w As) (hm : w.heap[gm]? = some (.map (ents E) c))
    (h : ∀ gi w', Sep w0 w' (mit (n := n) gi gm c [] :: As) → K (.pointer (some ⟨gi, 0, none⟩)) w') : efP P (Instr.range M (.map (some gm))) w K := by
  refine ⟨.pointer (some ⟨w.heap.size, 0, none⟩), w.alloc (.mapIter (some gm) c #[] c), ?_, h _ _ (hs.new (fr_alloc w _) (B := mit w.heap.size gm c []) ⟨alloc_new w _, rfl⟩ (by simp))⟩
  unfold Instr.range
  simp only [Sem.run_bind, run_underlying hM, Result.andThen_ok, get_map hm, Sem.run_pure]
  rfl
theorem mem_left {E : List (Ent n)} {D : List (Ent n)} {e : MapEntry} : e ∈ (leftOf (ents E) (D.map (·.2.2)).toArray).toList ↔ ∃ x ∈ E, e = entM x ∧ x.2.2 ∉ D.map (·.2.2) := by
  unfold leftOf ents
  simp only [Array.toList_filter, List.mem_filter, List.mem_map, Bool.not_eq_true', Array.contains_toList, List.contains_toArray]
  constructor
  · rintro ⟨⟨x, hx, rfl⟩, h⟩
    refine ⟨x, hx, rfl, ?_⟩
    rintro ⟨y, hy, he⟩
    have : (List.map (fun x => x.2.2) D).contains (entM x).born = true := by
      rw [List.contains_iff_mem]
      exact List.mem_map.2 ⟨y, hy, he⟩
    rw [h] at this
    cases this
  · rintro ⟨x, hx, rfl, h⟩
    refine ⟨⟨x, hx, rfl⟩, ?_⟩
    cases hc : (List.map (fun x => x.2.2) D).contains (entM x).born with
    | false => rfl
    | true =>
      rw [List.contains_iff_mem] at hc
      exact absurd (List.mem_map.1 hc) h
theorem next_s {gi gm c ty : Nat} {E D : List (Ent n)} {K : Value → World → Prop} (hs : Sep w0 w (mit gi gm c D :: As)) (hm : w.heap[gm]? = some (.map (ents E) c)) (hlt : ∀ x ∈ E, x.2.2 < c)
    (hend : (∀ x ∈ E, x.2.2 ∈ D.map (·.2.2)) → K (.tuple #[.bool false]) w)
    (hstep : ∀ x w', x ∈ E → x.2.2 ∉ D.map (·.2.2) → w'.heap[gm]? = some (.map (ents E) c) → Sep w0 w' (mit gi gm c (D ++ [x]) :: As) → K (.tuple #[.bool true, kv x.1, x.2.1]) w') :
    efP P (Instr.next (.pointer (some ⟨gi, 0, none⟩)) false ty) w K := by
  have hg : w.heap[gi]? = some (.mapIter (some gm) c (D.map (·.2.2)).toArray c) := by
    obtain ⟨F, ⟨hb, rfl⟩, hk⟩ := hs.upd
    exact hb
  have hne : gm ≠ gi := fun he => by rw [he, hg] at hm; cases hm
  rcases run_next_at (P := P) w ty gi gm c c (D.map (·.2.2)).toArray (ents E) c hg hm (fun x hx => by
      obtain ⟨y, hy, rfl⟩ : ∃ y ∈ E, entM y = x := by simpa [ents] using hx
      exact hlt y hy) (Nat.le_refl _) with ⟨h0, hr⟩ | ⟨e, he, w1, hw1, hr⟩
  · refine ⟨_, _, hr, hend fun x hx => ?_⟩
    cases hc : decide (x.2.2 ∈ D.map (·.2.2)) with
    | true => exact of_decide_eq_true hc
    | false =>
      have := mem_left.2 ⟨x, hx, rfl, of_decide_eq_false hc⟩
      have h1 : (leftOf (ents E) (D.map (·.2.2)).toArray).toList = [] := List.eq_nil_of_length_eq_zero (by simpa using h0)
      rw [h1] at this
      cases this
  · obtain ⟨x, hx, rfl, hn⟩ := mem_left.1 he
    refine ⟨_, _, hr, ?_⟩
    have hs1 : Sep w0 w1 (mit gi gm c D :: As) := by
      rcases hw1 with rfl | rfl
      · exact hs
      · exact hs.drew _
    have hm1 : w1.heap[gm]? = some (.map (ents E) c) := by rcases hw1 with rfl | rfl <;> exact hm
    obtain ⟨F, ⟨hb, rfl⟩, hk⟩ := hs1.upd
    have e1 : (D.map (·.2.2)).toArray.push (entM x).born = ((D ++ [x]).map (·.2.2)).toArray := by
      apply Array.ext'
      simp [entM]
    rw [e1]
    refine hstep x _ hx hn ?_ (hk _ [gi] (mit gi gm c (D ++ [x])) ⟨setBlk_self w1 gi _ _ hb, rfl⟩ (fr_setBlk w1 gi _) (Grew.refl _ _))
    show (setBlk w1 gi _).heap[gm]? = _
    rw [setBlk_ne w1 _ hne]
    exact hm1
theorem entry_i {gi gm c : Nat} {E D : List (Ent n)} {x : Ent n} {h : Heap} (hg : w.heap[gi]? = some (.mapIter (some gm) c ((D ++ [x]).map (·.2.2)).toArray c)) (hm : w.heap[gm]? = some (.map (ents E) c)) (hx : x ∈ E) (hb : (E.map (·.2.2)).Nodup) (K : Value → Prop) :
    rdP P (Instr.entry (.pointer (some ⟨gi, 0, none⟩))) w K = K (.tuple #[kv x.1, x.2.1]) := by
  refine rdP_eq ?_ K
  have e1 : (D.map (·.2.2)).toArray.push (entM x).born = ((D ++ [x]).map (·.2.2)).toArray := by
    apply Array.ext'
    simp [entM]
  rw [← e1] at hg
  exact run_entry_at w gi gm c _ (ents E) c (entM x) hg hm (by simp only [ents, List.mem_map]; exact ⟨x, hx, rfl⟩) (by
    have : (ents E).toList.map (·.born) = E.map (·.2.2) := by simp [ents, entM, Function.comp_def]
    rw [this]; exact hb)
/-- A key's value, by the entries. -/
theorem getE_iff {k : Vec n} {v : Value} : ∀ {l : List (Ent n)}, (l.map (·.1)).Nodup → (getE k l = some v ↔ ∃ x ∈ l, x.1 = k ∧ x.2.1 = v)
  | [], _ => by simp [getE]
  | y :: l, hn => by
    rw [List.map_cons, List.nodup_cons] at hn
    have ih := getE_iff (k := k) (v := v) hn.2
    unfold getE at ih ⊢
    by_cases hk : k = y.1
    · subst hk
      rw [List.find?_cons_of_pos (by simp)]
      simp only [Option.map_some, Option.some.injEq]
      constructor
      · intro h; exact ⟨y, by simp, rfl, h⟩
      · rintro ⟨x, hx, h1, h2⟩
        rcases List.mem_cons.1 hx with rfl | hx
        · exact h2
        · exact absurd (h1 ▸ List.mem_map_of_mem hx) hn.1
    · rw [List.find?_cons_of_neg (by simpa using hk), ih]
      constructor
      · rintro ⟨x, hx, h⟩; exact ⟨x, by simp [hx], h⟩
      · rintro ⟨x, hx, h1, h2⟩
        rcases List.mem_cons.1 hx with rfl | hx
        · exact absurd h1.symm hk
        · exact ⟨x, hx, h1, h2⟩
theorem getE_perm {k : Vec n} {l m : List (Ent n)} (hp : l.Perm m) (hn : (l.map (·.1)).Nodup) : getE k l = getE k m := by
  have hn2 : (m.map (·.1)).Nodup := (hp.map _).nodup_iff.1 hn
  cases h1 : getE k l with
  | some v =>
    obtain ⟨x, hx, h⟩ := (getE_iff hn).1 h1
    exact ((getE_iff hn2).2 ⟨x, hp.mem_iff.1 hx, h⟩).symm
  | none =>
    cases h2 : getE k m with
    | none => rfl
    | some v =>
      obtain ⟨x, hx, h⟩ := (getE_iff hn2).1 h2
      rw [(getE_iff hn).2 ⟨x, hp.mem_iff.2 hx, h⟩] at h1
      cases h1
theorem getE_same {k : Vec n} : ∀ {l m : List (Ent n)}, l.map (fun x => (x.1, x.2.1)) = m.map (fun x => (x.1, x.2.1)) → getE k l = getE k m
  | [], [], _ => rfl
  | [], _ :: _, h => by simp at h
  | _ :: _, [], h => by simp at h
  | x :: l, y :: m, h => by
    simp only [List.map_cons, List.cons.injEq, Prod.mk.injEq] at h
    have ih := getE_same (k := k) h.2
    unfold getE at ih ⊢
    by_cases hk : k = x.1
    · rw [List.find?_cons_of_pos (by simpa using hk), List.find?_cons_of_pos (by rw [← h.1.1]; simpa using hk)]
      simp [h.1.2]
    · rw [List.find?_cons_of_neg (by simpa using hk), List.find?_cons_of_neg (by rw [← h.1.1]; simpa using hk)]
      exact ih
end
end Go.Fx
set_option linter.unusedVariables false
set_option linter.unusedSimpArgs false
namespace Go.Fx
/-- How many entries an iterator has told. -/
def itSeen (gi : Nat) (z : World) : Nat := match z.heap[gi]? with
  | some (.mapIter _ _ seen _) => seen.size
  | _ => 0
section
variable {w0 w w' : World} {As : List Asn} {g gm c : Nat} {ov : Value} {t : Tr} {N : List TN}
theorem idsClone_spec {v : Value} {l : List (Vec 32)} (hv : Rows' (rVec 32) w.heap v l) (hl : l.length ≤ 1000000) : cal P f_slices_Clone_api_ID_api_ID [v] w fun r w' => Sep w w' [rows (rVec 32) r l] := by
  refine s_slices_Clone_api_ID_api_ID fun R hR => ?_
  unfold c_slices_Clone_api_ID_api_ID
  obtain ⟨a, c, rfl, hl', hh⟩ := id hv
  cases a with
  | none =>
    have h0 : l = [] := by
      rcases hh with h0 | ⟨_, _, _, _, _, h, _⟩
      · refine List.eq_nil_of_length_eq_zero ?_
        have : (rVec 32).size = 32 := rfl
        rw [this] at h0
        omega
      · cases h
    subst h0
    simp only [fx, Nat.reduceAdd, forall_const]
    exact hR _ _ (Sep.start w).nilR
  | some a =>
    simp only [fx, Nat.reduceAdd, forall_const]
    have hb1 : ∀ w : World, (Instr.buildSlice T_sl_api_ID 0 #[]).run P w = .ok (.slice (some ⟨w.heap.size, 0, none⟩) 0 0) (w.alloc (.cells ([] : List Value).toArray T_api_ID)) := fun w => by kernel_rfl
    refine build_s (size := 32) (Sep.start w) (cs := []) rfl (hb1 w) fun g w1 hs1 => ?_
    replace hs1 : Sep w w1 [rows (rVec 32) (.slice (some ⟨g, 0, none⟩) 0 0) []] := hs1
    refine rows_app S_sl_api_ID U_sl_api_ID (by simp) hs1 (hv.fr hs1.fr0) ?_ (by simp; omega) (by simp; omega) fun v8 w8 hs8 => ?_
    · intro u hu
      obtain ⟨x, hx, hu⟩ := List.mem_flatMap.1 hu
      exact oneVec u hu
    · exact hR _ _ (by simpa using hs8)
theorem tClone_spec (hr : TrR w.heap g gm ov t N c) (hn : N.length ≤ 1000000) : cal P f_tree_Tree_Clone [.pointer (some ⟨g, 0, none⟩)] w fun r w' => ∃ g' gm' ov' c', r = .pointer (some ⟨g', 0, none⟩) ∧ Sep w w' (trH g' gm' ov' t N c') := by
  refine s_tree_Tree_Clone fun R hR => ?_
  unfold c_tree_Tree_Clone
  refine cal_i (tnone_spec hr) ?_
  rintro _ _ ⟨rfl, rfl⟩
  simp only [fx, Nat.reduceAdd, forall_const]
  refine drH_S (Sep.start w) fun w1 hs1 _ => ?_
  refine ⟨fun y z => ∃ g' gm' ov', y = .pointer (some ⟨g', 0, none⟩) ∧ Sep w z [blk g' (Rdr.cells Q_tree_Tree (tq t gm' ov')).toArray T_tree_Tree, mp (n := 32) gm' [] 0, rows (rVec 32) ov' (N.map (·.1))], ?_, ?_⟩
  · have rd : ∀ {u : World}, Sep w u [] → ∃ T fr, u.heap[g]? = some (.cells (Rdr.cells Q_tree_Tree (tq t gm ov)).toArray T fr) := fun hu => (hu.tr hr).cell
    refine ⟨kv t.root, fun u hu => by obtain ⟨T, fr, hc⟩ := rd hu; exact (L_tree_Tree__root hc _).mpr rfl, ?_⟩
    refine rdS_ld (v := .int .i64 t.ht) (fun u hu K hk => by obtain ⟨T, fr, hc⟩ := rd hu; exact (L_tree_Tree__height hc K).mpr hk) ?_
    refine rdS_ld (v := .int .i64 t.most) (fun u hu K hk => by obtain ⟨T, fr, hc⟩ := rd hu; exact (L_tree_Tree__most hc K).mpr hk) ?_
    refine rdS_ld (v := ov) (fun u hu K hk => by obtain ⟨T, fr, hc⟩ := rd hu; exact (L_tree_Tree__order hc K).mpr hk) ?_
    refine ⟨?_, ?_, trivial⟩
    · refine efS_i (makeMap_s (n := 32) hs1 fun gm' w2 hs2 => ⟨hs2.tail, ?_⟩)
      refine efS_i (cal_i (idsClone_spec (hr.ord.fr hs2.fr0) (by simpa using hn)) ?_)
      intro ov' w3 hs3
      replace hs3 := hs2.join hs3
      have h1 := Sep.oneR hs3
      refine ⟨hs3.tail.tail, ?_⟩
      refine ⟨.agg (Rdr.cells Q_tree_Tree (tq t gm' ov')).toArray, fun u hu => by rw [B_tree_Tree_0_1_2_3_4_5 rfl h1], ?_⟩
      refine bxQ hs3 fun g' w4 hs4 => ?_
      exact ⟨Eq w4, rfl, g', gm', ov', rfl, Sep.pick hs4 [0, 2, 1] 3⟩
    · refine efS_i (cal_i (idsClone_spec (hr.ord.fr hs1.fr0) (by simpa using hn)) ?_)
      intro ov' w3 hs3
      replace hs3 := hs1.join hs3
      have h1 := Sep.oneR hs3
      refine ⟨hs3.tail, ?_⟩
      refine efS_i (makeMap_s (n := 32) hs3 fun gm' w2 hs2 => ⟨hs2.tail.tail, ?_⟩)
      refine ⟨.agg (Rdr.cells Q_tree_Tree (tq t gm' ov')).toArray, fun u hu => by rw [B_tree_Tree_0_1_2_3_4_5 rfl h1], ?_⟩
      refine bxQ hs2 fun g' w4 hs4 => ?_
      exact ⟨Eq w4, rfl, g', gm', ov', rfl, hs4⟩
  rintro _ w2 ⟨g', gm', ov', rfl, hs2⟩ _
  have hr2 := hs2.tr hr
  obtain ⟨T, fr, hc⟩ := hr2.cell
  simp only [fx, Nat.reduceAdd, forall_const, L_tree_Tree hc, L_tree_Tree__made hc, L_tree_Tree__root hc, L_tree_Tree__height hc, L_tree_Tree__most hc, L_tree_Tree__blocks hc, L_tree_Tree__order hc]
  obtain ⟨E, hE, hm⟩ := hr.map
  have fm : ∀ {z : World}, Fr [] w z → z.heap[gm]? = some (.map (ents E) c) := fun hf => hf.blk hm (by simp)
  refine range_s U_map_api_ID_api_Block hs2 (fm hs2.fr0) fun gi w3 hs3 => ?_
  refine ⟨fun z => ∃ (D U E2 : List (Ent 32)) (c2 : Nat), (D ++ U).Perm E ∧ E2.map (fun x => (x.1, x.2.1)) = D.map (fun x => (x.1, x.2.1)) ∧ (E2.map (·.2.2)).Nodup ∧ (∀ x ∈ E2, x.2.2 < c2) ∧
    Sep w z [mit gi gm c D, blk g' (Rdr.cells Q_tree_Tree (tq t gm' ov')).toArray T_tree_Tree, mp gm' E2 c2, rows (rVec 32) ov' (N.map (·.1))], fun z => E.length - itSeen gi z, ⟨[], E, [], 0, List.Perm.refl _, rfl, by simp, (fun x hx => by cases hx), hs3⟩, ?_⟩
  rintro w4 ⟨D, U, E2, c2, hp, h2, hb2, hlt2, hs4⟩ -
  have hnb : ((D ++ U).map (·.2.2)).Nodup := ((hp.map _).nodup_iff).2 hE.bn
  have hnk : ((D ++ U).map (·.1)).Nodup := ((hp.map _).nodup_iff).2 hE.nd
  have hk2 : E2.map (·.1) = D.map (·.1) := by
    have := congrArg (List.map Prod.fst) h2
    simpa [Function.comp_def] using this
  refine next_s (E := E) (D := D) hs4 (fm hs4.fr0) hE.lt (fun hall => ?_) fun x w5 hx hxn hm5 hs5 => ?_
  · simp only [fx, Nat.reduceAdd, forall_const]
    have hU : U = [] := by
      cases U with
      | nil => rfl
      | cons u U =>
        exfalso
        have hu := hall u (hp.mem_iff.1 (by simp))
        rw [List.map_append, List.nodup_append] at hnb
        exact hnb.2.2 _ hu _ (by simp) rfl
    subst hU
    rw [List.append_nil] at hp hnk
    refine hR _ _ ⟨g', gm', ov', c2, rfl, ?_⟩
    have hEO : EOk E2 N c2 := by
      refine ⟨by rw [hk2]; exact (hp.map _).trans hE.pm, by rw [hk2]; exact hnk, fun k => ?_, hb2, hlt2⟩
      rw [getE_same h2, getE_perm hp hnk, hE.get]
    have := mpN_close hEO (Sep.p1 (Sep.tail hs4))
    exact Sep.p1 this
  · have hxU : x ∈ U := by
      have := hp.mem_iff.2 hx
      rcases List.mem_append.1 this with h | h
      · exact absurd (List.mem_map_of_mem h) hxn
      · exact h
    obtain ⟨U', hU'⟩ : ∃ U', U.Perm (x :: U') := by
      obtain ⟨s1, s2, rfl⟩ := List.append_of_mem hxU
      exact ⟨s1 ++ s2, List.perm_middle⟩
    have hp' : ((D ++ [x]) ++ U').Perm E := by
      rw [List.append_assoc]
      exact ((hU'.symm.append_left D).trans hp)
    have hlen : D.length + U.length = E.length := by
      have := hp.length_eq
      simpa using this
    have hUl : 0 < U.length := List.length_pos_of_mem hxU
    simp only [fx, Nat.reduceAdd, forall_const]
    have hgi : w5.heap[gi]? = some (.mapIter (some gm) c ((D ++ [x]).map (·.2.2)).toArray c) := by
      obtain ⟨F, ⟨hb, rfl⟩, hk⟩ := hs5.upd
      exact hb
    rw [entry_i (h := w5.heap) hgi hm5 hx hE.bn]
    obtain ⟨b, v, hbv⟩ : ∃ b v, x.2.1 = bq b v ∧ v.oneCell' = true := by
      have h1 : getE x.1 E = some x.2.1 := (getE_iff hE.nd).2 ⟨x, hx, rfl, rfl⟩
      rw [hE.get, getE_node] at h1
      cases hno : nodeOf x.1 N with
      | none => rw [hno] at h1; cases h1
      | some y =>
        rw [hno] at h1
        simp only [Option.map_some, Option.some.injEq] at h1
        exact ⟨y.2.1, y.2.2.1, h1.symm, (hr.dat y (List.mem_of_find?_eq_some hno)).one⟩
    simp only [fx, Nat.reduceAdd, forall_const, hbv.1]
    refine alloc_s hs5 (A_api_ID w5) fun g4 w6 hs6 => ?_
    refine alloc_s hs6 (A_api_Block w6) fun g5 w7 hs7 => ?_
    refine St_api_ID (b := x.1) hs7.p1 fun w8 hs8 => ?_
    refine St_api_Block (b := (b.p, b.h, v)) hs8.p1 (one_api_Block hbv.2) fun w9 hs9 => ?_
    refine drH_S hs9 fun w10 hs10 _ => ?_
    refine rdS_ld (v := .map (some gm')) (fun u hu K hk => (L_tree_Tree__blocks (Sep.blk (Sep.p3 hu)) K).mpr hk) ?_
    refine ⟨kv x.1, fun u hu => (L_api_ID (Sep.blk (Sep.p1 hu)) _).mpr rfl, ?_⟩
    refine ⟨bq b v, fun u hu => (L_api_Block (Sep.blk hu) _).mpr rfl, ?_⟩
    have hnx : getE x.1 E2 = none := getE_nin (by
      rw [hk2]
      intro hm
      rw [(List.Perm.map _ (hU'.append_left D)).nodup_iff, List.map_append, List.nodup_append] at hnk
      exact hnk.2.2 _ hm _ (by simp) rfl)
    refine efC_efU (putNew_s (c := c2) U_map_api_ID_api_Block KT (Sep.p4 hs10) hnx fun w11 hs11 => ?_)
    have hs12 := Sep.pick hs11 [3, 4, 0, 5] 6
    refine ⟨⟨D ++ [x], U', E2 ++ [(x.1, bq b v, c2)], c2 + 1, hp', by simp [h2, hbv.1], ?_, ?_, hs12⟩, ?_⟩
    · rw [List.map_append, List.nodup_append]
      refine ⟨hb2, by simp, fun a ha e he hae => ?_⟩
      obtain ⟨z, hz, rfl⟩ := List.mem_map.1 ha
      have := hlt2 z hz
      simp only [List.map_cons, List.map_nil, List.mem_singleton] at he
      omega
    · intro z hz
      rcases List.mem_append.1 hz with hz | hz
      · have := hlt2 z hz; omega
      · obtain rfl : z = (x.1, bq b v, c2) := by simpa using hz
        show c2 < c2 + 1
        omega
    · have e1 : itSeen gi w11 = D.length + 1 := by
        have hgi : w11.heap[gi]? = some (.mapIter (some gm) c ((D ++ [x]).map (·.2.2)).toArray c) := by
          obtain ⟨F, ⟨hb, rfl⟩, hk⟩ := hs12.upd
          exact hb
        unfold itSeen
        rw [hgi]
        simp
      have e2 : itSeen gi w4 = D.length := by
        have hgi : w4.heap[gi]? = some (.mapIter (some gm) c (D.map (·.2.2)).toArray c) := by
          obtain ⟨F, ⟨hb, rfl⟩, hk⟩ := hs4.upd
          exact hb
        unfold itSeen
        rw [hgi]
        simp
      rw [e1, e2]
      omega
end
end Go.Fx
set_option linter.unusedVariables false
set_option linter.unusedSimpArgs false
namespace Go.Fx
section
variable {w0 w w' : World} {As : List Asn} {g : Nat} {lv : Value} {t : Tr} {N : List TN}
end
end Go.Fx
set_option linter.unusedVariables false
set_option linter.unusedSimpArgs false
namespace Go.Fx
theorem sha_one (l : List UInt8) (h : l.length ≤ 55) : shaL l = mixM firstL (padT l l.length) := by
  have hl : (padT l l.length).length = 64 := by
    unfold padT
    simp only [List.length_append, List.length_replicate, List.length_singleton, be_length]
    unfold zer
    omega
  unfold shaL
  rw [foldM_step (by omega), foldM_end (by simp; omega), List.take_of_length_le (by omega)]
section
variable {w0 w : World} {As : List Asn}
theorem Rows'.sub {α : Type} {q : Rdr α} {h : Heap} {a : Option Addr} {n c i j : Nat} {l : List α} (hr : Rows' q h (.slice a n c) l) (hi : i ≤ j) (hj : j ≤ l.length) (hc : l.length ≤ c) (c' : Nat) : Rows' q h (.slice (if c = i then a else a.map (·.add (i * q.size))) (j - i) c') ((l.drop i).take (j - i)) := by
  have h1 := Rows'.drop hr (k := i) (by omega) hc (c - i)
  exact Rows'.take h1 (k := j - i) (by simp; omega) c'
end
end Go.Fx
set_option linter.unusedVariables false
set_option linter.unusedSimpArgs false
namespace Go.Fx
/-- What is kept beside the tree: each name's block as it was handed in. -/
def HadOk (h : Heap) (N : List TN) (H : List (Ent 32)) : Prop := H.map (·.1) = nms N ∧ ∀ k b, blkOf k N = some b → ∃ v, getE k H = some (bq b v) ∧ RdB h v b.d
theorem HadOk.add {h : Heap} {t : Tr} {N : List TN} {H : List (Ent 32)} {b : Blk} {v vd : Value} {c c' : Nat} (hk : HadOk h N H) (hn : has t N b.id = false) (hv : RdB h v b.d) : HadOk h (N ++ [(b.id, b, vd, c)]) (H ++ [(b.id, bq b v, c')]) := by
  have hnm : b.id ∉ nms N := fun hm => by rw [mem_has (.inr hm)] at hn; cases hn
  refine ⟨by simp [hk.1], fun k b' hb => ?_⟩
  rw [blkOf_snoc] at hb
  cases hk2 : blkOf k N with
  | some y =>
    rw [hk2] at hb
    simp only [Option.some_or, Option.some.injEq] at hb
    subst hb
    obtain ⟨v', h1, h2⟩ := hk.2 k y hk2
    exact ⟨v', by rw [getE_snoc, h1]; rfl, h2⟩
  | none =>
    rw [hk2] at hb
    by_cases he : k = b.id
    · subst he
      have : b = b' := by simpa using hb
      subst this
      exact ⟨v, by rw [getE_snoc, getE_nin (by rw [hk.1]; exact hnm)]; simp, hv⟩
    · simp [he] at hb
theorem HadOk.fr {w w' : World} {N : List TN} {H : List (Ent 32)} (h : HadOk w.heap N H) (hf : Fr [] w w') : HadOk w'.heap N H := ⟨h.1, fun k b hb => by
  obtain ⟨v, h1, h2⟩ := h.2 k b hb
  exact ⟨v, h1, h2.fr hf (off_nil _)⟩⟩
section
variable {w : World}
end
end Go.Fx
set_option linter.unusedVariables false
set_option linter.unusedSimpArgs false
namespace Go.Fx
def argD (xs : List (Vec 32)) (i : Nat) (_ : World) (args : List Value) : Prop := ∃ x, xs[i]? = some x ∧ args = [kv x]
section
variable {w0 w : World} {As : List Asn} {g gm c : Nat} {ov : Value} {t : Tr} {N : List TN}
theorem al_slD (w : World) : (Instr.alloc T_sl_api_ID true (.tuple #[])).run P w = .ok (.pointer (some ⟨w.heap.size, 0, none⟩)) (w.alloc (.cells #[.slice none 0 0] T_sl_api_ID)) := by kernel_rfl
/-- What a slice's names, told one by one, are. -/
theorem told1_iter {v : Value} {xs : List (Vec 32)} {g1 : Nat} (hl : xs.length ≤ 1000000) : Iter P (.func (.func f_tree_told_1) #[] #[.pointer (some ⟨g1, 0, none⟩)])
    (fun h => (∃ T fr, h[g1]? = some (.cells #[v] T fr)) ∧ Rows' (rVec 32) h v xs) xs.length (argD xs) := by
  refine ⟨_, _, rfl, by kernel_rfl, fun y w0 w J X As h1 h0 hs hM hst => ?_⟩
  show cal P f_tree_told_1 [y, .pointer (some ⟨g1, 0, none⟩)] w _
  refine s_tree_told_1 fun R hR => ?_
  unfold c_tree_told_1
  obtain ⟨⟨T, fr, hc⟩, hv⟩ := hM 0 As [] w h0 (by rwa [List.append_nil])
  refine ld1_i (v := v) hc rfl ?_
  rw [hv.len]
  refine ⟨fun t z => ∃ (i : Nat) (Bs : List Asn), t = .int .i64 i ∧ i ≤ xs.length ∧ J i Bs ∧ Sep w0 z Bs, fun t _ => (xs.length - RowKit.intOf t).toNat, ⟨0, As, rfl, by omega, h0, hs⟩, ?_⟩
  rintro _ z ⟨i, Bs, rfl, hi, hJ, hz⟩ -
  simp only [fx, Nat.reduceAdd, forall_const]
  rw [cnd_bool]
  refine ⟨fun h => ?_, fun h => ?_⟩
  · have hlt : i < xs.length := by simp at h; omega
    obtain ⟨x, hx⟩ : ∃ x, xs[i]? = some x := ⟨_, List.getElem?_eq_getElem hlt⟩
    have hv' := (hM i Bs [] z hJ (by rwa [List.append_nil])).2
    change ixs 32 _ _ _
    refine Rows'.ldN (q := rVec 32) (by decide) hv' hx .i64 ?_
    refine alloc_s hz (A_api_ID z) fun g4 z2 hz2 => ?_
    refine St_api_ID (b := x) hz2 fun z3 hz3 => ?_
    simp only [L_api_ID hz3.blk]
    refine calY_i (hst i [kv x] z3 Bs [_] hlt ⟨x, hx, rfl⟩ hJ (Sep.rot (As := [_]) hz3)) ?_
    rintro r z' (⟨rfl, Cs, hJ', hz'⟩ | ⟨rfl, Cs, hX', hz'⟩)
    · simp only [fx, Nat.reduceAdd, forall_const]
      rw [wi64 (by omega) (by omega)]
      exact ⟨⟨i + 1, Cs, by simp, by omega, hJ', hz'.dropR⟩, by simp [RowKit.intOf]; omega⟩
    · simp only [fx, Nat.reduceAdd, forall_const]
      exact hR _ _ ⟨rfl, .inr ⟨Cs, hX', hz'.dropR⟩⟩
  · have hge : i = xs.length := by simp at h; omega
    subst hge
    exact hR _ _ ⟨rfl, .inl ⟨Bs, hJ, hz⟩⟩
/-- What goes through the names xs, as tree.told makes it. -/
def Goes (w0 w : World) (r : Value) (xs : List (Vec 32)) : Prop := ∃ g1 v, r = .func (.func f_tree_told_1) #[] #[.pointer (some ⟨g1, 0, none⟩)] ∧ Sep w0 w [blk g1 #[v] T_sl_api_ID, rows (rVec 32) v xs]
theorem ttold_spec {v : Value} {xs : List (Vec 32)} (hs : Sep w0 w [rows (rVec 32) v xs]) : cal P f_tree_told [v] w fun r w' => Goes w0 w' r xs := by
  refine s_tree_told fun R hR => ?_
  unfold c_tree_told
  refine bx_s hs fun g1 w1 hs1 => ?_
  have hv := Sep.oneR hs
  have ev : v.cells = #[v] := by cases v <;> simp_all [Value.cells, Value.oneCell']
  rw [ev] at hs1
  exact hR _ _ ⟨g1, v, rfl, hs1⟩
theorem node_mem : ∀ {N : List TN} (_ : (nms N).Nodup) {x : TN} (_ : x ∈ N), nodeOf x.1 N = some x
  | [], _, x, hx => by cases hx
  | y :: N, hu, x, hx => by
    have h1 : y.1 ∉ nms N ∧ (nms N).Nodup := List.nodup_cons.1 hu
    unfold nodeOf
    rw [List.find?_cons]
    rcases List.mem_cons.1 hx with rfl | hx
    · simp
    · have hne : ¬ x.1 = y.1 := fun he => h1.1 (he ▸ List.mem_map.2 ⟨x, hx, rfl⟩)
      rw [decide_eq_false hne]
      exact node_mem h1.2 hx
theorem kid_names (hu : (nms N).Nodup) (k : Vec 32) : (nms N).filter (fun x => decide (upOf x N = k)) = nms (N.filter fun x => decide (x.2.1.p = k)) := by
  have h : ∀ x ∈ N, upOf x.1 N = x.2.1.p := fun x hx => by
    unfold upOf nb
    rw [node_mem hu hx]
    rfl
  show (N.map (·.1)).filter _ = (N.filter _).map (·.1)
  rw [List.filter_map]
  congr 1
  refine List.filter_congr fun x hx => ?_
  show decide (upOf x.1 N = k) = _
  rw [h x hx]
theorem Kids_spec (hr : TrR w.heap g gm ov t N c) (hn : N.length ≤ 1000000) (hu : (nms N).Nodup) (k : Vec 32) : cal P f_tree_Tree_Kids [.pointer (some ⟨g, 0, none⟩), kv k] w fun r w' => Goes w w' r (if has t N k = true then nms (N.filter fun x => decide (x.2.1.p = k)) else []) := by
  refine s_tree_Tree_Kids fun R hR => ?_
  unfold c_tree_Tree_Kids
  refine bx_s (Sep.start w) fun g2 w1 hs1 => ?_
  replace hs1 : Sep w w1 [blk g2 #[.pointer (some ⟨g, 0, none⟩)] T_p_tree_Tree] := hs1
  refine bxQ hs1 fun g3 w2 hs2 => ?_
  refine ld1_i (Sep.p1 hs2).blk rfl ?_
  simp only [L_api_ID hs2.blk]
  refine cal_i (Has_spec (hs2.tr hr) k) ?_
  rintro _ w3 ⟨rfl, hf3⟩
  have hs3 := hs2.old hf3
  simp only [fx, Nat.reduceAdd, forall_const]
  cases hk : has t N k with
  | false =>
    simp only [fx, Nat.reduceAdd, forall_const]
    have hs4 : Sep w w3 [rows (rVec 32) (.slice none 0 0) []] := Sep.dropR (As := [_]) hs3.nilR
    refine cal_i (ttold_spec hs4) ?_
    rintro r' w4 hg
    exact hR _ _ (by rw [if_neg (by rw [hk]; simp)]; exact hg)
  | true =>
    simp only [fx, Nat.reduceAdd, forall_const]
    refine ld1_i (Sep.p1 hs3).blk rfl ?_
    refine cal_i (those_spec (f := f_tree_Tree_Kids_1) (cap := [.pointer (some ⟨g2, 0, none⟩), .pointer (some ⟨g3, 0, none⟩)]) (so := fun x => decide (upOf x N = k)) (hs3.tr hr) hn (by kernel_rfl) ?_) ?_
    · intro z x hz
      have hsz := hs3.old hz
      refine s_tree_Tree_Kids_1 fun R hR => ?_
      unfold c_tree_Tree_Kids_1
      have hs0 : Sep z z [] := Sep.start z
      refine bxQ hs0 fun g5 w5 hs5 => ?_
      refine drw_s hs5 fun w6 hs6 _ => ?_
      have h2 := hs6.fr0.blk (Sep.p1 hsz).blk (by simp)
      have h3 := hs6.fr0.blk hsz.blk (by simp)
      refine ld1_i (v := .pointer (some ⟨g, 0, none⟩)) h2 rfl ?_
      have hr6 := TrR.fr (hsz.tr hr) hs6.fr0
      obtain ⟨T, fr, hc⟩ := hr6.cell
      simp only [fx, Nat.reduceAdd, forall_const, L_tree_Tree hc, L_tree_Tree__made hc, L_tree_Tree__root hc, L_tree_Tree__height hc, L_tree_Tree__most hc, L_tree_Tree__blocks hc, L_tree_Tree__order hc, L_api_ID hs6.blk]
      rw [hr6.look1, nb_get]
      change fldv _ _ _ _ _
      rw [fldv_par]
      simp only [L_api_ID h3, eq_api_ID]
      exact hR _ _ ⟨rfl, hs6.fr0⟩
    · rintro r w4 hs4
      rw [kid_names hu] at hs4
      have hs5 : Sep w w4 [rows (rVec 32) r (nms (N.filter fun x => decide (x.2.1.p = k)))] := Sep.dropR (As := [_]) (hs3.join hs4)
      refine cal_i (ttold_spec hs5) ?_
      rintro r' w5 hg
      exact hR _ _ (by rw [if_pos hk]; exact hg)
end
end Go.Fx
set_option linter.unusedVariables false
set_option linter.unusedSimpArgs false
namespace Go.Fx
def TN.kb (x : TN) : Vec 32 × Blk := (x.1, x.2.1)
abbrev kbs (N : List TN) : List (Vec 32 × Blk) := N.map TN.kb
section
variable {N M : List TN} {t : Tr}
theorem kb_blk : ∀ {N M : List TN} (_ : kbs N = kbs M) (k : Vec 32), blkOf k N = blkOf k M
  | [], [], _, k => rfl
  | [], y :: M, h, k => by simp at h
  | x :: N, [], h, k => by simp at h
  | x :: N, y :: M, h, k => by
    have h1 : x.kb = y.kb ∧ kbs N = kbs M := List.cons.inj h
    have h2 : x.1 = y.1 := by show x.kb.1 = y.kb.1; rw [h1.1]
    have h3 : x.2.1 = y.2.1 := by show x.kb.2 = y.kb.2; rw [h1.1]
    have ih := kb_blk h1.2 k
    unfold blkOf nodeOf at ih ⊢
    rw [List.find?_cons, List.find?_cons, h2]
    by_cases hk : k = y.1
    · simp [hk, h3]
    · simpa [hk] using ih
theorem nb_eq (k : Vec 32) (N : List TN) : (nb k N).1 = (blkOf k N).getD Blk.none := by
  unfold nb blkOf
  cases nodeOf k N <;> rfl
theorem kb_nb (h : kbs N = kbs M) (k : Vec 32) : (nb k N).1 = (nb k M).1 := by rw [nb_eq, nb_eq, kb_blk h]
theorem kb_has (h : kbs N = kbs M) (k : Vec 32) : has t N k = has t M k := by unfold has; rw [kb_blk h]
theorem kb_lev (h : kbs N = kbs M) (k : Vec 32) : levH t N k = levH t M k := by unfold levH; rw [kb_blk h]
theorem kb_hgt (h : kbs N = kbs M) (k : Vec 32) : hgt t N k = hgt t M k := by unfold hgt; rw [kb_lev h]
theorem kb_up (h : kbs N = kbs M) (k : Vec 32) : upOf k N = upOf k M := by unfold upOf; rw [kb_nb h]
theorem kb_way (h : kbs N = kbs M) : ∀ (n : Nat) (k : Vec 32), wayUp t N n k = wayUp t M n k
  | 0, k => rfl
  | n + 1, k => by unfold wayUp; rw [kb_up h, kb_way h n]
theorem kb_under (h : kbs N = kbs M) (a b : Vec 32) : under t N a b = under t M a b := by unfold under; rw [kb_has h, kb_has h, kb_hgt h, kb_way h]
theorem kb_nms (h : kbs N = kbs M) : nms N = nms M := by
  have h1 := congrArg (List.map Prod.fst) h
  rw [List.map_map, List.map_map] at h1
  exact h1
theorem kb_len (h : kbs N = kbs M) : N.length = M.length := by
  have h1 := congrArg List.length h
  simpa using h1
theorem kb_filter (p : Vec 32 × Blk → Bool) (h : kbs N = kbs M) : kbs (N.filter fun x => p x.kb) = kbs (M.filter fun x => p x.kb) := by
  have e : ∀ N : List TN, kbs (N.filter fun x => p x.kb) = (kbs N).filter p := fun N => by rw [kbs, List.filter_map]; rfl
  rw [e, e, h]
theorem kb_kids (h : kbs N = kbs M) (k : Vec 32) : nms (N.filter fun x => decide (x.2.1.p = k)) = nms (M.filter fun x => decide (x.2.1.p = k)) := kb_nms (kb_filter (fun y => decide (y.2.p = k)) h)
theorem TM.kb {m : Nat} (hi : TM t N m) (h : kbs N = kbs M) : TM t M m := by
  have hn := kb_nms h
  refine ⟨⟨fun k b hb => ?_, fun k b hb => ?_, ?_, fun x hx => ?_⟩, ?_, fun k hk => ?_, fun x hx => ?_, hi.ht⟩
  · rw [← kb_blk h] at hb
    rw [← kb_has h, ← kb_lev h]
    exact hi.w.up k b hb
  · rw [← kb_blk h] at hb
    exact hi.w.above k b hb
  · rw [← kb_blk h]; exact hi.w.noroot
  · have : x.kb ∈ kbs N := by rw [h]; exact List.mem_map.2 ⟨x, hx, rfl⟩
    obtain ⟨y, hy, he⟩ := List.mem_map.1 this
    have := hi.w.small y hy
    rw [show y.2.1 = x.2.1 from congrArg Prod.snd he] at this
    exact this
  · show (nms M).Nodup
    rw [← hn]; exact hi.nd
  · rw [← kb_hgt h]; exact hi.hb k (by rw [kb_has h]; exact hk)
  · have : x.kb ∈ kbs N := by rw [h]; exact List.mem_map.2 ⟨x, hx, rfl⟩
    obtain ⟨y, hy, he⟩ := List.mem_map.1 this
    have := hi.hi y hy
    rw [show y.2.1 = x.2.1 from congrArg Prod.snd he] at this
    exact this
end
section
variable {w0 w w' : World} {As : List Asn} {gx g gm gr c : Nat} {ov lv x : Value} {t : Tr} {N M : List TN} {ids : List (Vec 32)}
theorem Goes.fr0 {r : Value} {xs : List (Vec 32)} (h : Goes w0 w r xs) : Fr [] w0 w := by
  obtain ⟨_, _, _, hs⟩ := h
  exact hs.fr0
end
end Go.Fx
set_option linter.unusedVariables false
set_option linter.unusedSimpArgs false
namespace Go.Fx
abbrev Id := Vec 32
abbrev Par := Int × Int × Int × Int
abbrev Cho := Id × Int
structure Sn where
  l : List Cho
  pref : Id
  flake : Id
  conf : Int
  dn : Bool
/-- The value of an instance whose list is v. -/
abbrev snr (v : Value) (x : Sn) : Value × Id × Id × Int × Bool := (v, x.pref, x.flake, x.conf, x.dn)
abbrev snv (v : Value) (x : Sn) : Value := .agg (Rdr.cells Q_api_Snow (snr v x)).toArray
abbrev idv (i : Id) : Value := .agg (Rdr.cells (rVec 32) i).toArray
abbrev pav (p : Par) : Value := .agg (Rdr.cells Q_api_Params p).toArray
def parE (p : Par) : Int := if p.1 < 1 ∨ 64 < p.1 ∨ p.2.1 ≤ p.1 / 2 ∨ p.2.2.1 < p.2.1 ∨ p.1 < p.2.2.1 ∨ p.2.2.2 < 1 ∨ 1000 < p.2.2.2 then 170 else 0
theorem half {k : Int} (h : 0 ≤ k) : IntKind.i64.wrap (k.tdiv 2) = k / 2 ∨ 9223372036854775807 < k := by
  rcases Int.lt_or_le 9223372036854775807 k with h1 | h1
  · exact .inr h1
  · left
    rw [Int.tdiv_eq_ediv_of_nonneg h, wi64 (by omega) (by omega)]
theorem snParams_spec {w : World} {p : Par} : cal P f_snow_Params [pav p] w fun v w' => v = .int .i64 (parE p) ∧ Fr [] w w' := by
  refine s_snow_Params fun R hR => ?_
  unfold c_snow_Params
  refine bx_s (Sep.start w) fun g w1 hs => ?_
  simp only [Value.cells] at hs
  have hg := hs.blk
  obtain ⟨k, ap, ac, be⟩ := p
  simp only [fx, Nat.reduceAdd, forall_const, L_api_Params hg, L_api_Params__K hg, L_api_Params__AlphaPref hg, L_api_Params__AlphaConf hg, L_api_Params__Beta hg, bi_quo .i64 k 2 _ (by decide)]
  have hfin : ∀ b : Bool, b = decide (k < 1 ∨ 64 < k ∨ ap ≤ k / 2 ∨ ac < ap ∨ k < ac ∨ be < 1 ∨ 1000 < be) → cnd (.bool b) (R (.int .i64 170) w1) (R (.int .i64 0) w1) := fun b hb => by
    rw [cnd_bool]
    refine ⟨fun h => ?_, fun h => ?_⟩
    · rw [hb] at h; exact hR _ _ ⟨by rw [parE, if_pos (by simpa using h)], hs.fr0⟩
    · rw [hb] at h; exact hR _ _ ⟨by rw [parE, if_neg (by simpa using h)], hs.fr0⟩
  refine hfin _ ?_
  by_cases h1 : k < 1
  · simp [h1]
  by_cases h2 : 64 < k
  · simp [h2]
  rcases half (k := k) (by omega) with e | e
  · rw [e]
    simp [Bool.or_assoc]
  · omega
/-- The place of the first choice of a name; -1: there is none. -/
def plc (l : List Cho) (id : Id) : Int := match l.findIdx? (fun c => decide (c.1 = id)) with
  | some i => i
  | none => -1
theorem plc_at {l : List Cho} {id : Id} {i : Nat} {c : Cho} (hi : l[i]? = some c) (hc : c.1 = id) (hb : ∀ (j : Nat) (d : Cho), j < i → l[j]? = some d → d.1 ≠ id) : plc l id = i := by
  have : l.findIdx? (fun c => decide (c.1 = id)) = some i := by
    rw [List.findIdx?_eq_some_iff_getElem]
    have hlt := (List.getElem?_eq_some_iff.1 hi).1
    refine ⟨hlt, ?_, fun j hj => ?_⟩
    · rw [List.getElem?_eq_getElem hlt] at hi
      simp only [Option.some.injEq] at hi
      rw [hi]
      simpa using hc
    · have := hb j _ hj (List.getElem?_eq_getElem (by omega))
      simpa using this
  rw [plc, this]
theorem plc_none {l : List Cho} {id : Id} (hb : ∀ (j : Nat) (d : Cho), l[j]? = some d → d.1 ≠ id) : plc l id = -1 := by
  have : l.findIdx? (fun c => decide (c.1 = id)) = none := by
    rw [List.findIdx?_eq_none_iff]
    intro c hc
    obtain ⟨j, hj⟩ := List.mem_iff_getElem?.1 hc
    simpa using hb j c hj
  rw [plc, this]
theorem plc_cases (l : List Cho) (id : Id) : (plc l id = -1 ∧ ∀ (j : Nat) (d : Cho), l[j]? = some d → d.1 ≠ id) ∨
    ∃ i c, plc l id = ((i : Nat) : Int) ∧ l[i]? = some c ∧ c.1 = id ∧ ∀ (j : Nat) (d : Cho), j < i → l[j]? = some d → d.1 ≠ id := by
  unfold plc
  cases h : l.findIdx? (fun c => decide (c.1 = id)) with
  | none =>
    rw [List.findIdx?_eq_none_iff] at h
    exact .inl ⟨rfl, fun j d hj => by simpa using h d (List.mem_of_getElem? hj)⟩
  | some i =>
    rw [List.findIdx?_eq_some_iff_getElem] at h
    obtain ⟨hlt, h1, h2⟩ := h
    exact .inr ⟨i, l[i], rfl, List.getElem?_eq_getElem hlt, by simpa using h1, fun j d hj hd => by
      rw [List.getElem?_eq_getElem (by omega)] at hd
      simp only [Option.some.injEq] at hd
      rw [← hd]
      simpa using h2 j hj⟩
section
variable {w : World} {v : Value} {x : Sn} {id : Id}
theorem snPlace_spec (hr : Rows' Q_api_Choice w.heap v x.l) (hl : x.l.length ≤ 9223372036854775807) : cal P f_snow_place [snv v x, idv id] w fun r w' => r = .int .i64 (plc x.l id) ∧ Fr [] w w' := by
  refine s_snow_place fun R hR => ?_
  unfold c_snow_place
  refine bx_s (Sep.start w) fun g w1 hs => ?_
  refine bx_s hs fun g2 w2 hs => ?_
  simp only [Value.cells] at hs
  simp only [fx, Nat.reduceAdd, forall_const, L_api_Snow hs.p1.blk, L_api_Snow__List hs.p1.blk, L_api_Snow__Pref hs.p1.blk, L_api_Snow__Flake hs.p1.blk, L_api_Snow__Conf hs.p1.blk, L_api_Snow__Done hs.p1.blk]
  refine cal_i (K' := fun r w' => r = .int .i64 (plc x.l id) ∧ Fr [] w w') ?_ fun r w' h => hR _ _ h
  refine s_slices_IndexFunc_api_Choice_api_Choice fun R hR => ?_
  unfold c_slices_IndexFunc_api_Choice_api_Choice
  simp only [(hr.fr hs.fr0).len]
  refine ⟨fun y w' => ∃ i : Nat, i ≤ x.l.length ∧ y = .int .i64 i ∧ (∀ (j : Nat) (d : Cho), j < i → x.l[j]? = some d → d.1 ≠ id) ∧ Sep w w' [blk g2 (Rdr.cells (rVec 32) id).toArray T_api_ID], fun y _ => (x.l.length - RowKit.intOf y).toNat,
    ⟨0, by omega, rfl, by simp, hs.d1⟩, ?_⟩
  rintro _ w3 ⟨i, hi, rfl, hno, hs3⟩ -
  simp only [fx, Nat.reduceAdd, forall_const]
  rw [cnd_bool]
  refine ⟨fun h => ?_, fun h => ?_⟩
  · have hlt : i < x.l.length := by simpa using h
    obtain ⟨c, hc⟩ : ∃ c, x.l[i]? = some c := ⟨_, List.getElem?_eq_getElem hlt⟩
    refine (hr.fr hs3.fr0).ldN (by decide) hc _ ?_
    refine calV_i (first := []) (cap := [.pointer (some ⟨g2, 0, none⟩)]) (K' := fun r w' => r = .bool (decide (c.1 = id)) ∧ Sep w w' [blk g2 (Rdr.cells (rVec 32) id).toArray T_api_ID]) (by kernel_rfl) ?_ ?_
    · refine s_snow_place_1 fun R hR => ?_
      unfold c_snow_place_1
      refine bx_s hs3 fun g4 w4 hs4 => ?_
      simp only [Value.cells] at hs4
      simp only [fx, Nat.reduceAdd, forall_const, L_api_Choice hs4.blk, L_api_Choice__ID hs4.blk, L_api_Choice__Strength hs4.blk, L_api_ID hs4.p1.blk, eq_api_ID]
      exact hR _ _ ⟨rfl, hs4.tail⟩
    · rintro _ w4 ⟨rfl, hs4⟩
      rw [cnd_bool]
      refine ⟨fun h => ?_, fun hne => ?_⟩
      · exact hR _ _ ⟨by rw [plc_at hc (by simpa using h) hno], hs4.fr0⟩
      · rw [wi64 (by omega) (by omega)]
        refine ⟨⟨i + 1, by omega, by simp, fun j d hj hd => ?_, hs4⟩, by simp [RowKit.intOf]; omega⟩
        by_cases hji : j = i
        · subst hji; rw [hc] at hd; cases hd; simpa using hne
        · exact hno j d (by omega) hd
  · have hge : i = x.l.length := by simp at h; omega
    exact hR _ _ ⟨by rw [plc_none fun j d hd => hno j d (by have := (List.getElem?_eq_some_iff.1 hd).1; omega) hd], hs3.fr0⟩
end
end Go.Fx
set_option linter.unusedVariables false
set_option linter.unusedSimpArgs false
namespace Go.Fx
theorem beq_dec (a b : Int) : (a == b) = decide (a = b) := by by_cases h : a = b <;> simp [h]
theorem bne_dec (a b : Int) : (a != b) = !decide (a = b) := by by_cases h : a = b <;> simp [h]
theorem bad_or (b1 b2 b3 b4 : Bool) : (((!b1 || b2) || b3) || b4) = !(b1 && (!b2 && (!b3 && !b4))) := by cases b1 <;> cases b2 <;> cases b3 <;> cases b4 <;> rfl
def bestS (x : Sn) : Int := ((x.l[(plc x.l x.pref).toNat]?).map (·.2)).getD 0
def goodAt (x : Sn) (c : Cho) (i : Nat) : Bool := decide (plc x.l c.1 = (i : Int)) && (!decide (c.2 < 0) && (!decide (1073741824 < c.2) && !decide (bestS x < c.2)))
def headBad (p : Par) (x : Sn) : Prop := x.l.length < 1 ∨ 32 < x.l.length ∨ plc x.l x.pref < 0 ∨ plc x.l x.flake < 0 ∨ x.conf < 0 ∨ p.2.2.2 < x.conf ∨ x.dn ≠ decide (x.conf = p.2.2.2)
open Classical in
noncomputable def snE (p : Par) (x : Sn) : Int := if parE p ≠ 0 then parE p else if headBad p x then 171 else if ∀ i c, x.l[i]? = some c → goodAt x c i = true then 0 else 171
theorem snE_par {p : Par} {x : Sn} (h : parE p ≠ 0) : snE p x = parE p := by rw [snE, if_pos h]
theorem snE_head {p : Par} {x : Sn} (h : parE p = 0) (hb : headBad p x) : snE p x = 171 := by rw [snE, if_neg (by simpa using h), if_pos hb]
theorem snE_bad {p : Par} {x : Sn} (h : parE p = 0) {i : Nat} {c : Cho} (hc : x.l[i]? = some c) (hg : goodAt x c i = false) : snE p x = 171 := by
  rw [snE, if_neg (by simpa using h)]
  split
  · rfl
  · rw [if_neg]
    intro hall
    rw [hall i c hc] at hg
    cases hg
theorem snE_ok {p : Par} {x : Sn} (h : parE p = 0) (hb : ¬ headBad p x) (hg : ∀ i c, x.l[i]? = some c → goodAt x c i = true) : snE p x = 0 := by rw [snE, if_neg (by simpa using h), if_neg hb, if_pos hg]
section
variable {w : World} {v : Value} {x : Sn} {p : Par}
theorem snCheck_spec (hr : Rows' Q_api_Choice w.heap v x.l) (hl : x.l.length ≤ 9223372036854775807) : cal P f_snow_Check [pav p, snv v x] w fun r w' => r = .int .i64 (snE p x) ∧ Fr [] w w' := by
  refine s_snow_Check fun R hR => ?_
  unfold c_snow_Check
  refine bx_s (Sep.start w) fun g w1 hs => ?_
  refine bx_s hs fun g2 w2 hs => ?_
  simp only [Value.cells] at hs
  simp only [fx, Nat.reduceAdd, forall_const, L_api_Params hs.p1.blk, L_api_Params__K hs.p1.blk, L_api_Params__AlphaPref hs.p1.blk, L_api_Params__AlphaConf hs.p1.blk, L_api_Params__Beta hs.p1.blk]
  refine cal_i snParams_spec ?_
  rintro _ w3 ⟨rfl, hf3⟩
  replace hs := hs.old hf3
  simp only [fx, Nat.reduceAdd, forall_const]
  rw [cnd_bool]
  refine ⟨fun h => ?_, fun h => ?_⟩
  · exact hR _ _ ⟨by rw [snE_par (by simpa using h)], hs.fr0⟩
  have hpar : parE p = 0 := by simpa using h
  simp only [L_api_Snow hs.blk, L_api_Snow__List hs.blk, L_api_Snow__Pref hs.blk, L_api_Snow__Flake hs.blk, L_api_Snow__Conf hs.blk, L_api_Snow__Done hs.blk]
  refine cal_i (snPlace_spec (hr.fr hs.fr0) hl) ?_
  rintro _ w4 ⟨rfl, hf4⟩
  replace hs := hs.old hf4
  simp only [fx, Nat.reduceAdd, forall_const, L_api_Snow hs.blk, L_api_Snow__List hs.blk, L_api_Snow__Pref hs.blk, L_api_Snow__Flake hs.blk, L_api_Snow__Conf hs.blk, L_api_Snow__Done hs.blk, (hr.fr hs.fr0).len]
  have hbad : headBad p x → ∀ w', Fr [] w w' → R (.int .i64 171) w' := fun h w' hf => hR _ _ ⟨by rw [snE_head hpar h], hf⟩
  cases hA : ((decide ((x.l.length : Int) < 1) || decide (32 < (x.l.length : Int))) || decide (plc x.l x.pref < 0)) with
  | true =>
    simp only [fx, Nat.reduceAdd, forall_const]
    refine hbad ?_ _ hs.fr0
    simp at hA
    unfold headBad
    omega
  | false =>
    simp only [fx, Nat.reduceAdd, forall_const]
    refine jn1_dup (cal_i (snPlace_spec (hr.fr hs.fr0) hl) ?_)
    rintro _ w5 ⟨rfl, hf5⟩
    replace hs := hs.old hf5
    simp only [fx, Nat.reduceAdd, forall_const, L_api_Snow hs.blk, L_api_Snow__List hs.blk, L_api_Snow__Pref hs.blk, L_api_Snow__Flake hs.blk, L_api_Snow__Conf hs.blk, L_api_Snow__Done hs.blk, L_api_Params hs.p1.blk, L_api_Params__K hs.p1.blk, L_api_Params__AlphaPref hs.p1.blk, L_api_Params__AlphaConf hs.p1.blk, L_api_Params__Beta hs.p1.blk, neS_bool _ _ U_bool, (hr.fr hs.fr0).len, beq_dec]
    simp at hA
    rw [cnd_bool]
    refine ⟨fun h => ?_, fun h => ?_⟩
    · refine hbad ?_ _ hs.fr0
      simp at h
      unfold headBad
      by_cases h1 : plc x.l x.flake < 0
      · exact .inr (.inr (.inr (.inl h1)))
      by_cases h2 : x.conf < 0
      · exact .inr (.inr (.inr (.inr (.inl h2))))
      by_cases h3 : p.2.2.2 < x.conf
      · exact .inr (.inr (.inr (.inr (.inr (.inl h3)))))
      · refine .inr (.inr (.inr (.inr (.inr (.inr fun he => ?_)))))
        simp [h1, h2, h3, he] at h
    · simp at h
      have hnb : ¬ headBad p x := by
        unfold headBad
        rintro (h1 | h1 | h1 | h1 | h1 | h1 | h1)
        · omega
        · omega
        · omega
        · omega
        · omega
        · omega
        · exact h1 h.2
      obtain ⟨i0, c0, hpl, hc0, hcid, _⟩ : ∃ i c, plc x.l x.pref = ((i : Nat) : Int) ∧ x.l[i]? = some c ∧ c.1 = x.pref ∧ ∀ (j : Nat) (d : Cho), j < i → x.l[j]? = some d → d.1 ≠ x.pref := by
        rcases plc_cases x.l x.pref with ⟨h1, _⟩ | h1
        · omega
        · exact h1
      have hbest : bestS x = c0.2 := by rw [bestS, hpl, Int.toNat_natCast, hc0]; rfl
      refine ⟨fun y w' => ∃ i : Nat, i ≤ x.l.length ∧ y = .int .i64 i ∧ (∀ (j : Nat) (d : Cho), j < i → x.l[j]? = some d → goodAt x d j = true) ∧ Sep w w' [blk g2 (Rdr.cells Q_api_Snow (snr v x)).toArray T_api_Snow], fun y _ => (x.l.length - RowKit.intOf y).toNat,
        ⟨0, by omega, rfl, by simp, hs.d1⟩, ?_⟩
      rintro _ w6 ⟨i, hi, rfl, hgood, hs6⟩ -
      simp only [fx, Nat.reduceAdd, forall_const]
      rw [cnd_bool]
      refine ⟨fun h => ?_, fun h => ?_⟩
      · have hlt : i < x.l.length := by simpa using h
        obtain ⟨c, hc⟩ : ∃ c, x.l[i]? = some c := ⟨_, List.getElem?_eq_getElem hlt⟩
        refine (hr.fr hs6.fr0).ldN (by decide) hc _ ?_
        refine alloc_s hs6 (A_api_Choice w6) fun g7 w7 hs7 => ?_
        refine St_api_Choice hs7 one_api_Choice fun w8 hs8 => ?_
        refine drH_s hs8 fun w9 hs9 _ => ?_
        simp only [fx, Nat.reduceAdd, forall_const, rdS_ld1, rdS_ldN, L_api_Snow hs9.p1.blk, L_api_Snow__List hs9.p1.blk, L_api_Snow__Pref hs9.p1.blk, L_api_Snow__Flake hs9.p1.blk, L_api_Snow__Conf hs9.p1.blk, L_api_Snow__Done hs9.p1.blk, L_api_Choice hs9.blk, L_api_Choice__ID hs9.blk, L_api_Choice__Strength hs9.blk]
        refine efC_cal (cal_i (snPlace_spec (hr.fr hs9.fr0) hl) ?_)
        rintro _ w10 ⟨rfl, hf10⟩
        have hs10 := hs9.old hf10
        obtain ⟨g5, o5, hat, hix⟩ := (hr.fr hs10.fr0).ix (by decide) hc0
        have hix' : ∀ K, ixs 33 v (.int .i64 (i0 : Int)) K = K (.pointer (some ⟨g5, o5, none⟩)) := hix .i64
        simp only [fx, Nat.reduceAdd, forall_const, rdS_ld1, rdS_ldN, L_api_Snow hs10.p1.blk, L_api_Snow__List hs10.p1.blk, L_api_Snow__Pref hs10.p1.blk, L_api_Snow__Flake hs10.p1.blk, L_api_Snow__Conf hs10.p1.blk, L_api_Snow__Done hs10.p1.blk, L_api_Choice hs10.blk, L_api_Choice__ID hs10.blk, L_api_Choice__Strength hs10.blk, hpl, hix', LA_api_Choice__Strength hat, bne_dec]
        have hgd : goodAt x c i = (decide (plc x.l c.1 = (i : Int)) && (!decide (c.2 < 0) && (!decide (1073741824 < c.2) && !decide (c0.2 < c.2)))) := by rw [goodAt, hbest]
        rw [bad_or, ← hgd, cnd_bool]
        refine ⟨fun h => ?_, fun h => ?_⟩
        · exact hR _ _ ⟨by rw [snE_bad hpar hc (by simpa using h)], hs10.fr0⟩
        · have hgt : goodAt x c i = true := by simpa using h
          rw [wi64 (by omega) (by omega)]
          refine ⟨⟨i + 1, by omega, by simp, fun j d hj hd => ?_, hs10.tail⟩, by simp [RowKit.intOf]; omega⟩
          by_cases hji : j = i
          · subst hji; rw [hc] at hd; cases hd; exact hgt
          · exact hgood j d (by omega) hd
      · have hge : i = x.l.length := by simp at h; omega
        exact hR _ _ ⟨by rw [snE_ok hpar hnb fun j d hd => hgood j d (by have := (List.getElem?_eq_some_iff.1 hd).1; omega) hd], hs6.fr0⟩
end
end Go.Fx
set_option linter.unusedVariables false
set_option linter.unusedSimpArgs false
namespace Go.Fx
section
variable {w : World} {v : Value} {x : Sn} {p : Par}
end
end Go.Fx
set_option linter.unusedVariables false
set_option linter.unusedSimpArgs false
namespace Go.Fx
section
variable {w : World} {v u : Value} {x y : Sn} {p : Par} {id : Id}
theorem choOne (l : List Cho) : ∀ u ∈ l.flatMap (Rdr.cells Q_api_Choice), u.oneCell' = true := by
  intro u hu
  obtain ⟨a, _, ha⟩ := List.mem_flatMap.1 hu
  exact one_api_Choice u ha
theorem sClone_spec {l : List Cho} (hr : Rows' Q_api_Choice w.heap v l) (hl : l.length ≤ 1000000) : cal P f_slices_Clone_api_Choice_api_Choice [v] w fun r w' => Sep w w' [rows Q_api_Choice r l] := by
  refine s_slices_Clone_api_Choice_api_Choice fun R hR => ?_
  unfold c_slices_Clone_api_Choice_api_Choice
  obtain ⟨a, c, hv, hl', hh⟩ := id hr
  subst hv
  cases a with
  | none =>
    have h0 : l = [] := by
      rcases hh with h0 | ⟨_, _, _, _, _, h, _⟩
      · have hsz : Rdr.size Q_api_Choice = 33 := rfl
        rw [hsz] at h0
        exact List.eq_nil_of_length_eq_zero (by omega)
      · cases h
    subst h0
    simp only [fx, Nat.reduceAdd, forall_const]
    exact hR _ _ (Sep.start w).nilR
  | some a =>
    simp only [fx, Nat.reduceAdd, forall_const]
    have hb1 : ∀ w : World, (Instr.buildSlice T_sl_api_Choice 0 #[]).run P w = .ok (.slice (some ⟨w.heap.size, 0, none⟩) 0 0) (w.alloc (.cells (([] : List Cho).flatMap (Rdr.cells Q_api_Choice)).toArray T_api_Choice)) := fun w => by kernel_rfl
    refine rows_build (q := Q_api_Choice) (l := []) (Sep.start w) rfl (hb1 _) fun g w1 hs => ?_
    refine rows_app S_sl_api_Choice U_sl_api_Choice (by simp) hs (hr.fr hs.fr0) (choOne l) (by simp; omega) (by simp; omega) fun v' w2 hs => ?_
    exact hR _ _ hs
theorem snOwn_spec (hr : Rows' Q_api_Choice w.heap v x.l) (hl : x.l.length ≤ 1000000) (h1 : v.oneCell' = true) : cal P f_snow_own [snv v x] w fun r w' => ∃ v', r = snv v' x ∧ Sep w w' [rows Q_api_Choice v' x.l] := by
  refine s_snow_own fun R hR => ?_
  unfold c_snow_own
  refine bx_s (Sep.start w) fun g w1 hs => ?_
  simp only [Value.cells] at hs
  refine alloc_s hs (A_api_Snow w1) fun g2 w2 hs => ?_
  simp only [fx, Nat.reduceAdd, forall_const, L_api_Snow hs.p1.blk, L_api_Snow__List hs.p1.blk, L_api_Snow__Pref hs.p1.blk, L_api_Snow__Flake hs.p1.blk, L_api_Snow__Conf hs.p1.blk, L_api_Snow__Done hs.p1.blk]
  refine cal_i (sClone_spec (hr.fr hs.fr0) hl) ?_
  rintro v' w3 hs3
  replace hs := hs.join hs3
  clear hs3
  refine St_api_Snow__List (Sep.p2 hs) (Sep.oneR hs) fun w4 hs4 => ?_
  simp only [L_api_Snow hs4.blk, L_api_Snow__List hs4.blk, L_api_Snow__Pref hs4.blk, L_api_Snow__Flake hs4.blk, L_api_Snow__Conf hs4.blk, L_api_Snow__Done hs4.blk]
  refine St_api_Snow hs4.p2 (one_api_Snow (Sep.oneR hs)) fun w5 hs5 => ?_
  simp only [L_api_Snow hs5.blk, L_api_Snow__List hs5.blk, L_api_Snow__Pref hs5.blk, L_api_Snow__Flake hs5.blk, L_api_Snow__Conf hs5.blk, L_api_Snow__Done hs5.blk]
  exact hR _ _ ⟨v', rfl, hs5.p2.d2.d1⟩
theorem snPrefers_spec : cal P f_snow_Prefers [snv v x] w fun r w' => r = idv (bif x.dn then x.flake else x.pref) ∧ Fr [] w w' := by
  refine s_snow_Prefers fun R hR => ?_
  unfold c_snow_Prefers
  refine bx_s (Sep.start w) fun g w1 hs => ?_
  simp only [Value.cells] at hs
  refine alloc_s hs (A_api_ID w1) fun g2 w2 hs => ?_
  simp only [fx, Nat.reduceAdd, forall_const, L_api_Snow hs.p1.blk, L_api_Snow__List hs.p1.blk, L_api_Snow__Pref hs.p1.blk, L_api_Snow__Flake hs.p1.blk, L_api_Snow__Conf hs.p1.blk, L_api_Snow__Done hs.p1.blk]
  rw [cnd_bool]
  refine ⟨fun h => ?_, fun h => ?_⟩
  · refine St_api_ID hs fun w3 hs => ?_
    simp only [L_api_ID hs.blk]
    exact hR _ _ ⟨by rw [h]; rfl, hs.fr0⟩
  · refine St_api_ID hs fun w3 hs => ?_
    simp only [L_api_ID hs.blk]
    exact hR _ _ ⟨by rw [h]; rfl, hs.fr0⟩
theorem snHas_spec (hr : Rows' Q_api_Choice w.heap v x.l) (hl : x.l.length ≤ 9223372036854775807) : cal P f_snow_Has [snv v x, idv id] w fun r w' => r = .bool (decide (0 ≤ plc x.l id)) ∧ Fr [] w w' := by
  refine s_snow_Has fun R hR => ?_
  unfold c_snow_Has
  refine bx_s (Sep.start w) fun g w1 hs => ?_
  refine bx_s hs fun g2 w2 hs => ?_
  simp only [Value.cells] at hs
  simp only [fx, Nat.reduceAdd, forall_const, L_api_Snow hs.p1.blk, L_api_Snow__List hs.p1.blk, L_api_Snow__Pref hs.p1.blk, L_api_Snow__Flake hs.p1.blk, L_api_Snow__Conf hs.p1.blk, L_api_Snow__Done hs.p1.blk, L_api_ID hs.blk]
  refine cal_i (snPlace_spec (hr.fr hs.fr0) hl) ?_
  rintro _ w3 ⟨rfl, hf3⟩
  simp only [fx, Nat.reduceAdd, forall_const]
  exact hR _ _ ⟨rfl, (hs.old hf3).fr0⟩
end
end Go.Fx
set_option linter.unusedVariables false
set_option linter.unusedSimpArgs false
namespace Go.Fx
def snZ : Sn := ⟨[], vz 32, vz 32, 0, false⟩
noncomputable def addM (p : Par) (x : Sn) (id : Id) : Sn × Int :=
  if snE p x ≠ 0 then (snZ, snE p x) else if 0 ≤ plc x.l id then (snZ, 110) else if 32 ≤ x.l.length then (snZ, 6) else ({ x with l := x.l ++ [(id, 0)] }, 0)
noncomputable def failM (p : Par) (x : Sn) : Sn × Int := if snE p x ≠ 0 then (snZ, snE p x) else (if x.dn then x else { x with conf := 0 }, 0)
def newM (p : Par) (id : Id) : Sn × Int := if parE p ≠ 0 then (snZ, parE p) else (⟨[(id, 0)], id, id, 0, false⟩, 0)
/-- What a call gives: an instance in memory of its own, and an error. -/
def SnQ (m : Sn × Int) (w : World) (r : Value) (w' : World) : Prop := ∃ v, r = .tuple #[snv v m.1, .int .i64 m.2] ∧ Sep w w' [rows Q_api_Choice v m.1.l]
theorem snE_len {p : Par} {x : Sn} (h : snE p x = 0) : 1 ≤ x.l.length ∧ x.l.length ≤ 32 := by
  unfold snE at h
  split at h
  · rename_i h1; exact absurd h h1
  · split at h
    · cases h
    · rename_i h2
      unfold headBad at h2
      omega
section
variable {w : World} {v u : Value} {x y : Sn} {p : Par} {id : Id}
theorem snNew_spec : cal P f_snow_New [pav p, idv id] w fun r w' => SnQ (newM p id) w r w' := by
  refine s_snow_New fun R hR => ?_
  unfold c_snow_New
  refine bx_s (Sep.start w) fun g w1 hs => ?_
  refine bx_s hs fun g2 w2 hs => ?_
  simp only [Value.cells] at hs
  refine alloc_s hs (A_api_Snow w2) fun g3 w3 hs => ?_
  simp only [fx, Nat.reduceAdd, forall_const, L_api_Params hs.p2.blk, L_api_Params__K hs.p2.blk, L_api_Params__AlphaPref hs.p2.blk, L_api_Params__AlphaConf hs.p2.blk, L_api_Params__Beta hs.p2.blk]
  refine cal_i snParams_spec ?_
  rintro _ w4 ⟨rfl, hf4⟩
  replace hs := hs.old hf4
  simp only [fx, Nat.reduceAdd, forall_const]
  rw [cnd_bool]
  refine ⟨fun h => ?_, fun h => ?_⟩
  · have h : parE p ≠ 0 := by simpa using h
    rw [B_api_Snow]
    refine St_api_Snow hs (one_api_Snow rfl) fun w5 hs => ?_
    simp only [L_api_Snow hs.blk, L_api_Snow__List hs.blk, L_api_Snow__Pref hs.blk, L_api_Snow__Flake hs.blk, L_api_Snow__Conf hs.blk, L_api_Snow__Done hs.blk]
    refine hR _ _ ⟨.slice none 0 0, ?_, ?_⟩
    · rw [newM, if_pos h]; rfl
    · rw [newM, if_pos h]; exact (Sep.nilR (hs.d1.d1)).d1
  · have h : ¬ parE p ≠ 0 := by simpa using h
    simp only [L_api_ID hs.p1.blk, B_api_Choice_0]
    refine rows_lit (q := Q_api_Choice) (l := [((id, 0) : Cho)]) (V := fun c => .agg (Rdr.cells Q_api_Choice c).toArray) hs S_sl_api_Choice (fun a => rfl) rfl rfl (by decide) (by decide) fun g5 w5 hs5 => ?_
    simp only [L_api_ID hs5.p2.blk]
    rw [B_api_Snow_0_1_2 rfl]
    refine St_api_Snow hs5.p1 (one_api_Snow rfl) fun w6 hs6 => ?_
    simp only [L_api_Snow hs6.blk, L_api_Snow__List hs6.blk, L_api_Snow__Pref hs6.blk, L_api_Snow__Flake hs6.blk, L_api_Snow__Conf hs6.blk, L_api_Snow__Done hs6.blk]
    refine hR _ _ ⟨.slice (some ⟨g5, 0, none⟩) 1 1, ?_, ?_⟩
    · rw [newM, if_neg h]
    · rw [newM, if_neg h]; exact hs6.tail.d1.d1
theorem snAdd_spec (hr : Rows' Q_api_Choice w.heap v x.l) (hl : x.l.length ≤ 1000000) (h1 : v.oneCell' = true) : cal P f_snow_Add [pav p, snv v x, idv id] w fun r w' => SnQ (addM p x id) w r w' := by
  refine s_snow_Add fun R hR => ?_
  unfold c_snow_Add
  refine bx_s (Sep.start w) fun g w1 hs => ?_
  refine bx_s hs fun g2 w2 hs => ?_
  refine bx_s hs fun g3 w3 hs => ?_
  simp only [Value.cells] at hs
  refine alloc_s hs (A_api_Snow w3) fun g4 w4 hs => ?_
  simp only [fx, Nat.reduceAdd, forall_const, L_api_Params hs.p3.blk, L_api_Params__K hs.p3.blk, L_api_Params__AlphaPref hs.p3.blk, L_api_Params__AlphaConf hs.p3.blk, L_api_Params__Beta hs.p3.blk, L_api_Snow hs.p2.blk, L_api_Snow__List hs.p2.blk, L_api_Snow__Pref hs.p2.blk, L_api_Snow__Flake hs.p2.blk, L_api_Snow__Conf hs.p2.blk, L_api_Snow__Done hs.p2.blk]
  refine cal_i (snCheck_spec (hr.fr hs.fr0) (by omega)) ?_
  rintro _ w5 ⟨rfl, hf5⟩
  replace hs := hs.old hf5
  have hzero : ∀ {w' : World} {e : Int}, (addM p x id) = (snZ, e) → Sep w w' [blk g4 (Rdr.cells Q_api_Snow (.slice none 0 0, vz 32, vz 32, 0, false)).toArray T_api_Snow] → R (.tuple #[snv (.slice none 0 0) snZ, .int .i64 e]) w' := fun he hs' =>
    hR _ _ ⟨.slice none 0 0, by rw [he], by rw [he]; exact (Sep.nilR hs').d1⟩
  simp only [fx, Nat.reduceAdd, forall_const]
  rw [cnd_bool]
  refine ⟨fun h => ?_, fun h => ?_⟩
  · have h : snE p x ≠ 0 := by simpa using h
    rw [B_api_Snow]
    refine St_api_Snow hs (one_api_Snow rfl) fun w5 hs => ?_
    simp only [L_api_Snow hs.blk, L_api_Snow__List hs.blk, L_api_Snow__Pref hs.blk, L_api_Snow__Flake hs.blk, L_api_Snow__Conf hs.blk, L_api_Snow__Done hs.blk]
    exact hzero (by rw [addM, if_pos h]) hs.d1.d1.d1
  have hE : ¬ snE p x ≠ 0 := by simpa using h
  simp only [L_api_Snow hs.p2.blk, L_api_Snow__List hs.p2.blk, L_api_Snow__Pref hs.p2.blk, L_api_Snow__Flake hs.p2.blk, L_api_Snow__Conf hs.p2.blk, L_api_Snow__Done hs.p2.blk, L_api_ID hs.p1.blk]
  refine cal_i (snHas_spec (hr.fr hs.fr0) (by omega)) ?_
  rintro _ w6 ⟨rfl, hf6⟩
  replace hs := hs.old hf6
  rw [cnd_bool]
  refine ⟨fun h => ?_, fun h => ?_⟩
  · have h : 0 ≤ plc x.l id := by simpa using h
    rw [B_api_Snow]
    refine St_api_Snow hs (one_api_Snow rfl) fun w5 hs => ?_
    simp only [L_api_Snow hs.blk, L_api_Snow__List hs.blk, L_api_Snow__Pref hs.blk, L_api_Snow__Flake hs.blk, L_api_Snow__Conf hs.blk, L_api_Snow__Done hs.blk]
    exact hzero (by rw [addM, if_neg hE, if_pos h]) hs.d1.d1.d1
  have hpl : ¬ 0 ≤ plc x.l id := by simpa using h
  obtain ⟨hn1, hn2⟩ := snE_len (p := p) (x := x) (by simpa using hE)
  simp only [fx, Nat.reduceAdd, forall_const, L_api_Snow hs.p2.blk, L_api_Snow__List hs.p2.blk, L_api_Snow__Pref hs.p2.blk, L_api_Snow__Flake hs.p2.blk, L_api_Snow__Conf hs.p2.blk, L_api_Snow__Done hs.p2.blk, (hr.fr hs.fr0).len]
  rw [cnd_bool]
  refine ⟨fun h => ?_, fun h => ?_⟩
  · have h : 32 ≤ x.l.length := by simp at h; omega
    rw [B_api_Snow]
    refine St_api_Snow hs (one_api_Snow rfl) fun w5 hs => ?_
    simp only [L_api_Snow hs.blk, L_api_Snow__List hs.blk, L_api_Snow__Pref hs.blk, L_api_Snow__Flake hs.blk, L_api_Snow__Conf hs.blk, L_api_Snow__Done hs.blk]
    exact hzero (by rw [addM, if_neg hE, if_neg hpl, if_pos h]) hs.d1.d1.d1
  have h32 : ¬ 32 ≤ x.l.length := by simp at h; omega
  refine cal_i (snOwn_spec (hr.fr hs.fr0) hl h1) ?_
  rintro _ w7 ⟨v', rfl, hs7⟩
  replace hs7 := hs.join hs7
  refine St_api_Snow (Sep.p3 hs7) (one_api_Snow (Sep.oneR hs7)) fun w8 hs8 => ?_
  simp only [fx, Nat.reduceAdd, forall_const, L_api_Snow hs8.blk, L_api_Snow__List hs8.blk, L_api_Snow__Pref hs8.blk, L_api_Snow__Flake hs8.blk, L_api_Snow__Conf hs8.blk, L_api_Snow__Done hs8.blk, L_api_ID hs8.p3.blk, B_api_Choice_0]
  refine rows_lit (q := Q_api_Choice) (l := [((id, 0) : Cho)]) (V := fun c => .agg (Rdr.cells Q_api_Choice c).toArray) hs8 S_sl_api_Choice (fun a => rfl) rfl rfl (by decide) (by decide) fun g9 w9 hs9 => ?_
  refine rows_app (q := Q_api_Choice) S_sl_api_Choice U_sl_api_Choice (by simp) hs9.p2 (Sep.rows hs9) (choOne _) (by simp; omega) (by simp; omega) fun v'' w10 hs10 => ?_
  refine St_api_Snow__List hs10.p2 hs10.oneR fun w11 hs11 => ?_
  simp only [L_api_Snow hs11.blk, L_api_Snow__List hs11.blk, L_api_Snow__Pref hs11.blk, L_api_Snow__Flake hs11.blk, L_api_Snow__Conf hs11.blk, L_api_Snow__Done hs11.blk]
  refine St_api_Snow hs11.p3 (one_api_Snow hs10.oneR) fun w12 hs12 => ?_
  simp only [L_api_Snow hs12.blk, L_api_Snow__List hs12.blk, L_api_Snow__Pref hs12.blk, L_api_Snow__Flake hs12.blk, L_api_Snow__Conf hs12.blk, L_api_Snow__Done hs12.blk]
  have ha : addM p x id = ({ x with l := x.l ++ [(id, 0)] }, 0) := by rw [addM, if_neg hE, if_neg hpl, if_neg h32]
  exact hR _ _ ⟨v'', by rw [ha], by rw [ha]; exact hs12.p2.d1.d1.d1.d1.d1⟩
theorem snFail_spec (hr : Rows' Q_api_Choice w.heap v x.l) (hl : x.l.length ≤ 1000000) (h1 : v.oneCell' = true) : cal P f_snow_Fail [pav p, snv v x] w fun r w' => SnQ (failM p x) w r w' := by
  refine s_snow_Fail fun R hR => ?_
  unfold c_snow_Fail
  refine bx_s (Sep.start w) fun g w1 hs => ?_
  refine bx_s hs fun g2 w2 hs => ?_
  simp only [Value.cells] at hs
  refine alloc_s hs (A_api_Snow w2) fun g4 w4 hs => ?_
  simp only [fx, Nat.reduceAdd, forall_const, L_api_Params hs.p2.blk, L_api_Params__K hs.p2.blk, L_api_Params__AlphaPref hs.p2.blk, L_api_Params__AlphaConf hs.p2.blk, L_api_Params__Beta hs.p2.blk, L_api_Snow hs.p1.blk, L_api_Snow__List hs.p1.blk, L_api_Snow__Pref hs.p1.blk, L_api_Snow__Flake hs.p1.blk, L_api_Snow__Conf hs.p1.blk, L_api_Snow__Done hs.p1.blk]
  refine cal_i (snCheck_spec (hr.fr hs.fr0) (by omega)) ?_
  rintro _ w5 ⟨rfl, hf5⟩
  replace hs := hs.old hf5
  simp only [fx, Nat.reduceAdd, forall_const]
  rw [cnd_bool]
  refine ⟨fun h => ?_, fun h => ?_⟩
  · have h : snE p x ≠ 0 := by simpa using h
    rw [B_api_Snow]
    refine St_api_Snow hs (one_api_Snow rfl) fun w5 hs => ?_
    simp only [L_api_Snow hs.blk, L_api_Snow__List hs.blk, L_api_Snow__Pref hs.blk, L_api_Snow__Flake hs.blk, L_api_Snow__Conf hs.blk, L_api_Snow__Done hs.blk]
    have he : failM p x = (snZ, snE p x) := by rw [failM, if_pos h]
    exact hR _ _ ⟨.slice none 0 0, by rw [he]; rfl, by rw [he]; exact (Sep.nilR hs.d1.d1).d1⟩
  have hE : ¬ snE p x ≠ 0 := by simpa using h
  simp only [L_api_Snow hs.p1.blk, L_api_Snow__List hs.p1.blk, L_api_Snow__Pref hs.p1.blk, L_api_Snow__Flake hs.p1.blk, L_api_Snow__Conf hs.p1.blk, L_api_Snow__Done hs.p1.blk]
  refine cal_i (snOwn_spec (hr.fr hs.fr0) hl h1) ?_
  rintro _ w7 ⟨v', rfl, hs7⟩
  replace hs7 := hs.join hs7
  refine St_api_Snow (Sep.p2 hs7) (one_api_Snow (Sep.oneR hs7)) fun w8 hs8 => ?_
  have ha : failM p x = (if x.dn then x else { x with conf := 0 }, 0) := by rw [failM, if_neg hE]
  refine ⟨fun w' => Sep w w' [blk g2 (Rdr.cells Q_api_Snow (snr v' (failM p x).1)).toArray T_api_Snow, rows Q_api_Choice v' x.l, blk g4 (Rdr.cells Q_api_Snow (.slice none 0 0, vz 32, vz 32, 0, false)).toArray T_api_Snow], ?_, ?_⟩
  · simp only [fx, Nat.reduceAdd, forall_const, L_api_Snow hs8.blk, L_api_Snow__List hs8.blk, L_api_Snow__Pref hs8.blk, L_api_Snow__Flake hs8.blk, L_api_Snow__Conf hs8.blk, L_api_Snow__Done hs8.blk]
    rw [cnd_bool]
    refine ⟨fun h => ?_, fun h => ?_⟩
    · have h : x.dn = false := by simpa using h
      refine St_api_Snow__Conf hs8 fun w9 hs9 => ?_
      have he : (failM p x).1 = { x with conf := 0 } := by rw [ha]; simp [h]
      rw [he]
      exact hs9.d3
    · have h : x.dn = true := by simpa using h
      have he : (failM p x).1 = x := by rw [ha]; simp [h]
      rw [he]
      exact hs8.d3
  · intro w9 hs9 _
    simp only [L_api_Snow hs9.blk, L_api_Snow__List hs9.blk, L_api_Snow__Pref hs9.blk, L_api_Snow__Flake hs9.blk, L_api_Snow__Conf hs9.blk, L_api_Snow__Done hs9.blk]
    refine St_api_Snow hs9.p2 (one_api_Snow (Sep.oneR hs9.p1)) fun w12 hs12 => ?_
    simp only [L_api_Snow hs12.blk, L_api_Snow__List hs12.blk, L_api_Snow__Pref hs12.blk, L_api_Snow__Flake hs12.blk, L_api_Snow__Conf hs12.blk, L_api_Snow__Done hs12.blk]
    have hl2 : (failM p x).1.l = x.l := by rw [ha]; cases x.dn <;> rfl
    exact hR _ _ ⟨v', by rw [ha], by rw [hl2]; exact hs12.p2.d1.d1⟩
end
end Go.Fx
set_option linter.unusedVariables false
set_option linter.unusedSimpArgs false
namespace Go.Fx
def updM (x : Sn) (id : Id) (k : Nat) (c : Cho) : Sn :=
  { x with l := x.l.set k (c.1, min (c.2 + 1) 1073741824), pref := if bestS { x with l := x.l.set k (c.1, min (c.2 + 1) 1073741824) } < min (c.2 + 1) 1073741824 then id else x.pref, flake := id }
def cfM (p : Par) (x : Sn) (id : Id) (n : Int) : Int := if n < p.2.2.1 then 0 else if id = x.flake then x.conf + 1 else 1
noncomputable def pollM (p : Par) (x : Sn) (id : Id) (n : Int) : Sn × Int :=
  if snE p x ≠ 0 then (snZ, snE p x) else if n < 0 ∨ p.1 < n then (snZ, 1) else if plc x.l id < 0 then (snZ, 4) else if x.dn then (x, 0) else if n < p.2.1 then ({ x with conf := 0 }, 0) else
  ({ updM x id (plc x.l id).toNat ((x.l[(plc x.l id).toNat]?).getD (id, 0)) with conf := cfM p x id n, dn := decide (cfM p x id n = p.2.2.2) }, 0)
theorem snE_zero {p : Par} {x : Sn} (h : snE p x = 0) : parE p = 0 ∧ ¬ headBad p x ∧ ∀ i c, x.l[i]? = some c → goodAt x c i = true := by
  by_cases h1 : parE p ≠ 0
  · rw [snE_par h1] at h; exact absurd h h1
  · have h1 : parE p = 0 := by simpa using h1
    by_cases h2 : headBad p x
    · rw [snE_head h1 h2] at h; cases h
    · refine ⟨h1, h2, fun i c hc => ?_⟩
      cases hg : goodAt x c i with
      | true => rfl
      | false => rw [snE_bad h1 hc hg] at h; cases h
theorem parE_zero {p : Par} (h : parE p = 0) : 1 ≤ p.1 ∧ p.1 ≤ 64 ∧ p.1 / 2 < p.2.1 ∧ p.2.1 ≤ p.2.2.1 ∧ p.2.2.1 ≤ p.1 ∧ 1 ≤ p.2.2.2 ∧ p.2.2.2 ≤ 1000 := by
  unfold parE at h
  split at h
  · cases h
  · omega
theorem pollM_up {p : Par} {x : Sn} {id : Id} {n : Int} {k : Nat} {c : Cho} (hE : snE p x = 0) (hn : ¬ (n < 0 ∨ p.1 < n)) (hk : plc x.l id = (k : Int)) (hc : x.l[k]? = some c) (hd : x.dn = false) (hap : ¬ n < p.2.1) :
    pollM p x id n = ({ updM x id k c with conf := cfM p x id n, dn := decide (cfM p x id n = p.2.2.2) }, 0) := by
  rw [pollM, if_neg (by simpa using hE), if_neg hn, if_neg (by omega), if_neg (by simp [hd]), if_neg hap, hk, Int.toNat_natCast, hc]
  rfl
theorem plc_set {l : List Cho} {k : Nat} {c : Cho} {s : Int} (hc : l[k]? = some c) (id : Id) : plc (l.set k (c.1, s)) id = plc l id := by
  have hlt := (List.getElem?_eq_some_iff.1 hc).1
  have hget : ∀ (j : Nat) (d : Cho), (l.set k (c.1, s))[j]? = some d → ∃ d', l[j]? = some d' ∧ d'.1 = d.1 := fun j d hd => by
    by_cases hjk : k = j
    · subst hjk
      rw [List.getElem?_set_self hlt] at hd
      cases hd
      exact ⟨c, hc, rfl⟩
    · rw [List.getElem?_set_ne hjk] at hd
      exact ⟨d, hd, rfl⟩
  have hback : ∀ (j : Nat) (d : Cho), l[j]? = some d → ∃ d', (l.set k (c.1, s))[j]? = some d' ∧ d'.1 = d.1 := fun j d hd => by
    by_cases hjk : k = j
    · subst hjk
      rw [hc] at hd
      cases hd
      exact ⟨_, List.getElem?_set_self hlt, rfl⟩
    · exact ⟨d, by rw [List.getElem?_set_ne hjk]; exact hd, rfl⟩
  rcases plc_cases l id with ⟨h1, h2⟩ | ⟨i, d, h1, h2, h3, h4⟩
  · rw [h1, plc_none fun j d hd => ?_]
    obtain ⟨d', hd', he⟩ := hget j d hd
    rw [← he]
    exact h2 j d' hd'
  · obtain ⟨d', hd', he⟩ := hback i d h2
    rw [h1, plc_at hd' (he.trans h3) fun j e hj hj' => ?_]
    obtain ⟨e', he', hee⟩ := hget j e hj'
    rw [← hee]
    exact h4 j e' hj he'
section
variable {w : World} {v u : Value} {x y : Sn} {p : Par} {id : Id} {n : Int}
theorem snReach_spec : cal P f_snow_reach [pav p, .int .i64 n] w fun r w' => r = .int .i64 (if p.2.2.1 ≤ n then 2 else if p.2.1 ≤ n then 1 else 0) ∧ Fr [] w w' := by
  refine s_snow_reach fun R hR => ?_
  unfold c_snow_reach
  refine bx_s (Sep.start w) fun g w1 hs => ?_
  simp only [Value.cells] at hs
  simp only [fx, Nat.reduceAdd, forall_const, L_api_Params hs.blk, L_api_Params__K hs.blk, L_api_Params__AlphaPref hs.blk, L_api_Params__AlphaConf hs.blk, L_api_Params__Beta hs.blk]
  rw [cnd_bool]
  refine ⟨fun h => ?_, fun h => ?_⟩
  · exact hR _ _ ⟨by rw [if_pos (by simpa using h)], hs.fr0⟩
  · rw [cnd_bool]
    refine ⟨fun h2 => ?_, fun h2 => ?_⟩
    · exact hR _ _ ⟨by rw [if_neg (by simpa using h), if_pos (by simpa using h2)], hs.fr0⟩
    · exact hR _ _ ⟨by rw [if_neg (by simpa using h), if_neg (by simpa using h2)], hs.fr0⟩
theorem snPoll_spec (hr : Rows' Q_api_Choice w.heap v x.l) (hl : x.l.length ≤ 1000000) (h1 : v.oneCell' = true) : cal P f_snow_Poll [pav p, snv v x, idv id, .int .i64 n] w fun r w' => SnQ (pollM p x id n) w r w' := by
  refine s_snow_Poll fun R hR => ?_
  unfold c_snow_Poll
  refine bx_s (Sep.start w) fun g1 w1 hs => ?_
  refine bx_s hs fun g2 w2 hs => ?_
  refine bx_s hs fun g3 w3 hs => ?_
  simp only [Value.cells] at hs
  refine alloc_s hs (A_api_Snow w3) fun g4 w4 hs => ?_
  simp only [fx, Nat.reduceAdd, forall_const, L_api_Params hs.p3.blk, L_api_Params__K hs.p3.blk, L_api_Params__AlphaPref hs.p3.blk, L_api_Params__AlphaConf hs.p3.blk, L_api_Params__Beta hs.p3.blk, L_api_Snow hs.p2.blk, L_api_Snow__List hs.p2.blk, L_api_Snow__Pref hs.p2.blk, L_api_Snow__Flake hs.p2.blk, L_api_Snow__Conf hs.p2.blk, L_api_Snow__Done hs.p2.blk]
  refine cal_i (snCheck_spec (hr.fr hs.fr0) (by omega)) ?_
  rintro _ w5 ⟨rfl, hf5⟩
  replace hs := hs.old hf5
  have hzero : ∀ {w' : World} {e : Int}, (pollM p x id n) = (snZ, e) → Sep w w' [blk g4 (Rdr.cells Q_api_Snow (.slice none 0 0, vz 32, vz 32, 0, false)).toArray T_api_Snow] → R (.tuple #[snv (.slice none 0 0) snZ, .int .i64 e]) w' := fun he hs' =>
    hR _ _ ⟨.slice none 0 0, by rw [he], by rw [he]; exact (Sep.nilR hs').d1⟩
  simp only [fx, Nat.reduceAdd, forall_const]
  rw [cnd_bool]
  refine ⟨fun h => ?_, fun h => ?_⟩
  · have h : snE p x ≠ 0 := by simpa using h
    rw [B_api_Snow]
    refine St_api_Snow hs (one_api_Snow rfl) fun w5 hs => ?_
    simp only [L_api_Snow hs.blk, L_api_Snow__List hs.blk, L_api_Snow__Pref hs.blk, L_api_Snow__Flake hs.blk, L_api_Snow__Conf hs.blk, L_api_Snow__Done hs.blk]
    exact hzero (by rw [pollM, if_pos h]) hs.d1.d1.d1
  have hE : snE p x = 0 := by simpa using h
  have hE' : ¬ snE p x ≠ 0 := by simpa using h
  simp only [fx, Nat.reduceAdd, forall_const, L_api_Params hs.p3.blk, L_api_Params__K hs.p3.blk, L_api_Params__AlphaPref hs.p3.blk, L_api_Params__AlphaConf hs.p3.blk, L_api_Params__Beta hs.p3.blk]
  rw [cnd_bool]
  refine ⟨fun h => ?_, fun h => ?_⟩
  · have h : n < 0 ∨ p.1 < n := by simpa using h
    rw [B_api_Snow]
    refine St_api_Snow hs (one_api_Snow rfl) fun w5 hs => ?_
    simp only [L_api_Snow hs.blk, L_api_Snow__List hs.blk, L_api_Snow__Pref hs.blk, L_api_Snow__Flake hs.blk, L_api_Snow__Conf hs.blk, L_api_Snow__Done hs.blk]
    exact hzero (by rw [pollM, if_neg hE', if_pos h]) hs.d1.d1.d1
  have hn : ¬ (n < 0 ∨ p.1 < n) := by simpa using h
  simp only [L_api_Snow hs.p2.blk, L_api_Snow__List hs.p2.blk, L_api_Snow__Pref hs.p2.blk, L_api_Snow__Flake hs.p2.blk, L_api_Snow__Conf hs.p2.blk, L_api_Snow__Done hs.p2.blk, L_api_ID hs.p1.blk]
  refine cal_i (snPlace_spec (hr.fr hs.fr0) (by omega)) ?_
  rintro _ w6 ⟨rfl, hf6⟩
  replace hs := hs.old hf6
  simp only [fx, Nat.reduceAdd, forall_const]
  rw [cnd_bool]
  refine ⟨fun h => ?_, fun h => ?_⟩
  · have h : plc x.l id < 0 := by simpa using h
    rw [B_api_Snow]
    refine St_api_Snow hs (one_api_Snow rfl) fun w5 hs => ?_
    simp only [L_api_Snow hs.blk, L_api_Snow__List hs.blk, L_api_Snow__Pref hs.blk, L_api_Snow__Flake hs.blk, L_api_Snow__Conf hs.blk, L_api_Snow__Done hs.blk]
    exact hzero (by rw [pollM, if_neg hE', if_neg hn, if_pos h]) hs.d1.d1.d1
  have hpl : ¬ plc x.l id < 0 := by simpa using h
  obtain ⟨k, c, hk, hc, hcid, _⟩ : ∃ i c, plc x.l id = ((i : Nat) : Int) ∧ x.l[i]? = some c ∧ c.1 = id ∧ ∀ (j : Nat) (d : Cho), j < i → x.l[j]? = some d → d.1 ≠ id := by
    rcases plc_cases x.l id with ⟨h1, _⟩ | h1
    · omega
    · exact h1
  have hklt := (List.getElem?_eq_some_iff.1 hc).1
  obtain ⟨hpar, hhead, hgood⟩ := snE_zero hE
  obtain ⟨q1, q2, q3, q4, q5, q6, q7⟩ := parE_zero hpar
  have hcg := hgood k c hc
  simp [goodAt] at hcg
  simp only [L_api_Snow hs.p2.blk, L_api_Snow__List hs.p2.blk, L_api_Snow__Pref hs.p2.blk, L_api_Snow__Flake hs.p2.blk, L_api_Snow__Conf hs.p2.blk, L_api_Snow__Done hs.p2.blk]
  refine cal_i (snOwn_spec (hr.fr hs.fr0) hl h1) ?_
  rintro _ w7 ⟨v', rfl, hs7⟩
  replace hs7 := hs.join hs7
  have hv' := Sep.oneR hs7
  refine St_api_Snow (Sep.p3 hs7) (one_api_Snow hv') fun w8 hs8 => ?_
  simp only [fx, Nat.reduceAdd, forall_const, L_api_Snow hs8.blk, L_api_Snow__List hs8.blk, L_api_Snow__Pref hs8.blk, L_api_Snow__Flake hs8.blk, L_api_Snow__Conf hs8.blk, L_api_Snow__Done hs8.blk]
  rw [cnd_bool]
  refine ⟨fun hd => ?_, fun hd => ?_⟩
  · have he : pollM p x id n = (x, 0) := by rw [pollM, if_neg hE', if_neg hn, if_neg hpl, if_pos hd]
    refine St_api_Snow hs8.p2 (one_api_Snow hv') fun w9 hs9 => ?_
    simp only [L_api_Snow hs9.blk, L_api_Snow__List hs9.blk, L_api_Snow__Pref hs9.blk, L_api_Snow__Flake hs9.blk, L_api_Snow__Conf hs9.blk, L_api_Snow__Done hs9.blk]
    exact hR _ _ ⟨v', by rw [he], by rw [he]; exact hs9.p2.d1.d1.d1.d1⟩
  have hd : x.dn = false := hd
  simp only [L_api_Params hs8.p4.blk, L_api_Params__K hs8.p4.blk, L_api_Params__AlphaPref hs8.p4.blk, L_api_Params__AlphaConf hs8.p4.blk, L_api_Params__Beta hs8.p4.blk]
  refine cal_i snReach_spec ?_
  rintro _ w9 ⟨rfl, hf9⟩
  have hs9 := hs8.old hf9
  refine ⟨fun y w' => ∃ (x' : Sn) (cf : Int), y = .int .i64 cf ∧ pollM p x id n = ({ x' with conf := cf, dn := decide (cf = p.2.2.2) }, 0) ∧
    Sep w w' [blk g2 (Rdr.cells Q_api_Snow (snr v' x')).toArray T_api_Snow, rows Q_api_Choice v' x'.l, blk g4 (Rdr.cells Q_api_Snow (.slice none 0 0, vz 32, vz 32, 0, false)).toArray T_api_Snow, blk g1 (Rdr.cells Q_api_Params p).toArray T_api_Params], ?_, ?_⟩
  · -- up to the join
    refine ⟨fun y w' => ¬ n < p.2.1 ∧ y = .int .i64 (cfM p x id n) ∧ Sep w w' [blk g2 (Rdr.cells Q_api_Snow (snr v' x)).toArray T_api_Snow, rows Q_api_Choice v' x.l, blk g4 (Rdr.cells Q_api_Snow (.slice none 0 0, vz 32, vz 32, 0, false)).toArray T_api_Snow, blk g3 (Rdr.cells (rVec 32) id).toArray T_api_ID, blk g1 (Rdr.cells Q_api_Params p).toArray T_api_Params], ?_, ?_⟩
    · simp only [fx, Nat.reduceAdd, forall_const]
      by_cases hac : p.2.2.1 ≤ n
      · rw [if_pos hac]
        simp only [fx, Nat.reduceAdd, forall_const, show ((2 : Int) == 2) = true from rfl, L_api_ID hs9.p3.blk, L_api_Snow hs9.blk, L_api_Snow__List hs9.blk, L_api_Snow__Pref hs9.blk, L_api_Snow__Flake hs9.blk, L_api_Snow__Conf hs9.blk, L_api_Snow__Done hs9.blk, eq_api_ID]
        rw [cnd_bool]
        unfold headBad at hhead
        refine ⟨fun h => ?_, fun h => ?_⟩
        · have h : id = x.flake := by simpa using h
          rw [wi64 (by omega) (by omega)]
          exact ⟨by omega, by rw [cfM, if_neg (by omega), if_pos h], hs9⟩
        · have h : ¬ id = x.flake := by simpa using h
          exact ⟨by omega, by rw [cfM, if_neg (by omega), if_neg h], hs9⟩
      · rw [if_neg hac]
        by_cases hap : p.2.1 ≤ n
        · rw [if_pos hap]
          simp only [fx, Nat.reduceAdd, forall_const, show ((1 : Int) == 2) = false from rfl, show ((1 : Int) == 1) = true from rfl]
          exact ⟨by omega, by rw [cfM, if_pos (by omega)], hs9⟩
        · rw [if_neg hap]
          simp only [fx, Nat.reduceAdd, forall_const, show ((0 : Int) == 2) = false from rfl, show ((0 : Int) == 1) = false from rfl]
          refine ⟨x, 0, rfl, ?_, hs9.d3⟩
          rw [pollM, if_neg hE', if_neg hn, if_neg hpl, if_neg (by simp [hd]), if_pos (by omega)]
          have : decide ((0 : Int) = p.2.2.2) = false := by simp; omega
          rw [this, hd]
    · rintro _ w10 ⟨hap, rfl, hs10⟩ -
      obtain ⟨a0, c0, hvf, _⟩ := (Sep.p1 hs10).formR
      obtain ⟨g, o, hao⟩ : ∃ g o, a0 = some ⟨g, o, none⟩ := by
        obtain ⟨g, o, c', hf⟩ := (Sep.rows hs10.p1).form (by decide) hc
        rw [hvf] at hf
        cases hf
        exact ⟨g, o, rfl⟩
      subst hvf; subst hao
      simp only [fx, Nat.reduceAdd, forall_const, L_api_Snow hs10.blk, L_api_Snow__List hs10.blk, L_api_Snow__Pref hs10.blk, L_api_Snow__Flake hs10.blk, L_api_Snow__Conf hs10.blk, L_api_Snow__Done hs10.blk, hk]
      rw [ixs_mk _ _ _ _ _ _ _ _ (by omega) (by omega), Int.toNat_natCast]
      have hat := At.of (q := Q_api_Choice) (by decide) (Sep.rows hs10.p1) hc
      have hat' : At w10.heap g (o + k * 33) (Rdr.cells Q_api_Choice c) := hat
      simp only [fx, Nat.reduceAdd, forall_const, LA_api_Choice__Strength hat', min_int]
      rw [wi64 (by omega) (by omega)]
      have hmin : min (c.2 + 1) 1073741824 ≤ 1073741824 := by omega
      refine rows_stV (q := Q_api_Choice) (s := rInt .i64) (b := min (c.2 + 1) 1073741824) (.snd .self) rfl hs10.p1 hc rfl rfl fun w11 hs11 => ?_
      have hset : (x.l.set k (c.1, min (c.2 + 1) 1073741824))[k]? = some (c.1, min (c.2 + 1) 1073741824) := List.getElem?_set_self hklt
      generalize hx1 : ({ x with l := x.l.set k (c.1, min (c.2 + 1) 1073741824) } : Sn) = x1 at *
      have hl1 : x1.l = x.l.set k (c.1, min (c.2 + 1) 1073741824) := by rw [← hx1]
      have hsn : ∀ z, snr z x = snr z x1 := fun z => by rw [← hx1]
      have hll : x1.l.length = x.l.length := by rw [hl1]; simp
      have hs11 : Sep w w11 [rows Q_api_Choice (.slice (some ⟨g, o, none⟩) x.l.length c0) x1.l, blk g2 (Rdr.cells Q_api_Snow (snr (.slice (some ⟨g, o, none⟩) x.l.length c0) x1)).toArray T_api_Snow, blk g4 (Rdr.cells Q_api_Snow (.slice none 0 0, vz 32, vz 32, 0, false)).toArray T_api_Snow, blk g3 (Rdr.cells (rVec 32) id).toArray T_api_ID, blk g1 (Rdr.cells Q_api_Params p).toArray T_api_Params] := by
        rw [hl1, ← hsn]; exact hs11
      have hpp : plc x1.l x1.pref = plc x.l x.pref := by rw [hl1, plc_set hc, ← hx1]
      obtain ⟨i0, d0, hpl0, hd0, _, _⟩ : ∃ i d, plc x1.l x1.pref = ((i : Nat) : Int) ∧ x1.l[i]? = some d ∧ d.1 = x1.pref ∧ ∀ (j : Nat) (d : Cho), j < i → x1.l[j]? = some d → d.1 ≠ x1.pref := by
        rcases plc_cases x1.l x1.pref with ⟨h1, _⟩ | h1
        · exfalso
          rw [hpp] at h1
          unfold headBad at hhead
          omega
        · exact h1
      have hbest : bestS x1 = d0.2 := by rw [bestS, hpl0, Int.toNat_natCast, hd0]; rfl
      refine ⟨fun w' => Sep w w' [blk g2 (Rdr.cells Q_api_Snow (snr (.slice (some ⟨g, o, none⟩) x.l.length c0) { x1 with pref := if bestS x1 < min (c.2 + 1) 1073741824 then id else x1.pref })).toArray T_api_Snow, rows Q_api_Choice (.slice (some ⟨g, o, none⟩) x.l.length c0) x1.l, blk g4 (Rdr.cells Q_api_Snow (.slice none 0 0, vz 32, vz 32, 0, false)).toArray T_api_Snow, blk g3 (Rdr.cells (rVec 32) id).toArray T_api_ID, blk g1 (Rdr.cells Q_api_Params p).toArray T_api_Params], ?_, ?_⟩
      · refine drH_S hs11 fun w12 hs12 _ => ?_
        have hatS : ∀ u, Sep w u [rows Q_api_Choice (.slice (some ⟨g, o, none⟩) x.l.length c0) x1.l, blk g2 (Rdr.cells Q_api_Snow (snr (.slice (some ⟨g, o, none⟩) x.l.length c0) x1)).toArray T_api_Snow, blk g4 (Rdr.cells Q_api_Snow (.slice none 0 0, vz 32, vz 32, 0, false)).toArray T_api_Snow, blk g3 (Rdr.cells (rVec 32) id).toArray T_api_ID, blk g1 (Rdr.cells Q_api_Params p).toArray T_api_Params] →
            At u.heap g (o + k * 33) (Rdr.cells Q_api_Choice (c.1, min (c.2 + 1) 1073741824)) := fun u hu => At.of (q := Q_api_Choice) (by decide) (Sep.rows hu) (by rw [hl1]; exact hset)
        refine ⟨.int .i64 (min (c.2 + 1) 1073741824), fun u hu => ?_, ?_⟩
        · show ld1 _ u.heap _
          rw [LA_api_Choice__Strength (hatS u hu)]
        refine ⟨.slice (some ⟨g, o, none⟩) x.l.length c0, fun u hu => ?_, ?_⟩
        · show ld1 _ u.heap _
          rw [L_api_Snow__List (Sep.p1 hu).blk]
        refine ⟨snv (.slice (some ⟨g, o, none⟩) x.l.length c0) x1, fun u hu => ?_, ?_⟩
        · show ldN 67 _ u.heap _
          rw [L_api_Snow (Sep.p1 hu).blk]
        refine ⟨idv x1.pref, fun u hu => ?_, ?_⟩
        · show ldN 32 _ u.heap _
          rw [L_api_Snow__Pref (Sep.p1 hu).blk]
        refine efS_i (cal_i (snPlace_spec (Sep.rows hs12) (by omega)) ?_)
        rintro _ w13 ⟨rfl, hf13⟩
        have hs13 := hs12.old hf13
        refine ⟨hs13, ?_⟩
        rw [hpl0]
        refine rdS_row (q := Q_api_Choice) (.snd .self) rfl (by decide) hs13 (fun u hu => Sep.rows hu) hd0 .i64 ?_
        simp only [fx, Nat.reduceAdd, forall_const]
        rw [← hbest, cnd_bool]
        refine ⟨fun h => ?_, fun h => ?_⟩
        · simp only [L_api_ID hs13.p3.blk]
          refine St_api_Snow__Pref hs13.p1 oneVec fun w14 hs14 => ?_
          rw [if_pos (by simpa using h)]
          exact hs14
        · rw [if_neg (by simpa using h)]
          exact hs13.p1
      · intro w12 hs12 _
        simp only [L_api_ID hs12.p3.blk]
        refine St_api_Snow__Flake hs12 oneVec fun w13 hs13 => ?_
        refine ⟨updM x id k c, _, rfl, ?_, ?_⟩
        · exact pollM_up hE hn hk hc hd hap
        · have hu : updM x id k c = { x1 with pref := if bestS x1 < min (c.2 + 1) 1073741824 then id else x1.pref, flake := id } := by
            unfold updM
            rw [hx1, ← hx1]
          rw [hu]
          exact hs13.d3
  · rintro _ w10 ⟨x', cf, rfl, he, hs10⟩ -
    refine St_api_Snow__Conf hs10 fun w11 hs11 => ?_
    simp only [fx, Nat.reduceAdd, forall_const, L_api_Params hs11.p3.blk, L_api_Params__K hs11.p3.blk, L_api_Params__AlphaPref hs11.p3.blk, L_api_Params__AlphaConf hs11.p3.blk, L_api_Params__Beta hs11.p3.blk]
    refine St_api_Snow__Done hs11 fun w12 hs12 => ?_
    simp only [L_api_Snow hs12.blk, L_api_Snow__List hs12.blk, L_api_Snow__Pref hs12.blk, L_api_Snow__Flake hs12.blk, L_api_Snow__Conf hs12.blk, L_api_Snow__Done hs12.blk]
    refine St_api_Snow hs12.p2 (one_api_Snow hs12.p1.oneR) fun w13 hs13 => ?_
    simp only [L_api_Snow hs13.blk, L_api_Snow__List hs13.blk, L_api_Snow__Pref hs13.blk, L_api_Snow__Flake hs13.blk, L_api_Snow__Conf hs13.blk, L_api_Snow__Done hs13.blk]
    refine hR _ _ ⟨v', ?_, ?_⟩
    · rw [he, beq_dec]
    · rw [he]; exact hs13.p2.d1.d1.d1
end
end Go.Fx
set_option linter.unusedVariables false
set_option linter.unusedSimpArgs false
namespace Go.Fx
section
variable {w : World} {v u : Value} {x y : Sn} {p : Par} {id : Id} {n : Int}
end
end Go.Fx
set_option linter.unusedVariables false
set_option linter.unusedSimpArgs false
namespace Go.Fx
theorem failM_ok {p : Par} {x : Sn} (h : snE p x = 0) : (failM p x).2 = 0 := by rw [failM, if_neg (by simpa using h)]
theorem pollM_ok {p : Par} {x : Sn} {id : Id} {n : Int} (h : snE p x = 0) (hn : 0 ≤ n) (hk : n ≤ p.1) (hid : 0 ≤ plc x.l id) : (pollM p x id n).2 = 0 := by
  rw [pollM, if_neg (by simpa using h), if_neg (by omega), if_neg (by omega)]
  repeat' split
  all_goals rfl
theorem plc_mem {l : List Cho} {i : Nat} {c : Cho} (hc : l[i]? = some c) : 0 ≤ plc l c.1 := by
  rcases plc_cases l c.1 with ⟨_, h⟩ | ⟨j, d, h, _⟩
  · exact absurd rfl (h i c hc)
  · omega
/-- What may be, in parts. -/
structure May (p : Par) (x : Sn) : Prop where
  par : parE p = 0
  n1 : 1 ≤ x.l.length
  n2 : x.l.length ≤ 32
  pref : 0 ≤ plc x.l x.pref
  flake : 0 ≤ plc x.l x.flake
  c0 : 0 ≤ x.conf
  c1 : x.conf ≤ p.2.2.2
  dn : x.dn = decide (x.conf = p.2.2.2)
  own : ∀ (i : Nat) (c : Cho), x.l[i]? = some c → plc x.l c.1 = i ∧ 0 ≤ c.2 ∧ c.2 ≤ 1073741824 ∧ c.2 ≤ bestS x
theorem may_iff {p : Par} {x : Sn} : snE p x = 0 ↔ May p x := by
  constructor
  · intro h
    obtain ⟨h1, h2, h3⟩ := snE_zero h
    unfold headBad at h2
    refine ⟨h1, by omega, by omega, by omega, by omega, by omega, by omega, Classical.not_not.1 fun hd => h2 (.inr (.inr (.inr (.inr (.inr (.inr hd)))))), fun i c hc => ?_⟩
    have := h3 i c hc
    simp [goodAt] at this
    omega
  · intro h
    refine snE_ok h.par (fun hb => ?_) fun i c hc => ?_
    · unfold headBad at hb
      have := h.n1; have := h.n2; have := h.pref; have := h.flake; have := h.c0; have := h.c1
      rcases hb with hb | hb | hb | hb | hb | hb | hb
      · omega
      · omega
      · omega
      · omega
      · omega
      · omega
      · exact hb h.dn
    · have := h.own i c hc
      simp [goodAt]
      omega
theorem plc_pos {l : List Cho} {id : Id} (h : 0 ≤ plc l id) : ∃ i c, plc l id = ((i : Nat) : Int) ∧ l[i]? = some c ∧ c.1 = id ∧ ∀ (j : Nat) (d : Cho), j < i → l[j]? = some d → d.1 ≠ id := by
  rcases plc_cases l id with ⟨h1, _⟩ | h1
  · omega
  · exact h1
theorem plc_app {l m : List Cho} {id : Id} (h : 0 ≤ plc l id) : plc (l ++ m) id = plc l id := by
  obtain ⟨i, c, h1, h2, h3, h4⟩ := plc_pos h
  have hlt := (List.getElem?_eq_some_iff.1 h2).1
  rw [h1]
  refine plc_at (c := c) (by rw [List.getElem?_append_left hlt]; exact h2) h3 fun j d hj hd => ?_
  rw [List.getElem?_append_left (by omega)] at hd
  exact h4 j d hj hd
theorem plc_last {l : List Cho} {id : Id} {s : Int} (h : plc l id < 0) : plc (l ++ [(id, s)]) id = l.length := by
  refine plc_at (c := (id, s)) (by simp) rfl fun j d hj hd => ?_
  rw [List.getElem?_append_left (by omega)] at hd
  rcases plc_cases l id with ⟨_, h2⟩ | ⟨i, c, h1, _⟩
  · exact h2 j d hd
  · omega
/-- A list that grew: old choices stay, none weaker. -/
def Grows (l m : List Cho) : Prop := ∀ (i : Nat) (c : Cho), l[i]? = some c → ∃ d, m[i]? = some d ∧ d.1 = c.1 ∧ c.2 ≤ d.2
theorem Grows.len {l m : List Cho} (h : Grows l m) : l.length ≤ m.length := by
  rcases Nat.lt_or_ge m.length l.length with hlt | h'
  · obtain ⟨d, hd, _⟩ := h m.length _ (List.getElem?_eq_getElem hlt)
    simp at hd
  · exact h'
def prf (x : Sn) : Id := bif x.dn then x.flake else x.pref
theorem best_at {x : Sn} {i : Nat} {c : Cho} (h : plc x.l x.pref = i) (hc : x.l[i]? = some c) : bestS x = c.2 := by rw [bestS, h, Int.toNat_natCast, hc]; rfl
theorem May.best {p : Par} {x : Sn} (h : May p x) : ∃ i c, plc x.l x.pref = ((i : Nat) : Int) ∧ x.l[i]? = some c ∧ bestS x = c.2 := by
  obtain ⟨i, c, h1, h2, _⟩ := plc_pos h.pref
  exact ⟨i, c, h1, h2, best_at h1 h2⟩
theorem add_may {p : Par} {x : Sn} {id : Id} (h : May p x) : ((addM p x id).2 ≠ 0) ∨ (addM p x id = ({ x with l := x.l ++ [(id, 0)] }, 0) ∧ May p { x with l := x.l ++ [(id, 0)] }) := by
  by_cases h1 : 0 ≤ plc x.l id
  · left; rw [addM, if_neg (by simpa using may_iff.2 h), if_pos h1]; decide
  by_cases h2 : 32 ≤ x.l.length
  · left; rw [addM, if_neg (by simpa using may_iff.2 h), if_neg h1, if_pos h2]; decide
  right
  refine ⟨by rw [addM, if_neg (by simpa using may_iff.2 h), if_neg h1, if_neg h2], ?_⟩
  obtain ⟨i, c, hi, hc, hb⟩ := h.best
  have hlt := (List.getElem?_eq_some_iff.1 hc).1
  have hb' : Go.Fx.bestS { x with l := x.l ++ [(id, 0)] } = c.2 := best_at (x := { x with l := x.l ++ [(id, 0)] }) (by show plc (x.l ++ _) x.pref = _; rw [plc_app h.pref]; exact hi) (by show (x.l ++ _)[i]? = _; rw [List.getElem?_append_left hlt]; exact hc)
  have hc0 := h.own i c hc
  refine ⟨h.par, by simp, by simp; omega, by show 0 ≤ plc (x.l ++ _) x.pref; rw [plc_app h.pref]; exact h.pref, by show 0 ≤ plc (x.l ++ _) x.flake; rw [plc_app h.flake]; exact h.flake, h.c0, h.c1, h.dn, fun j d hd => ?_⟩
  rw [hb']
  have hd : (x.l ++ [(id, 0)])[j]? = some d := hd
  by_cases hj : j < x.l.length
  · rw [List.getElem?_append_left hj] at hd
    obtain ⟨q1, q2, q3, q4⟩ := h.own j d hd
    refine ⟨?_, q2, q3, by rw [← hb]; exact q4⟩
    show plc (x.l ++ _) d.1 = _
    rw [plc_app (by omega)]
    exact q1
  · have hje : j = x.l.length := by have := (List.getElem?_eq_some_iff.1 hd).1; simp at this; omega
    subst hje
    simp at hd
    subst hd
    refine ⟨?_, by simp, by simp, hc0.2.1⟩
    show plc (x.l ++ _) id = _
    exact plc_last (by omega)
theorem fail_may {p : Par} {x : Sn} (h : May p x) : May p (failM p x).1 ∧ (failM p x).1.l = x.l ∧ prf (failM p x).1 = prf x ∧ (x.dn = true → (failM p x).1 = x) ∧ (failM p x).1.dn = x.dn ∧ (x.dn = false → (failM p x).1.conf = 0 ∧ (failM p x).1.flake = x.flake) := by
  have he : (failM p x).1 = if x.dn then x else { x with conf := 0 } := by rw [failM, if_neg (by simpa using may_iff.2 h)]
  rw [he]
  by_cases hd : x.dn = true
  · rw [if_pos hd]
    exact ⟨h, rfl, rfl, fun _ => rfl, rfl, fun h => by rw [hd] at h; cases h⟩
  · rw [if_neg hd]
    have hd : x.dn = false := by simpa using hd
    obtain ⟨_, _, _, _, _, q6, _⟩ := parE_zero h.par
    refine ⟨⟨h.par, h.n1, h.n2, h.pref, h.flake, by simp, by simp; omega, ?_, h.own⟩, rfl, ?_, (fun h => by rw [hd] at h; cases h), rfl, fun _ => ⟨rfl, rfl⟩⟩
    · have : decide ((0 : Int) = p.2.2.2) = false := by simp; omega
      show x.dn = decide ((0 : Int) = p.2.2.2)
      rw [this, hd]
    · show (bif x.dn then _ else _) = (bif x.dn then _ else _)
      rw [hd]
/-- Votes enough: what a poll makes. -/
theorem up_may {p : Par} {x : Sn} {k : Nat} {c : Cho} {n : Int} (h : May p x) (hc : x.l[k]? = some c) (hd : x.dn = false) {y : Sn}
    (hy : y = { updM x c.1 k c with conf := cfM p x c.1 n, dn := decide (cfM p x c.1 n = p.2.2.2) }) :
    May p y ∧ y.l = x.l.set k (c.1, min (c.2 + 1) 1073741824) ∧ y.flake = c.1 ∧ (y.pref = x.pref ∨ (y.pref = c.1 ∧ ∃ s, plc x.l x.pref = ((s : Nat) : Int) ∧ ∃ d, y.l[s]? = some d ∧ d.2 < min (c.2 + 1) 1073741824)) := by
  have hklt := (List.getElem?_eq_some_iff.1 hc).1
  obtain ⟨q1, q2, q3, q4⟩ := h.own k c hc
  obtain ⟨_, _, _, _, _, r6, _⟩ := parE_zero h.par
  obtain ⟨i, b, hi, hb, hbest⟩ := h.best
  have hilt := (List.getElem?_eq_some_iff.1 hb).1
  generalize hs : min (c.2 + 1) 1073741824 = s at *
  have hs1 : c.2 ≤ s ∧ 0 ≤ s ∧ s ≤ 1073741824 := by omega
  have hyl : y.l = x.l.set k (c.1, s) := by rw [hy, updM, hs]
  have hplc : ∀ z, plc y.l z = plc x.l z := fun z => by rw [hyl, plc_set hc]
  obtain ⟨b', hb', hbb⟩ : ∃ b', y.l[i]? = some b' ∧ b.2 ≤ b'.2 := by
    rw [hyl]
    by_cases hik : k = i
    · subst hik
      rw [hc] at hb; cases hb
      exact ⟨_, List.getElem?_set_self hklt, hs1.1⟩
    · exact ⟨b, by rw [List.getElem?_set_ne hik]; exact hb, Int.le_refl _⟩
  have hbx1 : bestS { x with l := x.l.set k (c.1, s) } = b'.2 := best_at (x := { x with l := x.l.set k (c.1, s) }) (by show plc (x.l.set _ _) x.pref = _; rw [plc_set hc]; exact hi) (by rw [← hyl]; exact hb')
  have hyp : y.pref = if b'.2 < s then c.1 else x.pref := by rw [hy, updM, hs, hbx1]
  have hyf : y.flake = c.1 := by rw [hy, updM]
  have hyc : y.conf = cfM p x c.1 n := by rw [hy]
  have hyd : y.dn = decide (cfM p x c.1 n = p.2.2.2) := by rw [hy]
  have hcf : x.conf ≠ p.2.2.2 := fun he => by have := h.dn; rw [hd, he] at this; simp at this
  have hcb : 0 ≤ cfM p x c.1 n ∧ cfM p x c.1 n ≤ p.2.2.2 := by
    have := h.c0; have := h.c1
    unfold cfM
    repeat' split
    all_goals omega
  have hky : y.l[k]? = some (c.1, s) := by rw [hyl]; exact List.getElem?_set_self hklt
  have hby : b'.2 ≤ bestS y ∧ s ≤ bestS y := by
    by_cases hlt : b'.2 < s
    · rw [if_pos hlt] at hyp
      have : bestS y = s := best_at (c := (c.1, s)) (i := k) (by rw [hplc, hyp]; exact q1) hky
      omega
    · rw [if_neg hlt] at hyp
      have : bestS y = b'.2 := best_at (i := i) (by rw [hplc, hyp]; exact hi) hb'
      omega
  refine ⟨⟨h.par, by rw [hyl]; simpa using h.n1, by rw [hyl]; simpa using h.n2, ?_, by rw [hplc, hyf]; omega, by rw [hyc]; exact hcb.1, by rw [hyc]; exact hcb.2, by rw [hyd, hyc], fun j d hj => ?_⟩, hyl, hyf, ?_⟩
  · rw [hplc, hyp]
    split
    · omega
    · exact h.pref
  · rw [hplc]
    by_cases hjk : k = j
    · subst hjk
      rw [hky] at hj
      cases hj
      exact ⟨q1, hs1.2.1, hs1.2.2, hby.2⟩
    · rw [hyl, List.getElem?_set_ne hjk] at hj
      obtain ⟨e1, e2, e3, e4⟩ := h.own j d hj
      exact ⟨e1, e2, e3, by omega⟩
  · by_cases hlt : b'.2 < s
    · right
      rw [if_pos hlt] at hyp
      exact ⟨hyp, i, hi, b', hb', hlt⟩
    · left
      rw [if_neg hlt] at hyp
      exact hyp
theorem poll_cases {p : Par} {x : Sn} {k : Nat} {c : Cho} {n : Int} (h : May p x) (hc : x.l[k]? = some c) (h0 : 0 ≤ n) (hk : n ≤ p.1) :
    (x.dn = true ∧ (pollM p x c.1 n).1 = x) ∨ (x.dn = false ∧ n < p.2.1 ∧ (pollM p x c.1 n).1 = (failM p x).1) ∨
      (x.dn = false ∧ p.2.1 ≤ n ∧ (pollM p x c.1 n).1 = { updM x c.1 k c with conf := cfM p x c.1 n, dn := decide (cfM p x c.1 n = p.2.2.2) }) := by
  have hE := may_iff.2 h
  have hpl := (h.own k c hc).1
  cases hd : x.dn with
  | true => left; exact ⟨rfl, by rw [pollM, if_neg (by simpa using hE), if_neg (by omega), if_neg (by omega), if_pos hd]⟩
  | false =>
    right
    by_cases hn : n < p.2.1
    · left
      refine ⟨rfl, hn, ?_⟩
      rw [pollM, if_neg (by simpa using hE), if_neg (by omega), if_neg (by omega), if_neg (by simp [hd]), if_pos hn, failM, if_neg (by simpa using hE), if_neg (by simp [hd])]
    · right
      refine ⟨rfl, by omega, ?_⟩
      rw [pollM_up hE (by omega) hpl hc hd hn]
theorem new_may {p : Par} {id : Id} (h : parE p = 0) : May p (newM p id).1 ∧ (newM p id).2 = 0 ∧ (newM p id).1.dn = false ∧ (newM p id).1.conf = 0 := by
  obtain ⟨r1, r2, r3, r4, r5, r6, r7⟩ := parE_zero h
  have he : newM p id = (⟨[(id, 0)], id, id, 0, false⟩, 0) := by rw [newM, if_neg (by simpa using h)]
  have hp : plc [(id, 0)] id = ((0 : Nat) : Int) := plc_at (c := (id, 0)) rfl rfl fun j d hj => by omega
  rw [he]
  refine ⟨⟨h, by simp, by simp, by show 0 ≤ plc [(id, 0)] id; omega, by show 0 ≤ plc [(id, 0)] id; omega, by simp, by show (0 : Int) ≤ _; omega, ?_, fun i c hc => ?_⟩, rfl, rfl, rfl⟩
  · have : decide ((0 : Int) = p.2.2.2) = false := by simp; omega
    exact this.symm
  · match i, hc with
    | 0, hc =>
      cases hc
      have hb : bestS ⟨[(id, 0)], id, id, 0, false⟩ = 0 := best_at (i := 0) (c := (id, 0)) hp rfl
      rw [hb]
      exact ⟨hp, by simp, by simp, by simp⟩
    | i + 1, hc => simp at hc
end Go.Fx
set_option linter.unusedVariables false
set_option linter.unusedSimpArgs false
namespace Go.Fx
/-- A name's children. -/
def kidsT (t : Tr) (N : List TN) (k : Vec 32) : List (Vec 32) := if has t N k = true then nms (N.filter fun x => decide (x.2.1.p = k)) else []
/-- What is under a name: its votes together. -/
def cntT (t : Tr) (N : List TN) (V : List Vt) (k : Vec 32) : Int := (V.map fun v => if under t N v.1 k = true then v.2 else 0).sum
/-- The name with the most. -/
def bestT (f : Vec 32 → Int) (l : List (Vec 32)) : Vec 32 × Int := l.foldl (fun b k => if b.2 < f k ∨ (f k = b.2 ∧ 0 < b.2 ∧ ltV k b.1 = true) then (k, f k) else b) (vz 32, 0)
section
variable {t : Tr} {N : List TN} {m : Nat}
theorem nms_has {k : Vec 32} (hw : TrW t N) : k ∈ nms N ↔ has t N k = true ∧ k ≠ t.root := by
  constructor
  · intro h
    have hb : ∃ b, blkOf k N = some b := by
      obtain ⟨x, hx, rfl⟩ := List.mem_map.1 h
      unfold blkOf nodeOf
      cases hf : N.find? (fun y => decide (x.1 = y.1)) with
      | some y => exact ⟨y.2.1, rfl⟩
      | none => rw [List.find?_eq_none] at hf; have := hf x hx; simp at this
    obtain ⟨b, hb⟩ := hb
    exact ⟨blk_has hb, blk_nroot hw hb⟩
  · rintro ⟨h, hr⟩
    exact (has_mem h).resolve_left hr
theorem kid_iff (hw : TrW t N) (hn : (nms N).Nodup) {k a : Vec 32} : a ∈ kidsT t N k ↔ has t N k = true ∧ has t N a = true ∧ a ≠ t.root ∧ upOf a N = k := by
  unfold kidsT
  split
  · rename_i hk
    rw [← kid_names hn, List.mem_filter, nms_has hw]
    simp only [decide_eq_true_eq, hk, true_and]
    exact ⟨fun h => ⟨h.1.1, h.1.2, h.2⟩, fun h => ⟨⟨h.1, h.2.1⟩, h.2.2⟩⟩
  · rename_i hk
    simp only [List.not_mem_nil, false_iff]
    exact fun h => hk h.1
theorem kids_nodup (hn : (nms N).Nodup) (k : Vec 32) : (kidsT t N k).Nodup := by
  unfold kidsT
  split
  · exact hn.sublist (List.filter_sublist.map _)
  · exact List.nodup_nil
theorem under_has {a b : Vec 32} (h : under t N a b = true) : has t N a = true ∧ has t N b = true := by
  unfold under at h
  simp only [Bool.and_eq_true] at h
  exact ⟨h.1, h.2.1⟩
theorem has_root : has t N t.root = true := mem_has (.inl rfl)
theorem under_root (b : Vec 32) : under t N t.root b = decide (b = t.root) := by
  by_cases hb : has t N b = true
  · rw [under_path has_root hb, path_root]
    simp
  · have h1 : under t N t.root b = false := by
      cases h : under t N t.root b with
      | false => rfl
      | true => exact absurd (under_has h).2 hb
    rw [h1]
    symm
    exact decide_eq_false fun he => hb (he ▸ has_root)
theorem under_step (hw : TrW t N) {a b : Vec 32} (ha : has t N a = true) (hr : a ≠ t.root) : under t N a b = (decide (a = b) || under t N (upOf a N) b) := by
  have hu := (up_has hw ha hr).1
  by_cases hb : has t N b = true
  · rw [under_path ha hb, under_path hu hb, path_step hw ha hr]
    by_cases h1 : b = t.root <;> by_cases h2 : b ∈ pathOf t N (upOf a N) <;> by_cases h3 : a = b <;> simp [h1, h2, h3, eq_comm]
  · have h1 : ∀ c, under t N c b = false := fun c => by
      cases h : under t N c b with
      | false => rfl
      | true => exact absurd (under_has h).2 hb
    rw [h1, h1, Bool.or_false]
    symm
    exact decide_eq_false fun he => hb (he ▸ ha)
theorem under_self (hw : TrW t N) {a : Vec 32} (ha : has t N a = true) : under t N a a = true := by
  by_cases hr : a = t.root
  · subst hr; rw [under_root]; simp
  · rw [under_step hw ha hr]; simp
theorem under_hgt (hw : TrW t N) {a b : Vec 32} (h : under t N a b = true) : a = b ∨ hgt t N b < hgt t N a := by
  have ha := (under_has h).1
  revert h
  refine path_ind hw (C := fun a => under t N a b = true → a = b ∨ hgt t N b < hgt t N a) (fun h => ?_) (fun a ha hr ih h => ?_) a ha
  · rw [under_root] at h
    exact .inl (of_decide_eq_true h).symm
  · rw [under_step hw ha hr] at h
    simp only [Bool.or_eq_true, decide_eq_true_eq] at h
    have h2 := (up_has hw ha hr).2
    rcases h with h | h
    · exact .inl h
    · right
      rcases ih h with h | h
      · rw [h] at h2; omega
      · omega
theorem under_trans (hw : TrW t N) {a k c : Vec 32} (h : under t N a k = true) (h2 : under t N k c = true) : under t N a c = true := by
  have ha := (under_has h).1
  revert h
  refine path_ind hw (C := fun a => under t N a k = true → under t N a c = true) (fun h => ?_) (fun a ha hr ih h => ?_) a ha
  · rw [under_root] at h
    have : k = t.root := by simpa using h
    rw [← this]; exact h2
  · rw [under_step hw ha hr] at h ⊢
    simp only [Bool.or_eq_true, decide_eq_true_eq] at h ⊢
    rcases h with h | h
    · subst h
      rw [under_step hw ha hr] at h2
      simpa using h2
    · exact .inr (ih h)
theorem kid_hgt (hw : TrW t N) (hn : (nms N).Nodup) {k a : Vec 32} (h : a ∈ kidsT t N k) : hgt t N a = hgt t N k + 1 := by
  obtain ⟨_, h2, h3, h4⟩ := (kid_iff hw hn).1 h
  rw [(up_has hw h2 h3).2, h4]
/-- Sums. -/
theorem sum_zero {α : Type} (l : List α) (f : α → Int) (h : ∀ x ∈ l, f x = 0) : (l.map f).sum = 0 := by
  induction l with
  | nil => rfl
  | cons a l ih =>
    rw [List.map_cons, List.sum_cons, h a (by simp), ih fun x hx => h x (by simp [hx])]
    rfl
theorem sum_congr {α : Type} (l : List α) (f g : α → Int) (h : ∀ x ∈ l, f x = g x) : (l.map f).sum = (l.map g).sum := by
  induction l with
  | nil => rfl
  | cons a l ih => rw [List.map_cons, List.map_cons, List.sum_cons, List.sum_cons, h a (by simp), ih fun x hx => h x (by simp [hx])]
theorem sum_add {α : Type} (l : List α) (f g : α → Int) : (l.map fun x => f x + g x).sum = (l.map f).sum + (l.map g).sum := by
  induction l with
  | nil => rfl
  | cons a l ih => rw [List.map_cons, List.map_cons, List.map_cons, List.sum_cons, List.sum_cons, List.sum_cons, ih]; omega
theorem sum_mul {α : Type} (l : List α) (c : Int) (f : α → Int) : (l.map fun x => c * f x).sum = c * (l.map f).sum := by
  induction l with
  | nil => simp
  | cons a l ih => rw [List.map_cons, List.map_cons, List.sum_cons, List.sum_cons, ih, Int.mul_add]
theorem sum_swap {α β : Type} (l : List α) (r : List β) (f : α → β → Int) : (l.map fun x => (r.map fun y => f x y).sum).sum = (r.map fun y => (l.map fun x => f x y).sum).sum := by
  induction l with
  | nil => simp only [List.map_nil, List.sum_nil]; exact (sum_zero r _ fun _ _ => rfl).symm
  | cons a l ih =>
    simp only [List.map_cons, List.sum_cons]
    rw [ih, sum_add]
theorem sum_le {α : Type} (l : List α) (f g : α → Int) (h : ∀ x ∈ l, f x ≤ g x) : (l.map f).sum ≤ (l.map g).sum := by
  induction l with
  | nil => simp
  | cons a l ih =>
    simp only [List.map_cons, List.sum_cons]
    have := h a (by simp)
    have := ih fun x hx => h x (by simp [hx])
    omega
theorem sum_one {α : Type} [DecidableEq α] {l : List α} (hn : l.Nodup) {a : α} (h : a ∈ l) (c : Int) : (l.map fun x => if a = x then c else 0).sum = c := by
  induction l with
  | nil => cases h
  | cons b l ih =>
    rw [List.nodup_cons] at hn
    simp only [List.map_cons, List.sum_cons]
    by_cases hab : a = b
    · subst hab
      rw [if_pos rfl, sum_zero l (fun x => if a = x then c else 0) fun x hx => if_neg fun he : a = x => hn.1 (he ▸ hx)]
      omega
    · rw [if_neg hab, ih hn.2 ((List.mem_cons.1 h).resolve_left hab)]
      omega
def b01 (b : Bool) : Int := bif b then 1 else 0
/-- One vote counts for a name if it is for it, or counts for one of its children. -/
theorem under_kids (hw : TrW t N) (hn : (nms N).Nodup) {k a : Vec 32} (hk : has t N k = true) : b01 (under t N a k) = b01 (decide (a = k)) + ((kidsT t N k).map fun x => b01 (under t N a x)).sum := by
  by_cases ha : has t N a = true
  case neg =>
    have h1 : ∀ c, under t N a c = false := fun c => by
      cases h : under t N a c with
      | false => rfl
      | true => exact absurd (under_has h).1 ha
    have h2 : decide (a = k) = false := decide_eq_false fun he => ha (he ▸ hk)
    rw [h1, h2, sum_zero _ _ fun x _ => by rw [h1]; rfl]
    rfl
  refine path_ind hw (C := fun a => b01 (under t N a k) = b01 (decide (a = k)) + ((kidsT t N k).map fun x => b01 (under t N a x)).sum) ?_ (fun a ha hr ih => ?_) a ha
  · rw [under_root, sum_zero _ _ fun x hx => by
      rw [under_root, decide_eq_false ((kid_iff hw hn).1 hx).2.2.1]
      rfl]
    by_cases h : k = t.root
    · subst h; simp [b01]
    · simp [h, Ne.symm h]
  · have hz : ∀ x ∈ kidsT t N k, under t N k x = false := fun x hx => by
      cases h : under t N k x with
      | false => rfl
      | true =>
        have h1 := kid_hgt hw hn hx
        rcases under_hgt hw h with h | h
        · subst h; omega
        · omega
    by_cases he : a = k
    · subst he
      rw [under_self hw ha, sum_zero _ _ fun x hx => by rw [hz x hx]; rfl, decide_eq_true rfl]
      rfl
    · rw [under_step hw ha hr, decide_eq_false he, Bool.false_or, ih]
      by_cases hu : upOf a N = k
      · have hak : a ∈ kidsT t N k := (kid_iff hw hn).2 ⟨hk, ha, hr, hu⟩
        rw [hu, sum_zero (kidsT t N k) (fun x => b01 (under t N k x)) fun x hx => by rw [hz x hx]; rfl, decide_eq_true rfl]
        have e : ∀ x ∈ kidsT t N k, b01 (under t N a x) = if a = x then 1 else 0 := fun x hx => by
          rw [under_step hw ha hr, hu, hz x hx, Bool.or_false]
          by_cases hx : a = x <;> simp [hx, b01]
        rw [sum_congr _ _ _ e, sum_one (kids_nodup hn k) hak]
        rfl
      · have e : ∀ x ∈ kidsT t N k, b01 (under t N a x) = b01 (under t N (upOf a N) x) := fun x hx => by
          have hax : decide (a = x) = false := decide_eq_false fun h => hu (h ▸ ((kid_iff hw hn).1 hx).2.2.2)
          rw [under_step hw ha hr, hax, Bool.false_or]
        rw [sum_congr _ _ _ e, decide_eq_false hu]
/-- Names in a bag that may be are unlike. -/
theorem bag_lt {V : List Vt} (h : bagOk V) {i j : Nat} {u v : Vt} (hu : V[i]? = some u) (hv : V[j]? = some v) (hij : i < j) : ofBe u.1.1 < ofBe v.1.1 := by
  have key : ∀ d i (u v : Vt), V[i]? = some u → V[i + 1 + d]? = some v → ofBe u.1.1 < ofBe v.1.1 := fun d => by
    induction d with
    | zero =>
      intro i u v hu hv
      have := (h (i + 1) v hv).1 u (by omega) hu
      simpa [ltV] using this
    | succ d ih =>
      intro i u v hu hv
      obtain ⟨x, hx⟩ : ∃ x, V[i + 1 + d]? = some x := ⟨_, List.getElem?_eq_getElem (by have := (List.getElem?_eq_some_iff.1 hv).1; omega)⟩
      have h1 := ih i u x hu hx
      have h2 := (h (i + 1 + (d + 1)) v hv).1 x (by omega) (by rw [show i + 1 + (d + 1) - 1 = i + 1 + d by omega]; exact hx)
      have h2 : ofBe x.1.1 < ofBe v.1.1 := by simpa [ltV] using h2
      omega
  exact key (j - i - 1) i u v hu (by rw [show i + 1 + (j - i - 1) = j by omega]; exact hv)
theorem bag_one {V : List Vt} (h : bagOk V) {i j : Nat} {u v : Vt} (hu : V[i]? = some u) (hv : V[j]? = some v) (he : u.1 = v.1) : i = j := by
  rcases Nat.lt_trichotomy i j with hl | hl | hl
  · have := bag_lt h hu hv hl; rw [he] at this; omega
  · exact hl
  · have := bag_lt h hv hu hl; rw [he] at this; omega
theorem cntV_sum {V : List Vt} (h : bagOk V) (k : Vec 32) : cntV V k = (V.map fun v => v.2 * b01 (decide (v.1 = k))).sum := by
  have hp : V.Pairwise fun u v => u.1 ≠ v.1 := by
    rw [List.pairwise_iff_getElem]
    intro i j hi hj hij he
    have := bag_one h (List.getElem?_eq_getElem hi) (List.getElem?_eq_getElem hj) he
    omega
  clear h
  induction V with
  | nil => rfl
  | cons v V ih =>
    rw [List.pairwise_cons] at hp
    simp only [List.map_cons, List.sum_cons]
    unfold cntV
    by_cases hk : v.1 = k
    · rw [List.find?_cons_of_pos (by simpa using hk), sum_zero V _ fun u hu => by
        rw [decide_eq_false fun he => hp.1 u hu (hk.trans he.symm)]
        simp [b01]]
      simp [hk, b01]
    · rw [List.find?_cons_of_neg (by simpa using hk), decide_eq_false hk]
      have := ih hp.2
      unfold cntV at this
      rw [this]
      simp [b01]
theorem if_b01 (b : Bool) (c : Int) : (if b = true then c else 0) = c * b01 b := by cases b <;> simp [b01]
/-- A name's count is its own votes and its children's counts. -/
theorem cnt_rec (hw : TrW t N) (hn : (nms N).Nodup) {V : List Vt} (h : bagOk V) {k : Vec 32} (hk : has t N k = true) : cntT t N V k = cntV V k + ((kidsT t N k).map (cntT t N V)).sum := by
  unfold cntT
  rw [cntV_sum h]
  have e : ∀ v ∈ V, (if under t N v.1 k = true then v.2 else 0) = v.2 * b01 (decide (v.1 = k)) + ((kidsT t N k).map fun x => if under t N v.1 x = true then v.2 else 0).sum := fun v _ => by
    rw [if_b01, under_kids hw hn hk, Int.mul_add, ← sum_mul]
    congr 1
    exact sum_congr _ _ _ fun x _ => (if_b01 _ _).symm
  rw [sum_congr _ _ _ e, sum_add, sum_swap]
theorem cnt_bounds {V : List Vt} (h : bagOk V) (k : Vec 32) : 0 ≤ cntT t N V k ∧ cntT t N V k ≤ sumV V := by
  have hp := h.pos
  constructor
  · have := sum_le V (fun _ => (0 : Int)) (fun v => if under t N v.1 k = true then v.2 else 0) fun v hv => by
      have := hp v hv
      show (0 : Int) ≤ if under t N v.1 k = true then v.2 else 0
      split <;> omega
    rw [sum_zero V (fun _ => (0 : Int)) fun _ _ => rfl] at this
    exact this
  · exact sum_le V _ _ fun v hv => by
      have := hp v hv
      show (if under t N v.1 k = true then v.2 else 0) ≤ v.2
      split <;> omega
end
/-- What is true of the best. -/
theorem best_ok (f : Vec 32 → Int) (l : List (Vec 32)) : 0 ≤ (bestT f l).2 ∧ (0 < (bestT f l).2 → (bestT f l).1 ∈ l ∧ f (bestT f l).1 = (bestT f l).2) ∧ ∀ k ∈ l, f k ≤ (bestT f l).2 := by
  have key : ∀ (l r : List (Vec 32)) (b : Vec 32 × Int), (0 ≤ b.2 ∧ (0 < b.2 → b.1 ∈ r ∧ f b.1 = b.2) ∧ ∀ k ∈ r, f k ≤ b.2) →
      (fun b : Vec 32 × Int => 0 ≤ b.2 ∧ (0 < b.2 → b.1 ∈ r ++ l ∧ f b.1 = b.2) ∧ ∀ k ∈ r ++ l, f k ≤ b.2) (l.foldl (fun b k => if b.2 < f k ∨ (f k = b.2 ∧ 0 < b.2 ∧ ltV k b.1 = true) then (k, f k) else b) b) := by
    intro l
    induction l with
    | nil => intro r b h; simpa using h
    | cons a l ih =>
      intro r b h
      rw [List.foldl_cons]
      have := ih (r ++ [a]) (if b.2 < f a ∨ (f a = b.2 ∧ 0 < b.2 ∧ ltV a b.1 = true) then (a, f a) else b) ?_
      · simpa only [List.append_assoc, List.singleton_append] using this
      · obtain ⟨h1, h2, h3⟩ := h
        split
        · rename_i hc
          refine ⟨by show 0 ≤ f a; omega, fun _ => ⟨by simp, rfl⟩, fun k hk => ?_⟩
          show f k ≤ f a
          rcases List.mem_append.1 hk with hk | hk
          · have := h3 k hk; omega
          · obtain rfl : k = a := by simpa using hk
            exact Int.le_refl _
        · rename_i hc
          refine ⟨h1, fun h0 => ⟨by simp [(h2 h0).1], (h2 h0).2⟩, fun k hk => ?_⟩
          rcases List.mem_append.1 hk with hk | hk
          · exact h3 k hk
          · obtain rfl : k = a := by simpa using hk
            omega
  have := key l [] (vz 32, 0) ⟨Int.le_refl _, fun h => absurd h (by decide), fun k hk => by cases hk⟩
  simp only [List.nil_append] at this
  exact this
/-! ### A move -/
section
variable {t : Tr} {N : List TN} {m : Nat} {k : Vec 32}
theorem mv_has_iff (hw : TrW t N) (hk : mvOk t N k = true) (a : Vec 32) : has (mvT t N k) (mvN t N k) a = under t N a k := by
  obtain ⟨hkb, hkp⟩ := mvOk_spec hk
  have hkh : has t N k = true := blk_has hkb
  by_cases ha : a = k
  · subst ha
    rw [under_self hw hkh]
    exact mem_has (.inl rfl)
  · have hd : decide (a = (mvT t N k).root) = false := decide_eq_false ha
    unfold has
    rw [hd, Bool.false_or, mv_blk]
    cases hu : under t N a k with
    | false => rw [if_neg fun h => by cases h.2]; rfl
    | true =>
      rw [if_pos ⟨ha, rfl⟩]
      have har : a ≠ t.root := fun he => by
        rw [he, under_root] at hu
        exact blk_nroot hw hkb (by simpa using hu)
      rw [has_blk (under_has hu).1 har]
      rfl
theorem mv_upOf (hw : TrW t N) {a : Vec 32} (ha : a ≠ k) (hu : under t N a k = true) : upOf a (mvN t N k) = upOf a N := by
  unfold upOf
  rw [mvN_eq, nb_filter (fun y => !decide (y = k) && under t N y k) a N (by simp [ha, hu])]
theorem mv_kids (hw : TrW t N) (hn : (nms N).Nodup) (hk : mvOk t N k = true) {c : Vec 32} (hc : under t N c k = true) : kidsT (mvT t N k) (mvN t N k) c = kidsT t N c := by
  obtain ⟨hkb, hkp⟩ := mvOk_spec hk
  have hkr := blk_nroot hw hkb
  have hkh : has t N k = true := blk_has hkb
  unfold kidsT
  rw [if_pos (by rw [mv_has_iff hw hk]; exact hc), if_pos (under_has hc).1]
  congr 1
  unfold mvN
  rw [List.filter_filter]
  refine List.filter_congr fun x hx => ?_
  by_cases hp : x.2.1.p = c
  · have h1 : x.1 ∈ kidsT t N c := by
      unfold kidsT
      rw [if_pos (under_has hc).1]
      exact List.mem_map_of_mem (List.mem_filter.2 ⟨hx, by simpa using hp⟩)
    obtain ⟨_, h2, h3, h4⟩ := (kid_iff hw hn).1 h1
    have h5 : x.1 ≠ k := fun he => by
      rw [he, hkp] at h4
      rw [← h4, under_root] at hc
      exact hkr (by simpa using hc)
    have h6 : under t N x.1 k = true := by
      rw [under_step hw h2 h3, h4, hc]
      simp
    simp [hp, h5, h6]
  · simp [hp]
theorem mv_under (hi : TM t N m) (hk : mvOk t N k = true) {a b : Vec 32} (hb : under t N b k = true) : under (mvT t N k) (mvN t N k) a b = under t N a b := by
  have hw := hi.w
  have hw' := (hi.move hk).w
  obtain ⟨hkb, hkp⟩ := mvOk_spec hk
  have hkr := blk_nroot hw hkb
  have hkh : has t N k = true := blk_has hkb
  by_cases ha : has (mvT t N k) (mvN t N k) a = true
  · refine path_ind hw' (C := fun a => under (mvT t N k) (mvN t N k) a b = under t N a b) ?_ (fun a ha hr ih => ?_) a ha
    · rw [under_root]
      show decide (b = k) = under t N k b
      by_cases hbk : b = k
      · subst hbk; rw [under_self hw hkh]; simp
      · rw [decide_eq_false hbk]
        symm
        cases h : under t N k b with
        | false => rfl
        | true =>
          have h1 := (under_hgt hw h).resolve_left (Ne.symm hbk)
          have h2 := (under_hgt hw hb).resolve_left hbk
          omega
    · have hr : a ≠ k := hr
      have hu : under t N a k = true := by rw [← mv_has_iff hw hk]; exact ha
      have har : a ≠ t.root := fun he => by
        rw [he, under_root] at hu
        exact hkr (by simpa using hu)
      rw [under_step hw' ha (show a ≠ (mvT t N k).root from hr), under_step hw (under_has hu).1 har, ih, mv_upOf hw hr hu]
  · have h1 : under (mvT t N k) (mvN t N k) a b = false := by
      cases h : under (mvT t N k) (mvN t N k) a b with
      | false => rfl
      | true => exact absurd (under_has h).1 ha
    rw [h1]
    symm
    cases h : under t N a b with
    | false => rfl
    | true =>
      exfalso
      apply ha
      rw [mv_has_iff hw hk]
      exact under_trans hw h hb
theorem mv_cnt (hi : TM t N m) (hk : mvOk t N k = true) (V : List Vt) {b : Vec 32} (hb : under t N b k = true) : cntT (mvT t N k) (mvN t N k) V b = cntT t N V b := by
  unfold cntT
  exact sum_congr _ _ _ fun v _ => by rw [mv_under hi hk hb]
theorem mv_len (hw : TrW t N) (hk : mvOk t N k = true) : (mvN t N k).length < N.length := by
  obtain ⟨hkb, _⟩ := mvOk_spec hk
  have hm : k ∈ nms N := (nms_has hw).2 ⟨blk_has hkb, blk_nroot hw hkb⟩
  obtain ⟨x, hx, rfl⟩ := List.mem_map.1 hm
  unfold mvN
  rcases Nat.lt_or_ge (N.filter fun y => !decide (y.1 = x.1) && under t N y.1 x.1).length N.length with h | h
  · exact h
  · have he := List.length_filter_le (fun y : TN => !decide (y.1 = x.1) && under t N y.1 x.1) N
    have := (List.filter_eq_self.1 ((List.filter_sublist (l := N) (p := fun y : TN => !decide (y.1 = x.1) && under t N y.1 x.1)).eq_of_length_le h)) x hx
    simp at this
end
end Go.Fx
set_option linter.unusedVariables false
set_option linter.unusedSimpArgs false
namespace Go.Fx
/-- Blocks without where they stand. -/
def sN (N : List TN) : List TN := N.map fun x => (x.1, x.2.1, undef, 0)
theorem sN_kbs (N : List TN) : kbs (sN N) = kbs N := by
  unfold sN kbs
  rw [List.map_map]
  rfl
theorem sN_mv (t : Tr) (N : List TN) (k : Vec 32) : mvN t (sN N) k = sN (mvN t N k) := by
  unfold mvN
  rw [show (fun x : TN => !decide (x.1 = k) && under t (sN N) x.1 k) = fun x => !decide (x.1 = k) && under t N x.1 k from funext fun x => by rw [kb_under (sN_kbs N)]]
  unfold sN
  rw [List.filter_map]
  rfl
theorem kb_mvT {t : Tr} {N M : List TN} (h : kbs N = kbs M) (k : Vec 32) : mvT t N k = mvT t M k := by unfold mvT; rw [kb_nb h]
theorem kb_mvGone {t : Tr} {N M : List TN} (h : kbs N = kbs M) (k : Vec 32) : mvGone t N k = mvGone t M k := by
  unfold mvGone
  rw [show N.map (·.1) = M.map (·.1) from kb_nms h]
  exact List.filter_congr fun x _ => by rw [kb_under h]
theorem kb_mvOk {t : Tr} {N M : List TN} (h : kbs N = kbs M) (k : Vec 32) : mvOk t N k = mvOk t M k := by unfold mvOk; rw [kb_blk h, kb_nb h]
theorem kb_kidsT {t : Tr} {N M : List TN} (h : kbs N = kbs M) (k : Vec 32) : kidsT t N k = kidsT t M k := by unfold kidsT; rw [kb_has h, kb_kids h]
theorem kb_cntT {t : Tr} {N M : List TN} (h : kbs N = kbs M) (V : List Vt) (k : Vec 32) : cntT t N V k = cntT t M V k := by
  unfold cntT
  exact sum_congr _ _ _ fun v _ => by rw [kb_under h]
abbrev SM := Vec 32 → Option Sn
def updS (S : SM) (k : Vec 32) (x : Sn) : SM := fun k' => if k' = k then some x else S k'
/-- A poll under way. -/
structure PS where
  t : Tr
  N : List TN
  S : SM
  pos : Vec 32
  acc : List (Vec 32)
  rej : List (Vec 32)
  pol : List (Vec 32)
abbrev PS.best (V : List Vt) (s : PS) : Vec 32 × Int := bestT (cntT s.t s.N V) (kidsT s.t s.N s.pos)
abbrev PS.moved (s : PS) (k : Vec 32) : PS := { s with t := mvT s.t s.N k, N := mvN s.t s.N k, pos := k, acc := s.acc ++ [k], rej := s.rej ++ mvGone s.t s.N k }
abbrev PS.polled (s : PS) (y : Sn) (k : Vec 32) : PS := { s with S := updS s.S s.pos y, pol := s.pos :: s.pol, pos := if s.pos ≠ s.t.root ∨ y.dn = false then k else s.pos }
/-- One step. -/
noncomputable def pstep (p : Par) (V : List Vt) (s : PS) : Option PS :=
  match s.S s.pos with
  | none => none
  | some x =>
    if s.pos = s.t.root ∧ x.dn = true then some (s.moved (prf x))
    else if (s.best V).2 < p.2.1 then none
    else some (s.polled (pollM p x (s.best V).1 (s.best V).2).1 (s.best V).1)
/-- What stays true. -/
structure PI (p : Par) (m : Nat) (s : PS) : Prop where
  tm : TM s.t s.N m
  par : parE p = 0
  may : ∀ k x, s.S k = some x → May p x
  no : ∀ k, has s.t s.N k = true → s.S k = none → kidsT s.t s.N k = []
  kids : ∀ k x, has s.t s.N k = true → s.S k = some x → x.l.map (·.1) = kidsT s.t s.N k
  pos : has s.t s.N s.pos = true
theorem may_prf {p : Par} {x : Sn} (h : May p x) : prf x ∈ x.l.map (·.1) := by
  have key : ∀ id, 0 ≤ plc x.l id → id ∈ x.l.map (·.1) := fun id hid => by
    obtain ⟨i, c, _, hc, rfl, _⟩ := plc_pos hid
    exact List.mem_map_of_mem (List.mem_of_getElem? hc)
  unfold prf
  cases x.dn with
  | true => exact key _ h.flake
  | false => exact key _ h.pref
theorem mem_plc {l : List Cho} {id : Id} (h : id ∈ l.map (·.1)) : 0 ≤ plc l id ∧ ∃ i c, plc l id = ((i : Nat) : Int) ∧ l[i]? = some c ∧ c.1 = id := by
  obtain ⟨c, hc, rfl⟩ := List.mem_map.1 h
  obtain ⟨i, hi⟩ := List.getElem?_of_mem hc
  have h0 := plc_mem hi
  obtain ⟨j, d, h1, h2, h3, _⟩ := plc_pos h0
  exact ⟨h0, j, d, h1, h2, h3⟩
/-- A poll of one of its choices. -/
theorem poll_may {p : Par} {x : Sn} {id : Id} {n : Int} (h : May p x) (hid : id ∈ x.l.map (·.1)) (h0 : 0 ≤ n) (hn : n ≤ p.1) :
    (pollM p x id n).2 = 0 ∧ May p (pollM p x id n).1 ∧ (pollM p x id n).1.l.map (·.1) = x.l.map (·.1) ∧ (x.dn = true → (pollM p x id n).1 = x) ∧ (id = prf x → prf (pollM p x id n).1 = prf x) := by
  obtain ⟨hp0, i, c, hi, hc, rfl⟩ := mem_plc hid
  refine ⟨pollM_ok (may_iff.2 h) h0 hn hp0, ?_⟩
  rcases poll_cases h hc h0 hn with ⟨hd, he⟩ | ⟨hd, _, he⟩ | ⟨hd, _, he⟩
  · rw [he]; exact ⟨h, rfl, fun _ => rfl, fun _ => rfl⟩
  · obtain ⟨h1, h2, h3, _⟩ := fail_may h
    rw [he]
    exact ⟨h1, by rw [h2], fun h => (by rw [hd] at h; cases h), fun _ => h3⟩
  · obtain ⟨h1, h2, h3, h4⟩ := up_may h hc hd he
    refine ⟨h1, ?_, fun h => (by rw [hd] at h; cases h), fun hpf => ?_⟩
    · rw [h2, List.map_set]
      refine List.ext_getElem? fun j => ?_
      rw [List.getElem?_set]
      split
      · rename_i hj
        subst hj
        have hlt := (List.getElem?_eq_some_iff.1 hc).1
        have hcc : x.l[i] = c := (List.getElem?_eq_some_iff.1 hc).2
        simp [hlt, hcc]
      · rfl
    · have hpx : prf x = x.pref := by unfold prf; rw [hd]; rfl
      rw [hpx] at hpf ⊢
      unfold prf
      cases hdd : (pollM p x c.1 n).1.dn with
      | true => show (pollM p x c.1 n).1.flake = _; rw [h3, hpf]
      | false =>
        show (pollM p x c.1 n).1.pref = _
        rcases h4 with h4 | ⟨h4, _⟩
        · exact h4
        · rw [h4, hpf]
/-- How many steps there may still be, at most. -/
noncomputable def muP (m : Nat) (s : PS) : Nat :=
  s.N.length * (2 * m + 4) + 2 * (m - hgt s.t s.N s.pos) + (if s.pos = s.t.root ∧ ∃ x, s.S s.pos = some x ∧ x.dn = false then 1 else 0)
section
variable {p : Par} {V : List Vt} {m : Nat} {s s' : PS}
theorem PI.root_x {x : Sn} (h : PI p m s) (hr : s.pos = s.t.root) (hx : s.S s.pos = some x) : mvOk s.t s.N (prf x) = true ∧ blkOf (prf x) s.N = some (nb (prf x) s.N).1 ∧ upOf (prf x) s.N = s.t.root := by
  have h1 := may_prf (h.may _ _ hx)
  rw [h.kids _ _ h.pos hx, kid_iff h.tm.w h.tm.nd] at h1
  obtain ⟨_, h2, h3, h4⟩ := h1
  have hb := has_blk h2 h3
  refine ⟨?_, hb, h4.trans hr⟩
  unfold mvOk
  rw [hb, decide_eq_true (show (nb (prf x) s.N).1.p = s.t.root from h4.trans hr)]
  rfl
theorem PI.best_in {x : Sn} (h : PI p m s) (hV : bagOk V) (hs : sumV V ≤ p.1) (hx : s.S s.pos = some x) (hb : ¬ (s.best V).2 < p.2.1) :
    (s.best V).1 ∈ kidsT s.t s.N s.pos ∧ cntT s.t s.N V (s.best V).1 = (s.best V).2 ∧ 0 ≤ (s.best V).2 ∧ (s.best V).2 ≤ p.1 ∧ (s.best V).1 ∈ x.l.map (·.1) := by
  obtain ⟨h1, h2, h3⟩ := best_ok (cntT s.t s.N V) (kidsT s.t s.N s.pos)
  obtain ⟨q1, q2, q3, _⟩ := parE_zero h.par
  have h0 : 0 < (s.best V).2 := by show 0 < (bestT _ _).2; have : ¬ (bestT (cntT s.t s.N V) (kidsT s.t s.N s.pos)).2 < p.2.1 := hb; omega
  obtain ⟨h4, h5⟩ := h2 h0
  have h6 := (cnt_bounds (t := s.t) (N := s.N) hV (s.best V).1).2
  refine ⟨h4, h5, h1, ?_, by rw [h.kids _ _ h.pos hx]; exact h4⟩
  have : cntT s.t s.N V (s.best V).1 = (s.best V).2 := h5
  omega
theorem pstep_ok (h : PI p m s) (hV : bagOk V) (hs : sumV V ≤ p.1) (he : pstep p V s = some s') : PI p m s' ∧ muP m s' < muP m s := by
  unfold pstep at he
  cases hx : s.S s.pos with
  | none => rw [hx] at he; cases he
  | some x =>
    rw [hx] at he
    simp only at he
    split at he
    · rename_i hc
      obtain ⟨hr, hd⟩ := hc
      obtain ⟨hk, hkb, hkp⟩ := h.root_x hr hx
      simp only [Option.some.injEq] at he
      subst he
      have hw := h.tm.w
      refine ⟨⟨h.tm.move hk, h.par, h.may, fun k hh hn => ?_, fun k y hh hy => ?_, mem_has (.inl rfl)⟩, ?_⟩
      · have hu : under s.t s.N k (prf x) = true := by rw [← mv_has_iff hw hk]; exact hh
        show kidsT (mvT s.t s.N (prf x)) (mvN s.t s.N (prf x)) k = []
        rw [mv_kids hw h.tm.nd hk hu]
        exact h.no k (under_has hu).1 hn
      · have hu : under s.t s.N k (prf x) = true := by rw [← mv_has_iff hw hk]; exact hh
        show _ = kidsT (mvT s.t s.N (prf x)) (mvN s.t s.N (prf x)) k
        rw [mv_kids hw h.tm.nd hk hu]
        exact h.kids k y (under_has hu).1 hy
      · have hl := mv_len hw hk
        unfold muP
        show (mvN s.t s.N (prf x)).length * (2 * m + 4) + 2 * (m - hgt (mvT s.t s.N (prf x)) (mvN s.t s.N (prf x)) (prf x)) + _ < _
        have h2 : ((mvN s.t s.N (prf x)).length + 1) * (2 * m + 4) ≤ s.N.length * (2 * m + 4) := Nat.mul_le_mul_right _ hl
        rw [Nat.add_mul, Nat.one_mul] at h2
        split <;> omega
    · rename_i hc
      split at he
      · cases he
      · rename_i hb
        simp only [Option.some.injEq] at he
        obtain ⟨h1, h2, h3, h4, h5⟩ := h.best_in hV hs hx hb
        obtain ⟨e1, e2, e3, e4, _⟩ := poll_may (h.may _ _ hx) h5 h3 h4
        obtain ⟨k1, k2, k3, k4⟩ := (kid_iff h.tm.w h.tm.nd).1 h1
        generalize hy : (pollM p x (s.best V).1 (s.best V).2).1 = y at *
        have hkh := kid_hgt h.tm.w h.tm.nd h1
        generalize hkk : (s.best V).1 = kk at *
        subst he
        have hS : ∀ k z, updS s.S s.pos y k = some z → (k = s.pos ∧ z = y) ∨ (k ≠ s.pos ∧ s.S k = some z) := fun k z hz => by
          unfold updS at hz
          split at hz
          · rename_i hk
            exact .inl ⟨hk, (by simpa using hz.symm)⟩
          · rename_i hk
            exact .inr ⟨hk, hz⟩
        refine ⟨⟨h.tm, h.par, fun k z hz => ?_, fun k hh hn => ?_, fun k z hh hz => ?_, ?_⟩, ?_⟩
        · rcases hS k z hz with ⟨_, rfl⟩ | ⟨_, hz⟩
          · exact e2
          · exact h.may k z hz
        · have hn : updS s.S s.pos y k = none := hn
          unfold updS at hn
          split at hn
          · cases hn
          · exact h.no k hh hn
        · rcases hS k z hz with ⟨rfl, rfl⟩ | ⟨_, hz⟩
          · rw [e3]; exact h.kids _ _ h.pos hx
          · exact h.kids k z hh hz
        · show has s.t s.N (if s.pos ≠ s.t.root ∨ y.dn = false then kk else s.pos) = true
          split
          · exact k2
          · exact h.pos
        · have hm := h.tm.hb kk k2
          have eN : (s.polled y kk).N = s.N := rfl
          unfold muP
          rw [eN]
          by_cases hq : s.pos ≠ s.t.root ∨ y.dn = false
          · show _ * _ + 2 * (m - hgt s.t s.N (if s.pos ≠ s.t.root ∨ y.dn = false then kk else s.pos)) + _ < _
            rw [if_pos hq]
            split <;> split <;> omega
          · have hr : s.pos = s.t.root := Classical.not_not.1 fun hh => hq (.inl hh)
            have hyd : y.dn = true := by
              cases hd : y.dn with
              | true => rfl
              | false => exact absurd (.inr hd) hq
            have hxd : x.dn = false := by
              cases hd : x.dn with
              | false => rfl
              | true => exact absurd ⟨hr, hd⟩ hc
            have ep : (s.polled y kk).pos = s.pos := by
              show (if s.pos ≠ s.t.root ∨ y.dn = false then kk else s.pos) = s.pos
              rw [if_neg hq]
            have et : (s.polled y kk).t = s.t := rfl
            have hA : ¬ (s.pos = s.t.root ∧ ∃ x, (s.polled y kk).S s.pos = some x ∧ x.dn = false) := by
              rintro ⟨_, z, hz, hzd⟩
              have hz : updS s.S s.pos y s.pos = some z := hz
              unfold updS at hz
              rw [if_pos rfl] at hz
              simp only [Option.some.injEq] at hz
              rw [← hz, hyd] at hzd
              cases hzd
            have hB : s.pos = s.t.root ∧ ∃ x, s.S s.pos = some x ∧ x.dn = false := ⟨hr, x, hx, hxd⟩
            rw [ep, et, if_neg hA, if_pos hB]
            omega
end
/-- What a poll comes to. -/
inductive Reach (p : Par) (V : List Vt) : PS → PS → Prop
  | refl (a : PS) : Reach p V a a
  | step {a b c : PS} : Reach p V a b → pstep p V b = some c → Reach p V a c
theorem Reach.head {p : Par} {V : List Vt} {a b : PS} (h : Reach p V a b) : a = b ∨ ∃ d, pstep p V a = some d ∧ Reach p V d b := by
  induction h with
  | refl => exact .inl rfl
  | step h1 h2 ih =>
    rcases ih with rfl | ⟨d, hd, hr⟩
    · exact .inr ⟨_, h2, .refl _⟩
    · exact .inr ⟨d, hd, hr.step h2⟩
theorem Reach.conf {p : Par} {V : List Vt} {a b c : PS} (h1 : Reach p V a b) (h2 : Reach p V a c) : Reach p V b c ∨ Reach p V c b := by
  induction h2 with
  | refl => exact .inr h1
  | step h3 h4 ih =>
    rcases ih with ih | ih
    · exact .inl (ih.step h4)
    · rcases ih.head with rfl | ⟨d, hd, hr⟩
      · exact .inl (.step (.refl _) h4)
      · rw [h4] at hd
        cases hd
        exact .inr hr
/-- It ends in one way. -/
theorem Reach.one {p : Par} {V : List Vt} {a b c : PS} (h1 : Reach p V a b) (h2 : Reach p V a c) (hb : pstep p V b = none) (hc : pstep p V c = none) : b = c := by
  rcases h1.conf h2 with h | h
  · rcases h.head with h | ⟨d, hd, _⟩
    · exact h
    · rw [hb] at hd; cases hd
  · rcases h.head with h | ⟨d, hd, _⟩
    · exact h.symm
    · rw [hc] at hd; cases hd
theorem Reach.pi {p : Par} {V : List Vt} {m : Nat} {a b : PS} (h : Reach p V a b) (hi : PI p m a) (hV : bagOk V) (hs : sumV V ≤ p.1) : PI p m b := by
  induction h with
  | refl => exact hi
  | step _ h2 ih => exact (pstep_ok ih hV hs h2).1
/-! ### Topo, plain -/
structure TpI (p : Par) (m : Nat) (t : Tr) (N : List TN) (S : SM) : Prop where
  tm : TM t N m
  par : parE p = 0
  may : ∀ k x, S k = some x → May p x
  no : ∀ k, has t N k = true → S k = none → kidsT t N k = []
  kids : ∀ k x, S k = some x → has t N k = true ∧ x.l.map (·.1) = kidsT t N k
  undone : ∀ x, S t.root = some x → x.dn = false
/-- How it begins. -/
def ps0 (t : Tr) (N : List TN) (S : SM) : PS := ⟨t, sN N, S, t.root, [], [], []⟩
theorem TM.strip {t : Tr} {N : List TN} {m : Nat} (h : TM t N m) : TM t (sN N) m := h.kb (sN_kbs N).symm
theorem TpI.pi {p : Par} {m : Nat} {t : Tr} {N : List TN} {S : SM} (h : TpI p m t N S) : PI p m (ps0 t N S) :=
  ⟨h.tm.strip, h.par, h.may, fun k hk hn => by
    have hk : has t (sN N) k = true := hk
    rw [kb_has (sN_kbs N)] at hk
    show kidsT t (sN N) k = []
    rw [kb_kidsT (sN_kbs N)]
    exact h.no k hk hn, fun k x hk hx => by
    show _ = kidsT t (sN N) k
    rw [kb_kidsT (sN_kbs N)]
    exact (h.kids k x hx).2, has_root⟩
/-- What is left of the instances. -/
noncomputable def failS (p : Par) (t : Tr) (N : List TN) (S : SM) (pol : List (Vec 32)) : SM := fun k => if has t N k = true then (S k).map fun x => if k ∈ pol then x else (failM p x).1 else none
theorem PI.fails {p : Par} {m : Nat} {s : PS} (h : PI p m s) (V : List Vt) (hend : pstep p V s = none) (hr : ∀ x, s.S s.t.root = some x → x.dn = false) {N : List TN} (hN : s.N = sN N) : TpI p m s.t N (failS p s.t s.N s.S s.pol) := by
  have hk : kbs N = kbs s.N := by rw [hN, sN_kbs]
  have key : ∀ k x, failS p s.t s.N s.S s.pol k = some x → has s.t s.N k = true ∧ ∃ y, s.S k = some y ∧ May p x ∧ x.l = y.l ∧ x.dn = y.dn := fun k x hx => by
    unfold failS at hx
    split at hx
    · rename_i hh
      cases hy : s.S k with
      | none => rw [hy] at hx; cases hx
      | some y =>
        rw [hy] at hx
        simp only [Option.map_some, Option.some.injEq] at hx
        have hm := h.may k y hy
        refine ⟨hh, y, rfl, ?_⟩
        split at hx
        · subst hx; exact ⟨hm, rfl, rfl⟩
        · obtain ⟨f1, f2, _, _, f5, _⟩ := fail_may hm
          subst hx
          exact ⟨f1, f2, f5⟩
    · cases hx
  refine ⟨h.tm.kb hk.symm, h.par, fun k x hx => ?_, fun k hh hn => ?_, fun k x hx => ?_, fun x hx => ?_⟩
  · obtain ⟨_, y, _, h2, _⟩ := key k x hx
    exact h2
  · rw [kb_has hk] at hh
    rw [kb_kidsT hk]
    refine h.no k hh ?_
    unfold failS at hn
    rw [if_pos hh] at hn
    simpa using hn
  · obtain ⟨hh, y, hy, _, hl, _⟩ := key k x hx
    rw [kb_has hk, kb_kidsT hk, hl]
    exact ⟨hh, h.kids k y hh hy⟩
  · obtain ⟨_, y, hy, _, _, hd⟩ := key s.t.root x hx
    rw [hd]
    exact hr y hy
/-- Whoever is at the root while its instance is done moves it. -/
def RD (s : PS) : Prop := ∀ x, s.S s.t.root = some x → x.dn = true → s.pos = s.t.root
theorem pstep_rd {p : Par} {V : List Vt} {s s' : PS} (h : RD s) (he : pstep p V s = some s') : RD s' := by
  unfold pstep at he
  cases hx : s.S s.pos with
  | none => rw [hx] at he; cases he
  | some x =>
    rw [hx] at he
    simp only at he
    split at he
    · simp only [Option.some.injEq] at he
      subst he
      exact fun _ _ _ => rfl
    · rename_i hc
      split at he
      · cases he
      · simp only [Option.some.injEq] at he
        subst he
        intro y hy hyd
        generalize (pollM p x (s.best V).1 (s.best V).2).1 = z at *
        have hy : updS s.S s.pos z s.t.root = some y := hy
        show (if s.pos ≠ s.t.root ∨ z.dn = false then (s.best V).1 else s.pos) = s.t.root
        unfold updS at hy
        by_cases hr : s.t.root = s.pos
        · rw [if_pos hr] at hy
          simp only [Option.some.injEq] at hy
          subst hy
          rw [if_neg (by rintro (h | h); · exact h hr.symm
                         · rw [hyd] at h; cases h)]
          exact hr.symm
        · rw [if_neg hr] at hy
          exact absurd (h y hy hyd).symm hr
theorem Reach.rd {p : Par} {V : List Vt} {a b : PS} (h : Reach p V a b) (hi : RD a) : RD b := by
  induction h with
  | refl => exact hi
  | step _ h2 ih => exact pstep_rd ih h2
theorem end_und {p : Par} {V : List Vt} {s : PS} (h : RD s) (he : pstep p V s = none) : ∀ x, s.S s.t.root = some x → x.dn = false := fun x hx => by
  cases hd : x.dn with
  | false => rfl
  | true =>
    exfalso
    have hp := h x hx hd
    unfold pstep at he
    rw [hp, hx] at he
    simp only at he
    rw [if_pos ⟨trivial, hd⟩] at he
    cases he
theorem ps0_rd {p : Par} {m : Nat} {t : Tr} {N : List TN} {S : SM} (h : TpI p m t N S) : RD (ps0 t N S) := fun _ _ _ => rfl
/-- An Add's error. -/
def addTE (t : Tr) (N : List TN) (S : SM) (b : Blk) : Int := if addE t N b ≠ 0 then addE t N b else match S b.p with
  | some x => if 32 ≤ x.l.length then 6 else 0
  | none => 0
def addTS (p : Par) (S : SM) (b : Blk) (k : Vec 32) : SM := updS S b.p (match S b.p with
  | some x => { x with l := x.l ++ [(k, 0)] }
  | none => (newM p k).1)
theorem addTE_ok {t : Tr} {N : List TN} {S : SM} {b : Blk} (h : addTE t N S b = 0) : addE t N b = 0 ∧ ∀ x, S b.p = some x → x.l.length < 32 := by
  unfold addTE at h
  split at h
  · rename_i h1; exact absurd h h1
  · rename_i h1
    refine ⟨by simpa using h1, fun x hx => ?_⟩
    rw [hx] at h
    simp only at h
    split at h
    · cases h
    · omega
theorem kids_snoc {t : Tr} {N : List TN} {x : TN} {k : Vec 32} (hk : has t N k = true) : kidsT t (N ++ [x]) k = kidsT t N k ++ if x.2.1.p = k then [x.1] else [] := by
  unfold kidsT
  rw [if_pos hk, if_pos (has_old hk).1, List.filter_append]
  by_cases hp : x.2.1.p = k <;> simp [hp, nms]
theorem TpI.addx {p : Par} {m : Nat} {t : Tr} {N : List TN} {S : SM} {b : Blk} {vd : Value} {c : Nat} (h : TpI p m t N S) (he : addTE t N S b = 0) (hm : b.h ≤ maxI) :
    TpI p (m + 1) t (N ++ [(b.id, b, vd, c)]) (addTS p S b b.id) := by
  obtain ⟨h1, h2⟩ := addTE_ok he
  obtain ⟨a1, a2, a3, a4, a5, a6⟩ := addE_ok h1
  have hnew : ∀ k, has t (N ++ [(b.id, b, vd, c)]) k = true → has t N k = true ∨ k = b.id := fun k hk => by
    rcases has_mem hk with rfl | hk
    · exact .inl has_root
    · rw [List.map_append, List.mem_append] at hk
      rcases hk with hk | hk
      · exact .inl (mem_has (.inr hk))
      · exact .inr (by simpa using hk)
  have hS : ∀ k y, addTS p S b b.id k = some y → (k = b.p ∧ May p y ∧ y.l.map (·.1) = kidsT t N b.p ++ [b.id] ∧ (k = t.root → y.dn = false)) ∨ (k ≠ b.p ∧ S k = some y) := fun k y hy => by
    unfold addTS updS at hy
    split at hy
    · rename_i hk
      left
      refine ⟨hk, ?_⟩
      simp only [Option.some.injEq] at hy
      cases hx : S b.p with
      | some x =>
        rw [hx] at hy
        simp only at hy
        subst hy
        have hmay := h.may _ x hx
        obtain ⟨_, hkx⟩ := h.kids _ x hx
        refine ⟨?_, by show (x.l ++ [(b.id, 0)]).map (fun c : Cho => c.1) = _; rw [List.map_append, hkx]; rfl, fun hr => h.undone x (by rw [← hr, hk]; exact hx)⟩
        have hno : ¬ 0 ≤ plc x.l b.id := fun hp => by
          obtain ⟨i, d, _, hd, hd1, _⟩ := plc_pos hp
          have : b.id ∈ x.l.map (·.1) := by rw [← hd1]; exact List.mem_map_of_mem (List.mem_of_getElem? hd)
          rw [hkx, kid_iff h.tm.w h.tm.nd, a2] at this
          cases this.2.1
        rcases add_may (id := b.id) hmay with hq | ⟨_, hq⟩
        · exfalso
          apply hq
          have := h2 x hx
          rw [addM, if_neg (by simpa using may_iff.2 hmay), if_neg hno, if_neg (by omega)]
        · exact hq
      | none =>
        rw [hx] at hy
        simp only at hy
        subst hy
        obtain ⟨n1, _, n3, _⟩ := new_may (id := b.id) h.par
        refine ⟨n1, ?_, fun _ => n3⟩
        rw [h.no b.p a3 hx]
        unfold newM
        rw [if_neg (by simpa using h.par)]
        rfl
    · rename_i hk
      exact .inr ⟨hk, hy⟩
  have hkid : ∀ k, has t N k = true → k ≠ b.p → kidsT t (N ++ [(b.id, b, vd, c)]) k = kidsT t N k := fun k hk hne => by
    rw [kids_snoc hk, if_neg (Ne.symm hne), List.append_nil]
  refine ⟨h.tm.add h1 hm, h.par, fun k y hy => ?_, fun k hk hn => ?_, fun k y hy => ?_, fun y hy => ?_⟩
  · rcases hS k y hy with ⟨_, hy, _⟩ | ⟨_, hy⟩
    · exact hy
    · exact h.may k y hy
  · have hkp : k ≠ b.p ∧ S k = none := by
      unfold addTS updS at hn
      split at hn
      · cases hn
      · rename_i hq; exact ⟨hq, hn⟩
    rcases hnew k hk with hk' | rfl
    · rw [hkid k hk' hkp.1]
      exact h.no k hk' hkp.2
    · unfold kidsT
      rw [if_pos hk]
      have : (N ++ [(b.id, b, vd, c)]).filter (fun x => decide (x.2.1.p = b.id)) = [] := by
        rw [List.filter_eq_nil_iff]
        intro x hx
        simp only [decide_eq_true_eq]
        intro hp
        rcases List.mem_append.1 hx with hx | hx
        · have hx1 : nodeOf x.1 N = some x := node_mem h.tm.nd hx
          have := (h.tm.w.up x.1 x.2.1 (by unfold blkOf; rw [hx1]; rfl)).1
          rw [hp, a2] at this
          cases this
        · obtain rfl : x = (b.id, b, vd, c) := by simpa using hx
          have hp : b.p = b.id := hp
          rw [hp, a2] at a3
          cases a3
      rw [this]
      rfl
  · rcases hS k y hy with ⟨rfl, _, hl, _⟩ | ⟨hne, hy⟩
    · exact ⟨(has_old a3).1, by rw [kids_snoc a3, if_pos rfl]; exact hl⟩
    · obtain ⟨q1, q2⟩ := h.kids k y hy
      exact ⟨(has_old q1).1, by rw [hkid k q1 hne]; exact q2⟩
  · rcases hS t.root y hy with ⟨_, _, _, hd⟩ | ⟨_, hy⟩
    · exact hd rfl
    · exact h.undone y hy
/-- What a name prefers, step by step. -/
inductive PrefTo (S : SM) : Vec 32 → Vec 32 → Prop
  | refl (a : Vec 32) : PrefTo S a a
  | step {a b : Vec 32} {x : Sn} : PrefTo S a b → S b = some x → PrefTo S a (prf x)
def IsPref (t : Tr) (S : SM) (k : Vec 32) : Prop := PrefTo S t.root k ∧ S k = none
theorem PrefTo.head {S : SM} {a b : Vec 32} (h : PrefTo S a b) : a = b ∨ ∃ x, S a = some x ∧ PrefTo S (prf x) b := by
  induction h with
  | refl => exact .inl rfl
  | step h1 h2 ih =>
    rcases ih with rfl | ⟨d, hd, hr⟩
    · exact .inr ⟨_, h2, .refl _⟩
    · exact .inr ⟨d, hd, hr.step h2⟩
theorem PrefTo.conf {S : SM} {a b c : Vec 32} (h1 : PrefTo S a b) (h2 : PrefTo S a c) : PrefTo S b c ∨ PrefTo S c b := by
  induction h2 with
  | refl => exact .inr h1
  | step h3 h4 ih =>
    rcases ih with ih | ih
    · exact .inl (ih.step h4)
    · rcases ih.head with rfl | ⟨d, hd, hr⟩
      · exact .inl (.step (.refl _) h4)
      · rw [h4] at hd
        cases hd
        exact .inr hr
theorem IsPref.one {t : Tr} {S : SM} {b c : Vec 32} (h1 : IsPref t S b) (h2 : IsPref t S c) : b = c := by
  rcases h1.1.conf h2.1 with h | h
  · rcases h.head with h | ⟨d, hd, _⟩
    · exact h
    · rw [h1.2] at hd; cases hd
  · rcases h.head with h | ⟨d, hd, _⟩
    · exact h.symm
    · rw [h2.2] at hd; cases hd
theorem TpI.pref_step {p : Par} {m : Nat} {t : Tr} {N : List TN} {S : SM} {k : Vec 32} {x : Sn} (h : TpI p m t N S) (hx : S k = some x) : has t N (prf x) = true ∧ prf x ≠ t.root ∧ upOf (prf x) N = k ∧ hgt t N (prf x) = hgt t N k + 1 := by
  obtain ⟨h1, h2⟩ := h.kids k x hx
  have h3 := may_prf (h.may k x hx)
  rw [h2] at h3
  have h4 := kid_hgt h.tm.w h.tm.nd h3
  obtain ⟨_, q2, q3, q4⟩ := (kid_iff h.tm.w h.tm.nd).1 h3
  exact ⟨q2, q3, q4, h4⟩
theorem TpI.pref_has {p : Par} {m : Nat} {t : Tr} {N : List TN} {S : SM} {k : Vec 32} (h : TpI p m t N S) (hk : PrefTo S t.root k) : has t N k = true := by
  rcases hk with _ | ⟨h1, h2⟩
  · exact has_root
  · exact (h.pref_step h2).1
end Go.Fx
set_option linter.unusedVariables false
set_option linter.unusedSimpArgs false
namespace Go.Fx
theorem PrefTo.mono {S S' : SM} {a b : Vec 32} (hS : ∀ k x, PrefTo S a k → S k = some x → ∃ y, S' k = some y ∧ prf y = prf x) (h : PrefTo S a b) : PrefTo S' a b := by
  induction h with
  | refl => exact .refl _
  | step h1 h2 ih =>
    obtain ⟨y, hy, he⟩ := hS _ _ h1 h2
    rw [← he]
    exact ih.step hy
section
variable {p : Par} {V : List Vt} {m : Nat} {t : Tr} {N : List TN} {S : SM}
theorem fail_prf {k : Vec 32} {x : Sn} {pol : List (Vec 32)} (hm : ∀ k x, S k = some x → May p x) (hk : has t N k = true) (hx : S k = some x) : ∃ y, failS p t N S pol k = some y ∧ prf y = prf x := by
  unfold failS
  rw [if_pos hk, hx]
  refine ⟨_, rfl, ?_⟩
  split
  · rfl
  · exact (fail_may (hm k x hx)).2.2.1
theorem TpI.pref_under (h : TpI p m t N S) {a b : Vec 32} (ha : has t N a = true) (hb : PrefTo S a b) : under t N b a = true := by
  induction hb with
  | refl => exact under_self h.tm.w ha
  | step h1 h2 ih =>
    obtain ⟨q1, q2, q3, _⟩ := h.pref_step h2
    rw [under_step h.tm.w q1 q2, q3, ih]
    simp
theorem TpI.pref_up (h : TpI p m t N S) {b q : Vec 32} (hb : PrefTo S t.root b) : under t N b q = true → PrefTo S t.root q := by
  induction hb with
  | refl =>
    intro hu
    rw [under_root] at hu
    have : q = t.root := by simpa using hu
    rw [this]
    exact .refl _
  | step h1 h2 ih =>
    intro hu
    obtain ⟨q1, q2, q3, _⟩ := h.pref_step h2
    rw [under_step h.tm.w q1 q2, q3] at hu
    simp only [Bool.or_eq_true, decide_eq_true_eq] at hu
    rcases hu with hu | hu
    · rw [← hu]; exact h1.step h2
    · exact ih hu
theorem TpI.pref_mid (h : TpI p m t N S) {b q : Vec 32} (hb : PrefTo S t.root b) (hu : under t N b q = true) : PrefTo S q b := by
  rcases (h.pref_up hb hu).conf hb with hq | hq
  · exact hq
  · have h2 := h.pref_under (under_has hu).1 hq
    rcases under_hgt h.tm.w hu with he | he
    · rw [he]; exact .refl _
    · rcases under_hgt h.tm.w h2 with he2 | he2
      · rw [he2]; exact .refl _
      · omega
/-- What is preferred: what leads to the preference. -/
theorem TpI.preferred (h : TpI p m t N S) {k b : Vec 32} (hk : IsPref t S k) : under t N k b = true ↔ PrefTo S t.root b := by
  constructor
  · exact h.pref_up hk.1
  · intro hb
    rcases hb.conf hk.1 with hq | hq
    · exact h.pref_under (h.pref_has hb) hq
    · rcases hq.head with he | ⟨x, hx, _⟩
      · rw [he]; exact under_self h.tm.w (h.pref_has hb)
      · rw [hk.2] at hx; cases hx
theorem add_prf {b : Blk} {k k' : Vec 32} {x : Sn} (hx : S k' = some x) : ∃ y, addTS p S b k k' = some y ∧ prf y = prf x := by
  unfold addTS updS
  split
  · rename_i he
    rw [← he, hx]
    exact ⟨_, rfl, rfl⟩
  · exact ⟨x, hx, rfl⟩
end
/-- Two names ahead of a third one that stand at one height are one. -/
theorem under_one {t : Tr} {N : List TN} (hw : TrW t N) {b c d : Vec 32} (hc : under t N b c = true) (hd : under t N b d = true) (he : hgt t N c = hgt t N d) : c = d := by
  have hb := (under_has hc).1
  revert hc hd
  refine path_ind hw (C := fun b => under t N b c = true → under t N b d = true → c = d) (fun hc hd => ?_) (fun b hb hr ih hc hd => ?_) b hb
  · rw [under_root] at hc hd
    have h1 : c = t.root := by simpa using hc
    have h2 : d = t.root := by simpa using hd
    rw [h1, h2]
  · have hc2 := under_hgt hw hc
    have hd2 := under_hgt hw hd
    rw [under_step hw hb hr] at hc hd
    simp only [Bool.or_eq_true, decide_eq_true_eq] at hc hd
    rcases hc with hc | hc
    · rcases hd2 with hd2 | hd2
      · rw [← hc, hd2]
      · rw [hc] at hd2; omega
    · rcases hd with hd | hd
      · rcases hc2 with hc2 | hc2
        · rw [← hd, hc2]
        · rw [hd] at hc2; omega
      · exact ih hc hd
/-! ### A preferred block under a poll -/
def Cond (p : Par) (V : List Vt) (t : Tr) (N : List TN) (b : Vec 32) : Prop := ∀ q k, under t N b q = true → q ≠ b → k ∈ kidsT t N q → under t N b k = false → cntT t N V k < p.2.1
structure StI (p : Par) (V : List Vt) (b : Vec 32) (s : PS) : Prop where
  pref : PrefTo s.S s.t.root b
  nr : b ≠ s.t.root
  pos : under s.t s.N b s.pos = true ∨ (under s.t s.N s.pos b = true)
  cond : Cond p V s.t s.N b
/-- A poll under way is as Topo is, but for what is gone. -/
theorem PI.pref_step {p : Par} {m : Nat} {s : PS} {k : Vec 32} {x : Sn} (h : PI p m s) (hk : has s.t s.N k = true) (hx : s.S k = some x) : has s.t s.N (prf x) = true ∧ prf x ≠ s.t.root ∧ upOf (prf x) s.N = k ∧ hgt s.t s.N (prf x) = hgt s.t s.N k + 1 := by
  have h3 := may_prf (h.may k x hx)
  rw [h.kids k x hk hx] at h3
  have h4 := kid_hgt h.tm.w h.tm.nd h3
  obtain ⟨_, q2, q3, q4⟩ := (kid_iff h.tm.w h.tm.nd).1 h3
  exact ⟨q2, q3, q4, h4⟩
theorem PI.pref_has {p : Par} {m : Nat} {s : PS} {a b : Vec 32} (h : PI p m s) (ha : has s.t s.N a = true) (hb : PrefTo s.S a b) : has s.t s.N b = true ∧ under s.t s.N b a = true := by
  induction hb with
  | refl => exact ⟨ha, under_self h.tm.w ha⟩
  | step h1 h2 ih =>
    obtain ⟨q1, q2, q3, _⟩ := h.pref_step ih.1 h2
    exact ⟨q1, by rw [under_step h.tm.w q1 q2, q3, ih.2]; simp⟩
theorem PI.pref_up {p : Par} {m : Nat} {s : PS} {b q : Vec 32} (h : PI p m s) (hb : PrefTo s.S s.t.root b) : under s.t s.N b q = true → PrefTo s.S s.t.root q := by
  induction hb with
  | refl =>
    intro hu
    rw [under_root] at hu
    have : q = s.t.root := by simpa using hu
    rw [this]
    exact .refl _
  | step h1 h2 ih =>
    intro hu
    obtain ⟨q1, q2, q3, _⟩ := h.pref_step (h.pref_has has_root h1).1 h2
    rw [under_step h.tm.w q1 q2, q3] at hu
    simp only [Bool.or_eq_true, decide_eq_true_eq] at hu
    rcases hu with hu | hu
    · rw [← hu]; exact h1.step h2
    · exact ih hu
theorem PI.pref_mid {p : Par} {m : Nat} {s : PS} {b q : Vec 32} (h : PI p m s) (hb : PrefTo s.S s.t.root b) (hu : under s.t s.N b q = true) : PrefTo s.S q b := by
  rcases (h.pref_up hb hu).conf hb with hq | hq
  · exact hq
  · have h2 := (h.pref_has (under_has hu).1 hq).2
    rcases under_hgt h.tm.w hu with he | he
    · rw [he]; exact .refl _
    · rcases under_hgt h.tm.w h2 with he2 | he2
      · rw [he2]; exact .refl _
      · omega
theorem stay_step {p : Par} {V : List Vt} {m : Nat} {b : Vec 32} {s s' : PS} (h : PI p m s) (hV : bagOk V) (hs : sumV V ≤ p.1) (hi : StI p V b s) (he : pstep p V s = some s') : b ∈ s'.acc ∨ StI p V b s' := by
  have hw := h.tm.w
  have hbh := (h.pref_has has_root hi.pref).1
  unfold pstep at he
  cases hx : s.S s.pos with
  | none => rw [hx] at he; cases he
  | some x =>
    rw [hx] at he
    simp only at he
    split at he
    · rename_i hc
      obtain ⟨hr, hd⟩ := hc
      obtain ⟨hk, hkb, hkp⟩ := h.root_x hr hx
      simp only [Option.some.injEq] at he
      subst he
      by_cases hbk : b = prf x
      · left
        show b ∈ s.acc ++ [prf x]
        simp [hbk]
      · right
        have hp2 : PrefTo s.S (prf x) b := by
          rcases hi.pref.head with h1 | ⟨y, hy, h1⟩
          · exact absurd h1.symm hi.nr
          · rw [← hr, hx] at hy
            cases hy
            exact h1
        have hub := (h.pref_has (blk_has hkb) hp2).2
        have hun : ∀ {a c}, under s.t s.N c (prf x) = true → under (mvT s.t s.N (prf x)) (mvN s.t s.N (prf x)) a c = under s.t s.N a c := fun hc => mv_under h.tm hk hc
        refine ⟨hp2, hbk, .inl ?_, fun q k hq hqb hkk hbk2 => ?_⟩
        · show under (mvT s.t s.N (prf x)) (mvN s.t s.N (prf x)) b (prf x) = true
          rw [hun (under_self hw (blk_has hkb))]
          exact hub
        · have hq : under (mvT s.t s.N (prf x)) (mvN s.t s.N (prf x)) b q = true := hq
          have hkk : k ∈ kidsT (mvT s.t s.N (prf x)) (mvN s.t s.N (prf x)) q := hkk
          have hbk2 : under (mvT s.t s.N (prf x)) (mvN s.t s.N (prf x)) b k = false := hbk2
          show cntT (mvT s.t s.N (prf x)) (mvN s.t s.N (prf x)) V k < p.2.1
          have hqu : under s.t s.N q (prf x) = true := by rw [← mv_has_iff hw hk]; exact (under_has hq).2
          rw [hun hqu] at hq
          rw [mv_kids hw h.tm.nd hk hqu] at hkk
          have hku : under s.t s.N k (prf x) = true := by
            obtain ⟨_, k2, k3, k4⟩ := (kid_iff hw h.tm.nd).1 hkk
            rw [under_step hw k2 k3, k4, hqu]
            simp
          rw [hun hku] at hbk2
          rw [mv_cnt h.tm hk V hku]
          exact hi.cond q k hq hqb hkk hbk2
    · rename_i hc
      split at he
      · cases he
      · rename_i hb
        simp only [Option.some.injEq] at he
        obtain ⟨h1, h2, h3, h4, h5⟩ := h.best_in hV hs hx hb
        obtain ⟨e1, e2, e3, e4, e5⟩ := poll_may (h.may _ _ hx) h5 h3 h4
        obtain ⟨k1, k2, k3, k4⟩ := (kid_iff hw h.tm.nd).1 h1
        have hkh := kid_hgt hw h.tm.nd h1
        right
        by_cases hlow : under s.t s.N s.pos b = true
        · -- at the block, or below
          generalize hy : (pollM p x (s.best V).1 (s.best V).2).1 = y at *
          generalize hkk : (s.best V).1 = kk at *
          subst he
          have hpr : s.pos ≠ s.t.root := fun hr => by
            rw [hr, under_root] at hlow
            exact hi.nr (by simpa using hlow)
          refine ⟨?_, hi.nr, .inr ?_, hi.cond⟩
          · have key : ∀ c, PrefTo s.S s.t.root c → hgt s.t s.N c ≤ hgt s.t s.N b → PrefTo (updS s.S s.pos y) s.t.root c := fun c hc => by
              induction hc with
              | refl => exact fun _ => .refl _
              | step q1 q2 ih =>
                intro hle
                have q3 := h.pref_step (h.pref_has has_root q1).1 q2
                refine (ih (by omega)).step ?_
                unfold updS
                rw [if_neg]
                · exact q2
                · intro hcp
                  rw [hcp] at q3
                  rcases under_hgt hw hlow with hq | hq
                  · rw [hq] at q3; omega
                  · omega
            exact key b hi.pref (Nat.le_refl _)
          · show under s.t s.N (if s.pos ≠ s.t.root ∨ y.dn = false then kk else s.pos) b = true
            rw [if_pos (.inl hpr), under_step hw k2 k3, k4, hlow]
            simp
        · have hup : under s.t s.N b s.pos = true := hi.pos.resolve_right hlow
          have hne : s.pos ≠ b := fun he => hlow (by rw [he]; exact under_self hw hbh)
          have hmid := h.pref_mid hi.pref hup
          obtain ⟨z, hz, hzb⟩ := hmid.head.resolve_left hne
          rw [hx] at hz
          cases hz
          obtain ⟨z1, z2, z3, z4⟩ := h.pref_step h.pos hx
          have hbz := (h.pref_has z1 hzb).2
          have hbc : under s.t s.N b (s.best V).1 = true := by
            cases hq : under s.t s.N b (s.best V).1 with
            | true => rfl
            | false =>
              exfalso
              have := hi.cond s.pos (s.best V).1 hup hne h1 hq
              omega
          have hcz : (s.best V).1 = prf x := under_one hw hbc hbz (by omega)
          have hyp := e5 hcz
          generalize hy : (pollM p x (s.best V).1 (s.best V).2).1 = y at *
          generalize hkk : (s.best V).1 = kk at *
          subst he
          refine ⟨?_, hi.nr, .inl ?_, hi.cond⟩
          · refine PrefTo.mono (S := s.S) (fun k u _ hu => ?_) hi.pref
            show ∃ y', updS s.S s.pos y k = some y' ∧ prf y' = prf u
            unfold updS
            split
            · rename_i hk
              rw [hk, hx] at hu
              cases hu
              exact ⟨y, rfl, hyp⟩
            · exact ⟨u, hu, rfl⟩
          · show under s.t s.N b (if s.pos ≠ s.t.root ∨ y.dn = false then kk else s.pos) = true
            split
            · exact hbc
            · exact hup
theorem pstep_acc {p : Par} {V : List Vt} {s s' : PS} (he : pstep p V s = some s') : ∀ k ∈ s.acc, k ∈ s'.acc := fun k hk => by
  unfold pstep at he
  cases hx : s.S s.pos with
  | none => rw [hx] at he; cases he
  | some x =>
    rw [hx] at he
    simp only at he
    split at he
    · simp only [Option.some.injEq] at he
      subst he
      exact List.mem_append_left _ hk
    · split at he
      · cases he
      · simp only [Option.some.injEq] at he
        subst he
        exact hk
theorem Reach.stay {p : Par} {V : List Vt} {m : Nat} {b : Vec 32} {a s : PS} (h : Reach p V a s) (hp : PI p m a) (hV : bagOk V) (hs : sumV V ≤ p.1) (hi : StI p V b a) : b ∈ s.acc ∨ StI p V b s := by
  induction h with
  | refl => exact .inr hi
  | step h1 h2 ih =>
    rcases ih with ih | ih
    · exact .inl (pstep_acc h2 _ ih)
    · exact stay_step (h1.pi hp hV hs) hV hs ih h2
end Go.Fx
set_option linter.unusedVariables false
set_option linter.unusedSimpArgs false
namespace Go.Fx
section
variable {P : Program} {T E n : Nat} {w0 w : World} {As : List Asn}
theorem bits_bv : ∀ (l : List UInt8) (m : Nat), ((bvs l).zip (bvs l)).all (fun x => Instr.sameBits (m + 1) x.1 x.2) = true
  | [], m => rfl
  | b :: l, m => by
    have ih := bits_bv l m
    unfold bvs at ih ⊢
    rw [List.map_cons, List.zip_cons_cons, List.all_cons, ih]
    simp [Instr.sameBits, bv]
theorem same_key (k : Vec n) (m : Nat) : Instr.sameBits (m + 2) (kv k) (kv k) = true := by
  show (((bvs k.1).toArray.size == (bvs k.1).toArray.size) && ((bvs k.1).toArray.toList.zip (bvs k.1).toArray.toList).all fun x => Instr.sameBits (m + 1) x.1 x.2) = true
  rw [List.toList_toArray, bits_bv]
  simp
theorem run_stays (k : Vec n) : (Instr.keyThatStays (kv k) (kv k)).run P w = .ok (kv k) w := by
  unfold Instr.keyThatStays
  rw [if_pos (same_key k 9998)]
  rfl
/-- An entry with another value. -/
def updE (k : Vec n) (v : Value) : List (Ent n) → List (Ent n)
  | [] => []
  | x :: l => if k = x.1 then (k, v, x.2.2) :: l else x :: updE k v l
theorem updE_born (k : Vec n) (v : Value) : ∀ l : List (Ent n), (updE k v l).map (·.2.2) = l.map (·.2.2)
  | [] => rfl
  | x :: l => by
    unfold updE
    split
    · rfl
    · rw [List.map_cons, updE_born k v l, List.map_cons]
theorem updE_get (k : Vec n) (v : Value) (k' : Vec n) : ∀ l : List (Ent n), (getE k l).isSome = true → getE k' (updE k v l) = if k' = k then some v else getE k' l
  | [], h => by simp [getE] at h
  | x :: l, h => by
    unfold updE
    by_cases hk : k = x.1
    · rw [if_pos hk]
      by_cases hk' : k' = k
      · unfold getE; rw [List.find?_cons_of_pos (by simpa using hk'), if_pos hk']; rfl
      · unfold getE
        rw [if_neg hk', List.find?_cons_of_neg (by simpa using hk'), List.find?_cons_of_neg (by rw [← hk]; simpa using hk')]
    · have h1 : (getE k l).isSome = true := by
        unfold getE at h ⊢
        rwa [List.find?_cons_of_neg (by simpa using hk)] at h
      have ih := updE_get k v k' l h1
      rw [if_neg hk]
      unfold getE at ih ⊢
      by_cases hx : k' = x.1
      · rw [List.find?_cons_of_pos (by simpa using hx), List.find?_cons_of_pos (by simpa using hx), if_neg (by rw [hx]; exact fun he => hk he.symm)]
      · rw [List.find?_cons_of_neg (by simpa using hx), List.find?_cons_of_neg (by simpa using hx)]
        exact ih
theorem findE_ge (k : Vec n) : ∀ (l : List (Ent n)) (i j : Nat) (y : Value), findE k l i = some (j, y) → i ≤ j
  | [], i, j, y, h => by simp [findE] at h
  | x :: l, i, j, y, h => by
    unfold findE at h
    split at h
    · simp only [Option.some.injEq, Prod.mk.injEq] at h; omega
    · have := findE_ge k l (i + 1) j y h; omega
theorem findE_key (k : Vec n) : ∀ (l : List (Ent n)) (i j : Nat) (y : Value), findE k l i = some (j, y) → ∃ x, l[j - i]? = some x ∧ x.1 = k ∧ x.2.1 = y
  | [], i, j, y, h => by simp [findE] at h
  | x :: l, i, j, y, h => by
    unfold findE at h
    split at h
    · rename_i hk
      simp only [Option.some.injEq, Prod.mk.injEq] at h
      refine ⟨x, ?_, hk.symm, h.2⟩
      rw [show j - i = 0 by omega]; rfl
    · have hg := findE_ge k l (i + 1) j y h
      obtain ⟨z, hz, h2⟩ := findE_key k l (i + 1) j y h
      refine ⟨z, ?_, h2⟩
      rw [show j - i = (j - (i + 1)) + 1 by omega]
      exact hz
theorem updE_mod (k : Vec n) (v : Value) : ∀ (l : List (Ent n)) (i j : Nat) (y : Value), findE k l i = some (j, y) → (l.map entM).modify (j - i) (fun e => { e with key := kv k, val := v }) = (updE k v l).map entM
  | [], i, j, y, h => by simp [findE] at h
  | x :: l, i, j, y, h => by
    unfold findE at h
    unfold updE
    split at h
    · rename_i hk
      simp only [Option.some.injEq, Prod.mk.injEq] at h
      rw [if_pos hk, show j - i = 0 by omega]
      rfl
    · rename_i hk
      have hg := findE_ge k l (i + 1) j y h
      have ih := updE_mod k v l (i + 1) j y h
      rw [if_neg hk, show j - i = (j - (i + 1)) + 1 by omega, List.map_cons, List.modify_succ_cons, ih, List.map_cons]
structure MOk (l : List (Ent n)) (c : Nat) : Prop where
  nd : (l.map (·.2.2)).Nodup
  lt : ∀ x ∈ l, x.2.2 < c
theorem MOk.nil : MOk ([] : List (Ent n)) 0 := ⟨by simp, fun x hx => by cases hx⟩
theorem MOk.push {l : List (Ent n)} {c : Nat} (h : MOk l c) (k : Vec n) (v : Value) : MOk (l ++ [(k, v, c)]) (c + 1) := by
  refine ⟨?_, fun x hx => ?_⟩
  · rw [List.map_append, List.nodup_append]
    refine ⟨h.nd, by simp, fun x hx y hy he => ?_⟩
    simp only [List.map_cons, List.map_nil, List.mem_singleton] at hy
    subst hy
    obtain ⟨z, hz, rfl⟩ := List.mem_map.1 hx
    have := h.lt z hz
    omega
  · rcases List.mem_append.1 hx with hx | hx
    · have := h.lt x hx; omega
    · obtain rfl : x = (k, v, c) := by simpa using hx
      show c < c + 1
      omega
theorem MOk.upd {l : List (Ent n)} {c : Nat} (h : MOk l c) (k : Vec n) (v : Value) : MOk (updE k v l) c := by
  refine ⟨by rw [updE_born]; exact h.nd, fun x hx => ?_⟩
  have h1 : x.2.2 ∈ (updE k v l).map (·.2.2) := List.mem_map_of_mem hx
  rw [updE_born] at h1
  obtain ⟨z, hz, he⟩ := List.mem_map.1 h1
  have := h.lt z hz
  omega
theorem push_get (k : Vec n) (v : Value) (c : Nat) {l : List (Ent n)} (hn : getE k l = none) (k' : Vec n) : getE k' (l ++ [(k, v, c)]) = if k' = k then some v else getE k' l := by
  unfold getE at hn ⊢
  rw [Option.map_eq_none_iff] at hn
  rw [List.find?_append]
  by_cases hk : k' = k
  · subst hk
    rw [hn, if_pos rfl]
    simp
  · rw [if_neg hk, List.find?_cons_of_neg (by simpa using hk)]
    simp
/-- A map, by what each key has. -/
def MpR (h : Heap) (g : Nat) (f : Vec n → Option Value) : Prop := ∃ l c, MOk l c ∧ (∀ k, getE k l = f k) ∧ h[g]? = some (.map (ents l) c)
def mpF (g : Nat) (f : Vec n → Option Value) : Asn := Asn.ex fun l => Asn.ex fun c => (Asn.pr (MOk l c ∧ ∀ k, getE k l = f k)).star (mp g l c)
def updF (f : Vec n → Option Value) (k : Vec n) (v : Value) : Vec n → Option Value := fun k' => if k' = k then some v else f k'
theorem mpF_open {g : Nat} {f : Vec n → Option Value} (h : Sep w0 w (mpF g f :: As)) : ∃ l c, (MOk l c ∧ ∀ k, getE k l = f k) ∧ Sep w0 w (mp g l c :: As) := by
  unfold mpF at h
  rw [Sep_ex] at h
  obtain ⟨l, h⟩ := h
  rw [Sep_ex] at h
  obtain ⟨c, h⟩ := h
  rw [Sep_star, Sep_pr] at h
  exact ⟨l, c, h.1, h.2⟩
theorem mpF_close {g c : Nat} {f : Vec n → Option Value} {l : List (Ent n)} (hl : MOk l c ∧ ∀ k, getE k l = f k) (h : Sep w0 w (mp g l c :: As)) : Sep w0 w (mpF g f :: As) := by
  unfold mpF
  rw [Sep_ex]
  refine ⟨l, ?_⟩
  rw [Sep_ex]
  exact ⟨c, by rw [Sep_star, Sep_pr]; exact ⟨hl, h⟩⟩
theorem mpF_rd {g : Nat} {f : Vec n → Option Value} (h : Sep w0 w (mpF g f :: As)) : MpR w.heap g f := by
  obtain ⟨l, c, hl, hs⟩ := mpF_open h
  exact ⟨l, c, hl.1, hl.2, hs.map⟩
theorem makeF_s {t : TypeId} {K : Value → World → Prop} (hs : Sep w0 w As) (h : ∀ g w', Sep w0 w' (mpF (n := n) g (fun _ => none) :: As) → K (.map (some g)) w') : efP P (Instr.makeMap t none) w K :=
  makeMap_s (n := n) hs fun g w' hs' => h g w' (mpF_close ⟨MOk.nil, fun _ => rfl⟩ hs')
theorem lookF1 {M V g : Nat} {f : Vec n → Option Value} {z : Value} (hM : P.underlying M = some (.map T V)) (hT : KeyT P T E n) (hz : ∀ w : World, (zeroValue V).run P w = .ok z w) (hg : MpR w.heap g f) (k : Vec n) (K : Value → Prop) :
    rdP P (Instr.lookup M (.map (some g)) (kv k) false) w K = K ((f k).getD z) := by
  obtain ⟨l, c, _, hf, hm⟩ := hg
  rw [lookup_map1 hM hT (hz w) hm k, hf]
/-- A key gets a value. -/
theorem putF_s {M V g : Nat} {f : Vec n → Option Value} {k : Vec n} {v : Value} {K : World → Prop} (hM : P.underlying M = some (.map T V)) (hT : KeyT P T E n) (hs : Sep w0 w (mpF g f :: As))
    (h : ∀ w', Sep w0 w' (mpF g (updF f k v) :: As) → K w') : efU P (Instr.mapUpdate M (.map (some g)) (kv k) v) w K := by
  obtain ⟨l, c, ⟨hok, hf⟩, hs⟩ := mpF_open hs
  cases hk : getE k l with
  | none => exact putNew_s hM hT hs hk fun w' hs' => h w' (mpF_close ⟨hok.push k v, fun k' => by rw [push_get k v c hk]; unfold updF; rw [hf]⟩ hs')
  | some y =>
    have hg := hs.map
    obtain ⟨F, ⟨hb, rfl⟩, hu⟩ := hs.upd
    have hfe := findE_get k l 0
    rw [hk] at hfe
    obtain ⟨⟨i, y'⟩, hfi, _⟩ := Option.map_eq_some_iff.1 hfe
    obtain ⟨x, hx, hxk, _⟩ := findE_key k l 0 i y' hfi
    have hm := updE_mod k v l 0 i y' hfi
    rw [Nat.sub_zero] at hx hm
    have e2 : (ents l).modify i (fun e => { e with key := kv k, val := v }) = ents (updE k v l) := by
      apply Array.ext'
      unfold ents
      rw [Array.toList_modify]
      exact hm
    refine ⟨setBlk w g (.map (ents (updE k v l)) c), ?_, h _ (mpF_close ⟨hok.upd k v, fun k' => by rw [updE_get k v k' l (by rw [hk]; rfl)]; unfold updF; rw [hf]⟩ (hu _ [g] (mp g _ _) ⟨setBlk_self w g _ _ hb, rfl⟩ (fr_setBlk w g _) (Grew.refl _ _)))⟩
    have e1 : (((ents l)[i]?).map (·.key)).getD (kv k) = kv k := by
      unfold ents
      rw [List.getElem?_toArray, List.getElem?_map, hx]
      show kv x.1 = kv k
      rw [hxk]
    unfold Instr.mapUpdate
    simp only [Sem.run_bind, run_underlying hM, Result.andThen_ok, get_map hg, run_key hT k _ 9998, run_findKey hT k l, hfi, e1, run_stays]
    rw [← e2]
    exact set_map _ hg
end
end Go.Fx
set_option linter.unusedVariables false
set_option linter.unusedSimpArgs false
namespace Go.Fx
section
variable {P : Program} {T E n : Nat} {w0 w : World} {As : List Asn}
theorem updE_keys (k : Vec n) (v : Value) : ∀ l : List (Ent n), (updE k v l).map (·.1) = l.map (·.1)
  | [] => rfl
  | x :: l => by
    unfold updE
    split
    · rename_i h
      rw [List.map_cons, List.map_cons, h]
    · rw [List.map_cons, updE_keys k v l, List.map_cons]
structure KOk (l : List (Ent n)) (c : Nat) (f : Vec n → Option Value) : Prop where
  ok : MOk l c
  nk : (l.map (·.1)).Nodup
  get : ∀ k, getE k l = f k
def mpK (g : Nat) (f : Vec n → Option Value) : Asn := Asn.ex fun l => Asn.ex fun c => (Asn.pr (KOk l c f)).star (mp g l c)
theorem mpK_open {g : Nat} {f : Vec n → Option Value} (h : Sep w0 w (mpK g f :: As)) : ∃ l c, KOk l c f ∧ Sep w0 w (mp g l c :: As) := by
  unfold mpK at h
  rw [Sep_ex] at h
  obtain ⟨l, h⟩ := h
  rw [Sep_ex] at h
  obtain ⟨c, h⟩ := h
  rw [Sep_star, Sep_pr] at h
  exact ⟨l, c, h.1, h.2⟩
theorem mpK_close {g c : Nat} {f : Vec n → Option Value} {l : List (Ent n)} (hl : KOk l c f) (h : Sep w0 w (mp g l c :: As)) : Sep w0 w (mpK g f :: As) := by
  unfold mpK
  rw [Sep_ex]
  refine ⟨l, ?_⟩
  rw [Sep_ex]
  exact ⟨c, by rw [Sep_star, Sep_pr]; exact ⟨hl, h⟩⟩
/-- A map that may be gone through, as it is read. -/
def MkR (h : Heap) (g : Nat) (f : Vec n → Option Value) : Prop := ∃ l c, KOk l c f ∧ h[g]? = some (.map (ents l) c)
theorem mpK_mk {g : Nat} {f : Vec n → Option Value} (h : Sep w0 w (mpK g f :: As)) : MkR w.heap g f := by
  obtain ⟨l, c, hl, hs⟩ := mpK_open h
  exact ⟨l, c, hl, hs.map⟩
theorem MkR.mp {h : Heap} {g : Nat} {f : Vec n → Option Value} (hr : MkR h g f) : MpR h g f := by
  obtain ⟨l, c, hl, hs⟩ := hr
  exact ⟨l, c, hl.ok, hl.get, hs⟩
theorem MkR.fr {w w' : World} {g : Nat} {f : Vec n → Option Value} (hr : MkR w.heap g f) (hf : Fr [] w w') : MkR w'.heap g f := by
  obtain ⟨l, c, hl, hs⟩ := hr
  exact ⟨l, c, hl, hf.blk hs (by simp)⟩
theorem MpR.fr {w w' : World} {g : Nat} {f : Vec n → Option Value} (hr : MpR w.heap g f) (hf : Fr [] w w') : MpR w'.heap g f := by
  obtain ⟨l, c, h1, h2, hs⟩ := hr
  exact ⟨l, c, h1, h2, hf.blk hs (by simp)⟩
theorem KOk.nil : KOk ([] : List (Ent n)) 0 fun _ => none := ⟨MOk.nil, by simp, fun _ => rfl⟩
theorem KOk.push {l : List (Ent n)} {c : Nat} {f : Vec n → Option Value} (h : KOk l c f) {k : Vec n} (v : Value) (hk : getE k l = none) : KOk (l ++ [(k, v, c)]) (c + 1) (updF f k v) := by
  refine ⟨h.ok.push k v, ?_, fun k' => by rw [push_get k v c hk, h.get]; rfl⟩
  rw [List.map_append, List.nodup_append]
  refine ⟨h.nk, by simp, fun x hx y hy he => ?_⟩
  simp only [List.map_cons, List.map_nil, List.mem_singleton] at hy
  subst hy
  subst he
  obtain ⟨z, hz, hzk⟩ := List.mem_map.1 hx
  have := (getE_iff h.nk (k := x) (v := z.2.1)).2 ⟨z, hz, hzk, rfl⟩
  rw [hk] at this
  cases this
theorem makeK_s {t : TypeId} {K : Value → World → Prop} (hs : Sep w0 w As) (h : ∀ g w', Sep w0 w' (mpK (n := n) g (fun _ => none) :: As) → K (.map (some g)) w') : efP P (Instr.makeMap t none) w K :=
  makeMap_s (n := n) hs fun g w' hs' => h g w' (mpK_close KOk.nil hs')
/-- A key gets a value. -/
theorem putK_s {M V g : Nat} {f : Vec n → Option Value} {k : Vec n} {v : Value} {K : World → Prop} (hM : P.underlying M = some (.map T V)) (hT : KeyT P T E n) (hs : Sep w0 w (mpK g f :: As))
    (h : ∀ w', Sep w0 w' (mpK g (updF f k v) :: As) → K w') : efU P (Instr.mapUpdate M (.map (some g)) (kv k) v) w K := by
  obtain ⟨l, c, hok, hs⟩ := mpK_open hs
  cases hk : getE k l with
  | none => exact putNew_s hM hT hs hk fun w' hs' => h w' (mpK_close (hok.push v hk) hs')
  | some y =>
    have hg := hs.map
    obtain ⟨F, ⟨hb, rfl⟩, hu⟩ := hs.upd
    have hfe := findE_get k l 0
    rw [hk] at hfe
    obtain ⟨⟨i, y'⟩, hfi, _⟩ := Option.map_eq_some_iff.1 hfe
    obtain ⟨x, hx, hxk, _⟩ := findE_key k l 0 i y' hfi
    have hm := updE_mod k v l 0 i y' hfi
    rw [Nat.sub_zero] at hx hm
    have e2 : (ents l).modify i (fun e => { e with key := kv k, val := v }) = ents (updE k v l) := by
      apply Array.ext'
      unfold ents
      rw [Array.toList_modify]
      exact hm
    refine ⟨setBlk w g (.map (ents (updE k v l)) c), ?_, h _ (mpK_close ⟨hok.ok.upd k v, by rw [updE_keys]; exact hok.nk, fun k' => by rw [updE_get k v k' l (by rw [hk]; rfl)]; unfold updF; rw [hok.get]⟩ (hu _ [g] (mp g _ _) ⟨setBlk_self w g _ _ hb, rfl⟩ (fr_setBlk w g _) (Grew.refl _ _)))⟩
    have e1 : (((ents l)[i]?).map (·.key)).getD (kv k) = kv k := by
      unfold ents
      rw [List.getElem?_toArray, List.getElem?_map, hx]
      show kv x.1 = kv k
      rw [hxk]
    unfold Instr.mapUpdate
    simp only [Sem.run_bind, run_underlying hM, Result.andThen_ok, get_map hg, run_key hT k _ 9998, run_findKey hT k l, hfi, e1, run_stays]
    rw [← e2]
    exact set_map _ hg
theorem lookF {M V g : Nat} {f : Vec n → Option Value} {z : Value} (hM : P.underlying M = some (.map T V)) (hT : KeyT P T E n) (hz : ∀ w : World, (zeroValue V).run P w = .ok z w) (hg : MpR w.heap g f) (k : Vec n) (K : Value → Prop) :
    rdP P (Instr.lookup M (.map (some g)) (kv k) true) w K = K (.tuple #[(f k).getD z, .bool (f k).isSome]) := by
  obtain ⟨l, c, _, hf, hm⟩ := hg
  rw [lookup_map hM hT (hz w) hm k, hf]
theorem getE_memU {n : Nat} {k : Vec n} {l : List (Ent n)} : (getE k l).isSome = true ↔ k ∈ l.map (·.1) := by
  unfold getE
  rw [Option.isSome_map, List.find?_isSome]
  constructor
  · rintro ⟨x, hx, h⟩
    have : k = x.1 := by simpa using h
    exact this ▸ List.mem_map_of_mem hx
  · intro h
    obtain ⟨x, hx, rfl⟩ := List.mem_map.1 h
    exact ⟨x, hx, by simp⟩
/-- How many entries an iterator has told. -/
def itSeenK (gi : Nat) (z : World) : Nat := match z.heap[gi]? with
  | some (.mapIter _ _ seen _) => seen.size
  | _ => 0
/-- Which keys an iterator has told: its entries, those that are told, those that are left. -/
structure RngK (l : List (Ent n)) (c : Nat) (D U : List (Ent n)) : Prop where
  pm : (D ++ U).Perm l
theorem RngK.end {l D U : List (Ent n)} {c : Nat} {f : Vec n → Option Value} (h : RngK l c D U) (hl : KOk l c f) (hall : ∀ x ∈ l, x.2.2 ∈ D.map (·.2.2)) : U = [] := by
  have hnb : ((D ++ U).map (·.2.2)).Nodup := ((h.pm.map _).nodup_iff).2 hl.ok.nd
  cases U with
  | nil => rfl
  | cons u U =>
    exfalso
    have hu := hall u (h.pm.mem_iff.1 (by simp))
    rw [List.map_append, List.nodup_append] at hnb
    exact hnb.2.2 _ hu _ (by simp) rfl
theorem RngK.next {l D U : List (Ent n)} {c : Nat} {f : Vec n → Option Value} {x : Ent n} (h : RngK l c D U) (hl : KOk l c f) (hx : x ∈ l) (hxn : x.2.2 ∉ D.map (·.2.2)) :
    (∃ U', RngK l c (D ++ [x]) U' ∧ U.length = U'.length + 1) ∧ f x.1 = some x.2.1 ∧ x.1 ∉ D.map (·.1) := by
  have hxU : x ∈ U := by
    have := h.pm.mem_iff.2 hx
    rcases List.mem_append.1 this with h | h
    · exact absurd (List.mem_map_of_mem h) hxn
    · exact h
  obtain ⟨s1, s2, rfl⟩ := List.append_of_mem hxU
  refine ⟨⟨s1 ++ s2, ⟨?_⟩, by simp; omega⟩, ?_, ?_⟩
  · rw [List.append_assoc]
    exact ((List.perm_middle (l₁ := s1) (l₂ := s2) (a := x)).symm.append_left D).trans h.pm
  · rw [← hl.get]
    exact (getE_iff hl.nk).2 ⟨x, hx, rfl, rfl⟩
  · intro hm
    have hnk : ((D ++ (s1 ++ x :: s2)).map (·.1)).Nodup := ((h.pm.map _).nodup_iff).2 hl.nk
    rw [List.map_append, List.nodup_append] at hnk
    exact hnk.2.2 _ hm _ (by simp) rfl
theorem RngK.keys {l D : List (Ent n)} {c : Nat} {f : Vec n → Option Value} (h : RngK l c D []) (hl : KOk l c f) (k : Vec n) : k ∈ D.map (·.1) ↔ (f k).isSome = true := by
  have hp := h.pm
  rw [List.append_nil] at hp
  rw [(hp.map _).mem_iff, ← hl.get, getE_memU]
end
end Go.Fx
set_option linter.unusedVariables false
set_option linter.unusedSimpArgs false
namespace Go.Fx
/-- Instances in a map: where each one's list stands. -/
abbrev SV := Vec 32 → Option (Value × Sn)
def svF (S : SV) : Vec 32 → Option Value := fun k => (S k).map fun q => snv q.1 q.2
def svM (S : SV) : SM := fun k => (S k).map (·.2)
def updV (S : SV) (k : Vec 32) (q : Value × Sn) : SV := fun k' => if k' = k then some q else S k'
theorem svF_upd (S : SV) (k : Vec 32) (q : Value × Sn) : updF (svF S) k (snv q.1 q.2) = svF (updV S k q) := by
  funext k'
  unfold updF svF updV
  split <;> rfl
theorem svM_upd (S : SV) (k : Vec 32) (q : Value × Sn) : svM (updV S k q) = updS (svM S) k q.2 := by
  funext k'
  unfold svM updV updS
  split <;> rfl
theorem svM_some {S : SV} {k : Vec 32} {x : Sn} (h : svM S k = some x) : ∃ v, S k = some (v, x) := by
  obtain ⟨⟨v, y⟩, hq, rfl⟩ := Option.map_eq_some_iff.1 h
  exact ⟨v, hq⟩
theorem Rows'.one1 {α : Type} {q : Rdr α} {h : Heap} {v : Value} {l : List α} (hr : Rows' q h v l) : v.oneCell' = true := by
  obtain ⟨a, c, rfl, _⟩ := hr
  rfl
/-- The lists stand among what the call owns. -/
def SDat (S : SV) (As : List Asn) : Prop := ∀ k q, S k = some q → rows Q_api_Choice q.1 q.2.l ∈ As
theorem SDat.sub {S : SV} {As Bs : List Asn} (h : SDat S As) (hs : ∀ A ∈ As, A ∈ Bs) : SDat S Bs := fun k q hq => hs _ (h k q hq)
theorem SDat.upd {S : SV} {As : List Asn} {k : Vec 32} {v : Value} {x : Sn} (h : SDat S As) : SDat (updV S k (v, x)) (rows Q_api_Choice v x.l :: As) := fun k' q hq => by
  unfold updV at hq
  split at hq
  · simp only [Option.some.injEq] at hq
    subst hq
    simp
  · exact List.mem_cons_of_mem _ (h k' q hq)
abbrev toq (p : Par) (gt gs : Nat) : Value × Par × Value := (.pointer (some ⟨gt, 0, none⟩), p, .map (some gs))
abbrev ptr (g : Nat) : Value := .pointer (some ⟨g, 0, none⟩)
structure ToR (h : Heap) (g gt gm gs : Nat) (ov : Value) (p : Par) (t : Tr) (N : List TN) (c : Nat) (S : SV) : Prop where
  cell : ∃ T fr, h[g]? = some (.cells (Rdr.cells Q_topo_Topo (toq p gt gs)).toArray T fr)
  tr : TrR h gt gm ov t N c
  mp : MkR h gs (svF S)
  rw : ∀ k q, S k = some q → Rows' Q_api_Choice h q.1 q.2.l
/-- A Topo that the call owns, but for the blocks' data and the instances' lists. -/
def toH (g gt gm gs : Nat) (ov : Value) (p : Par) (t : Tr) (N : List TN) (c : Nat) (S : SV) : List Asn :=
  blk g (Rdr.cells Q_topo_Topo (toq p gt gs)).toArray T_topo_Topo :: mpK gs (svF S) :: trH gt gm ov t N c
theorem zSn (w : World) : (zeroValue T_api_Snow).run P w = .ok (snv (.slice none 0 0) snZ) w := by kernel_rfl
theorem zInt (w : World) : (zeroValue T_int).run P w = .ok (.int .i64 0) w := by kernel_rfl
theorem zBool (w : World) : (zeroValue T_bool).run P w = .ok (.bool false) w := by kernel_rfl
section
variable {w0 w w' : World} {As : List Asn} {g gt gm gs c : Nat} {ov : Value} {p : Par} {t : Tr} {N : List TN} {S : SV} {m : Nat}
theorem ToR.fr (h : ToR w.heap g gt gm gs ov p t N c S) (hf : Fr [] w w') : ToR w'.heap g gt gm gs ov p t N c S := by
  obtain ⟨T, fr, hc⟩ := h.cell
  exact ⟨⟨T, fr, hf.blk hc (by simp)⟩, h.tr.fr hf, h.mp.fr hf, fun k q hq => (h.rw k q hq).fr hf⟩
theorem Sep.to (h : Sep w0 w As) (hr : ToR w0.heap g gt gm gs ov p t N c S) : ToR w.heap g gt gm gs ov p t N c S := hr.fr h.1
theorem toH_rd (h : Sep w0 w (toH g gt gm gs ov p t N c S ++ As)) (hd : Dat N As) (hs : SDat S As) : ToR w.heap g gt gm gs ov p t N c S := by
  refine ⟨⟨_, _, Sep.blk h⟩, trH_rd h.tail.tail hd, mpK_mk h.tail, fun k q hq => ?_⟩
  obtain ⟨F, hF⟩ := h.onL (A := rows Q_api_Choice q.1 q.2.l) (by
    simp only [toH, List.cons_append, List.mem_cons, List.mem_append]
    exact .inr (.inr (.inr (hs k q hq))))
  exact Own.cel hF
theorem ToR.ldt (hr : ToR w.heap g gt gm gs ov p t N c S) (K : Value → Prop) (h : K (ptr gt)) : ld1 (.pointer (some ⟨g, 0, none⟩)) w.heap K := by
  obtain ⟨T, fr, hc⟩ := hr.cell
  exact (L_topo_Topo__inner hc K).mpr h
theorem ToR.lds (hr : ToR w.heap g gt gm gs ov p t N c S) (K : Value → Prop) (h : K (.map (some gs))) : ld1 (.pointer (some ⟨g, 5, none⟩)) w.heap K := by
  obtain ⟨T, fr, hc⟩ := hr.cell
  exact (L_topo_Topo__snows hc K).mpr h
theorem ToR.look (hr : ToR w.heap g gt gm gs ov p t N c S) (k : Vec 32) (K : Value → Prop) : rdP P (Instr.lookup T_map_api_ID_api_Snow (.map (some gs)) (kv k) true) w K =
    K (.tuple #[(svF S k).getD (snv (.slice none 0 0) snZ), .bool (svF S k).isSome]) := lookF U_map_api_ID_api_Snow KT zSn hr.mp.mp k K
/-- What a lookup gives. -/
def svD (S : SV) (k : Vec 32) : Value × Sn := (S k).getD (.slice none 0 0, snZ)
theorem svD_get (S : SV) (k : Vec 32) : (svF S k).getD (snv (.slice none 0 0) snZ) = snv (svD S k).1 (svD S k).2 := by
  unfold svF svD
  cases S k <;> rfl
theorem svF_is (S : SV) (k : Vec 32) : (svF S k).isSome = (S k).isSome := by
  unfold svF
  cases S k <;> rfl
theorem ToR.rwD (hr : ToR w.heap g gt gm gs ov p t N c S) (k : Vec 32) : Rows' Q_api_Choice w.heap (svD S k).1 (svD S k).2.l := by
  unfold svD
  cases h : S k with
  | none => exact ⟨none, 0, rfl, by simp [snZ], .inl (by simp [snZ])⟩
  | some q => exact hr.rw k q h
theorem onone_spec (hr : ToR w.heap g gt gm gs ov p t N c S) : cal P f_topo_Topo_none [ptr g] w fun r w' => r = .bool false ∧ w = w' := by
  refine s_topo_Topo_none fun R hR => ?_
  unfold c_topo_Topo_none
  try simp only [fx, Nat.reduceAdd, forall_const, Option.isNone_some]
  refine jn1_dup ?_
  refine hr.ldt _ ?_
  try simp only [fx, Nat.reduceAdd, forall_const, Option.isNone_some]
  exact hR _ _ ⟨rfl, rfl⟩
theorem oLen_spec (hr : ToR w.heap g gt gm gs ov p t N c S) (hl : N.length ≤ 1000000) : cal P f_topo_Topo_Len [ptr g] w fun r w' => r = .int .i64 N.length ∧ w = w' := by
  refine s_topo_Topo_Len fun R hR => ?_
  unfold c_topo_Topo_Len
  refine cal_i (onone_spec hr) ?_
  rintro _ _ ⟨rfl, rfl⟩
  try simp only [fx, Nat.reduceAdd, forall_const]
  refine hr.ldt _ ?_
  refine cal_i (Len_spec hr.tr hl) ?_
  rintro _ _ ⟨rfl, rfl⟩
  exact hR _ _ ⟨rfl, rfl⟩
theorem oTree_spec (hr : ToR w.heap g gt gm gs ov p t N c S) (hl : N.length ≤ 1000000) : cal P f_topo_Topo_Tree [ptr g] w fun r w' => ∃ g' gm' ov' c', r = ptr g' ∧ Sep w w' (trH g' gm' ov' t N c') := by
  refine s_topo_Topo_Tree fun R hR => ?_
  unfold c_topo_Topo_Tree
  refine cal_i (onone_spec hr) ?_
  rintro _ _ ⟨rfl, rfl⟩
  try simp only [fx, Nat.reduceAdd, forall_const]
  refine hr.ldt _ ?_
  exact cal_i (tClone_spec hr.tr hl) fun r w' h => hR _ _ h
/-- What is preferred. -/
theorem oPref_spec (hi : TpI p m t N (svM S)) (hr : ToR w.heap g gt gm gs ov p t N c S) : cal P f_topo_Topo_Preference [ptr g] w fun r w' => ∃ k, IsPref t (svM S) k ∧ r = kv k ∧ Fr [] w w' := by
  refine s_topo_Topo_Preference fun R hR => ?_
  unfold c_topo_Topo_Preference
  refine alloc_s (Sep.start w) (A_api_ID w) fun g2 w1 hs1 => ?_
  refine cal_i (onone_spec (hs1.to hr)) ?_
  rintro _ _ ⟨rfl, rfl⟩
  try simp only [fx, Nat.reduceAdd, forall_const]
  refine (hs1.to hr).ldt _ ?_
  refine cal_i (Root_spec (hs1.to hr).tr) ?_
  rintro _ w2 ⟨rfl, hf2⟩
  have hs2 := hs1.old hf2
  try simp only [fx, Nat.reduceAdd, forall_const]
  refine alloc_s hs2 (A_api_ID w2) fun g3 w3 hs3 => ?_
  refine St_api_ID hs3 fun w4 hs4 => ?_
  refine ⟨fun z => ∃ k, PrefTo (svM S) t.root k ∧ Sep w z [blk g3 (Rdr.cells (rVec 32) k).toArray T_api_ID, blk g2 (Rdr.cells (rVec 32) (vz 32)).toArray T_api_ID], fun z => m - hgt t N (keyAt g3 z), ⟨t.root, .refl _, hs4⟩, ?_⟩
  rintro w5 ⟨k, hk, hs5⟩ -
  have hkh := hi.pref_has hk
  refine drH_S hs5 fun w6 hs6 hh6 => ?_
  refine rdS_ld (v := .map (some gs)) (fun u hu K hk => (hu.to hr).lds K hk) ?_
  refine ⟨kv k, fun u hu => (L_api_ID hu.blk _).mpr rfl, ?_⟩
  refine ⟨.tuple #[(svF S k).getD (snv (.slice none 0 0) snZ), .bool (svF S k).isSome], fun u hu => ((hu.to hr).look k _).mpr rfl, ?_⟩
  rw [svD_get, svF_is]
  try simp only [fx, Nat.reduceAdd, forall_const]
  refine efS_i (alloc_s hs6 (A_api_Snow w6) fun g5 w7 hs7 => ⟨hs7.tail, ?_⟩)
  refine efC_stN (St_api_Snow (b := snr (svD S k).1 (svD S k).2) hs7 (one_api_Snow ((hs7.to hr).rwD k).one1) fun w8 hs8 => ?_)
  try simp only [fx, Nat.reduceAdd, forall_const]
  rw [cnd_bool]
  refine ⟨fun h => ?_, fun h => ?_⟩
  · have hn : svM S k = none := by
      unfold svM
      cases hq : S k with
      | none => rfl
      | some q => rw [hq] at h; cases h
    simp only [L_api_ID (Sep.blk hs8.p1)]
    refine St_api_ID hs8.p2 fun w9 hs9 => ?_
    simp only [L_api_ID hs9.blk]
    exact hR _ _ ⟨k, ⟨hk, hn⟩, rfl, hs9.fr0⟩
  · obtain ⟨q, hq⟩ : ∃ q, S k = some q := by
      cases hq : S k with
      | none => rw [hq] at h; cases h
      | some q => exact ⟨q, rfl⟩
    have hx : svM S k = some (svD S k).2 := by unfold svM svD; rw [hq]; rfl
    simp only [L_api_Snow (Sep.blk hs8), L_api_Snow__List (Sep.blk hs8), L_api_Snow__Pref (Sep.blk hs8), L_api_Snow__Flake (Sep.blk hs8), L_api_Snow__Conf (Sep.blk hs8), L_api_Snow__Done (Sep.blk hs8)]
    refine cal_i snPrefers_spec ?_
    rintro _ w9 ⟨rfl, hf9⟩
    have hs9 := hs8.old hf9
    refine St_api_ID (b := prf (svD S k).2) hs9.p1 fun w10 hs10 => ?_
    refine ⟨⟨prf (svD S k).2, hk.step hx, hs10.d1⟩, ?_⟩
    have h1 := hi.pref_step hx
    have h2 := hi.tm.hb _ h1.1
    rw [keyAt_eq (Sep.blk hs10), keyAt_eq (Sep.blk hs5), h1.2.2.2]
    omega
theorem oPreferred_spec (hi : TpI p m t N (svM S)) (hr : ToR w.heap g gt gm gs ov p t N c S) (b : Vec 32) : cal P f_topo_Topo_Preferred [ptr g, kv b] w fun r w' => ∃ k, IsPref t (svM S) k ∧ r = .bool (under t N k b) ∧ Fr [] w w' := by
  refine s_topo_Topo_Preferred fun R hR => ?_
  unfold c_topo_Topo_Preferred
  refine bxQ (Sep.start w) fun g3 w1 hs1 => ?_
  refine drH_S hs1 fun w2 hs2 _ => ?_
  refine efC_cut (cal_i (onone_spec (hs2.to hr)) ?_)
  rintro _ _ ⟨rfl, rfl⟩
  refine ⟨fun u => Sep w u _, hs2, ?_⟩
  try simp only [fx, Nat.reduceAdd, forall_const]
  refine jn1_dup ?_
  refine rdS_ld (v := ptr gt) (fun u hu K hk => (hu.to hr).ldt K hk) ?_
  refine ⟨kv b, fun u hu => (L_api_ID hu.blk _).mpr rfl, ?_⟩
  refine efS_i (cal_i (oPref_spec hi (hs2.to hr)) ?_)
  rintro _ w3 ⟨k, hk, rfl, hf3⟩
  have hs3 := hs2.old hf3
  refine ⟨hs3, ?_⟩
  refine efS_i (cal_i (Within_spec (hs3.to hr).tr hi.tm.w k b) ?_)
  rintro _ w4 ⟨rfl, hf4⟩
  have hs4 := hs3.old hf4
  refine ⟨hs4, ?_⟩
  try simp only [fx, Nat.reduceAdd, forall_const]
  exact hR _ _ ⟨k, hk, rfl, hs4.fr0⟩
end
end Go.Fx
set_option linter.unusedVariables false
set_option linter.unusedSimpArgs false
namespace Go.Fx
structure AC where
  poll : Bool
  k : Nat
  d : List UInt8
  dv : Value
  fs : List (Nat × Int)
  fv : Value
def AC.t (x : AC) : Bool × Int × Value × Value := (x.poll, (x.k : Int), x.dv, x.fv)
def forT (f : Nat × Int) : Int × Int := ((f.1 : Int), f.2)
abbrev acV (x : AC) : Value := .agg (Rdr.cells Q_flurrylaw19_Act x.t).toArray
structure ARd (h : Heap) (x : AC) : Prop where
  d : RdB h x.dv x.d
  f : Rows' Q_flurrylaw19_For h x.fv (x.fs.map forT)
structure ARows (h : Heap) (v : Value) (l : List AC) : Prop where
  rw : Rows' Q_flurrylaw19_Act h v (l.map AC.t)
  d : ∀ x ∈ l, ARd h x
theorem ARd.fr {w w' : World} {x : AC} (h : ARd w.heap x) (hf : Fr [] w w') : ARd w'.heap x := ⟨h.d.fr hf (off_nil _), h.f.fr hf⟩
theorem ARows.fr {w w' : World} {v : Value} {l : List AC} (h : ARows w.heap v l) (hf : Fr [] w w') : ARows w'.heap v l := ⟨h.rw.fr hf, fun x hx => (h.d x hx).fr hf⟩
theorem ARows.len {h : Heap} {v : Value} {l : List AC} (hr : ARows h v l) (K : Value → Prop) : lenS v K = K (.int .i64 l.length) := by
  have := hr.rw.len K
  rwa [List.length_map] at this
def AOk1 (x : AC) : Prop := x.k < 256 ∧ x.d.length ≤ 9223372036854775807 ∧ x.fs.length ≤ 9223372036854775807 ∧ ∀ f ∈ x.fs, f.1 < 256 ∧ -9223372036854775808 ≤ f.2 ∧ f.2 ≤ 9223372036854775807
theorem acts_arg {h : Heap} {s : Sl (Bool × Nat × Sl UInt8 × Sl (Nat × Int))} (hs : (rSl R_flurrylaw19_Act).ok h s) : ∃ l : List AC, ARows h s.v l ∧ capOk s.v ∧ l.length ≤ 9223372036854775807 ∧ ∀ x ∈ l, AOk1 x := by
  obtain ⟨h1, h2, h3, h4⟩ := hs
  have eF : ∀ fs : List (Nat × Int), fs.flatMap R_flurrylaw19_For.cells = (fs.map forT).flatMap Q_flurrylaw19_For.cells := fun fs => by
    induction fs with
    | nil => rfl
    | cons a l ih => rw [List.flatMap_cons, ih]; rfl
  refine ⟨s.l.map fun x => ⟨x.1, x.2.1, x.2.2.1.l, x.2.2.1.v, x.2.2.2.l, x.2.2.2.v⟩, ⟨?_, fun x hx => ?_⟩, h3, by simpa using h2, fun x hx => ?_⟩
  · have e : s.l.flatMap R_flurrylaw19_Act.cells = ((s.l.map fun x => (⟨x.1, x.2.1, x.2.2.1.l, x.2.2.1.v, x.2.2.2.l, x.2.2.2.v⟩ : AC)).map AC.t).flatMap Q_flurrylaw19_Act.cells := by
      generalize s.l = l
      induction l with
      | nil => rfl
      | cons a l ih => rw [List.flatMap_cons, ih]; rfl
    unfold Rows'
    rw [e] at h1
    simp only [List.length_map] at h1 ⊢
    exact h1
  · obtain ⟨y, hy, rfl⟩ := List.mem_map.1 hx
    obtain ⟨o1, o2, o3, o4⟩ := h4 y hy
    refine ⟨o3.1, ?_⟩
    have o5 := o4.1
    unfold Rows'
    rw [eF] at o5
    simp only [List.length_map]
    exact o5
  · obtain ⟨y, hy, rfl⟩ := List.mem_map.1 hx
    obtain ⟨o1, o2, o3, o4⟩ := h4 y hy
    exact ⟨o2, o3.2.1, o4.2.1, fun f hf => ⟨(o4.2.2.2 f hf).1, Go.bounds_i64 (o4.2.2.2 f hf).2⟩⟩
/-- Acts are small. -/
def ASmall (l : List AC) : Prop := ∀ x ∈ l, x.d.length ≤ 1000 ∧ x.fs.length ≤ 20
theorem few19_spec {w : World} {q : Par × Vec 32 × Int × Int} {v : Value} {l : List AC} (hr : ARows w.heap v l) (hcap : capOk v) (h63 : l.length ≤ 9223372036854775807) (hok : ∀ x ∈ l, AOk1 x) :
    cal P f_law19_few [.agg (Rdr.cells Q_flurrylaw19_Start q).toArray, v] w fun r w' => Fr [] w w' ∧ ∃ t, r = .bool t ∧ (t = true → l.length ≤ 50 ∧ ASmall l) := by
  refine s_law19_few fun R hR => ?_
  unfold c_law19_few
  refine bxQ (Sep.start w) fun g2 w0 hs0 => ?_
  have hq : ∃ a c, v = .slice a l.length c ∧ l.length ≤ c := by
    obtain ⟨a, c, hv, _⟩ := hr.rw
    rw [List.length_map] at hv
    exact ⟨a, c, hv, hcap _ _ _ hv⟩
  obtain ⟨a, c, hv, hc⟩ := hq
  simp only [hr.len, min_int]
  obtain ⟨n, hn⟩ : ∃ n : Nat, n = min l.length 80 := ⟨_, rfl⟩
  have e1 : min (l.length : Int) 80 = (n : Int) := by omega
  rw [e1]
  have hnl : n ≤ l.length := by omega
  have hrt : ARows w.heap (.slice a n c) (l.take n) := by
    refine ⟨?_, fun x hx => hr.d x (List.mem_of_mem_take hx)⟩
    have := hr.rw
    rw [hv] at this
    have h2 := Rows'.take this (k := n) (by simpa using hnl) c
    rwa [← List.map_take] at h2
  rw [hv, slc_to (by omega)]
  have hlt : (l.take n).length = n := by rw [List.length_take]; omega
  have h5 := hrt.len
  rw [hlt] at h5
  have h6 := hr.len
  rw [hv] at h6
  simp only [h5]
  refine ⟨fun y z => ∃ i : Nat, y = .int .i64 i ∧ i ≤ n ∧ Sep w z [blk g2 (Rdr.cells Q_flurrylaw19_Start q).toArray T_flurrylaw19_Start] ∧ ASmall (l.take i), fun y _ => (n - RowKit.intOf y).toNat, ⟨0, rfl, by omega, hs0, fun x hx => by simp at hx⟩, ?_⟩
  rintro _ w1 ⟨i, rfl, hi, hs1, hsm⟩ -
  try simp only [fx, Nat.reduceAdd, forall_const]
  rw [cnd_bool]
  refine ⟨fun h => ?_, fun h => ?_⟩
  · have hlt : i < n := by simp at h; omega
    obtain ⟨x, hx⟩ : ∃ x, (l.take n)[i]? = some x := ⟨_, List.getElem?_eq_getElem (by omega)⟩
    have hxm := List.mem_of_mem_take (List.mem_of_getElem? hx)
    have hxm' : ((l.take n).map AC.t)[i]? = some x.t := by rw [List.getElem?_map, hx]; rfl
    have hxl : l[i]? = some x := by
      have hx' := hx
      rw [List.getElem?_take, if_pos hlt] at hx'
      exact hx'
    change ixs 4 _ _ _
    refine Rows'.ldN (q := Q_flurrylaw19_Act) (by decide) (hrt.rw.fr hs1.fr0) hxm' .i64 ?_
    refine alloc_s hs1 (A_flurrylaw19_Act w1) fun g w2 hs2 => ?_
    have hd := hr.fr hs2.fr0
    refine St_flurrylaw19_Act hs2 (one_flurrylaw19_Act (hd.d x hxm).d.one (Rows'.one1 (hd.d x hxm).f)) fun w3 hs3 => ?_
    have hd3 := (hr.fr hs3.fr0).d x hxm
    have l1 : ∀ K, lenS (AC.t x).2.2.1 K = K (.int .i64 x.d.length) := hd3.d.len
    have l2 : ∀ K, lenS (AC.t x).2.2.2 K = K (.int .i64 x.fs.length) := fun K => by have := hd3.f.len K; rwa [List.length_map] at this
    simp only [L_flurrylaw19_Act hs3.blk, L_flurrylaw19_Act__Poll hs3.blk, L_flurrylaw19_Act__K hs3.blk, L_flurrylaw19_Act__Data hs3.blk, L_flurrylaw19_Act__Votes hs3.blk, l1, l2, fx, Nat.reduceAdd, forall_const]
    rw [cnd_bool]
    refine ⟨fun h => hR _ _ ⟨hs3.fr0, false, rfl, fun h => by cases h⟩, fun h => ?_⟩
    rw [wi64 (by omega) (by omega)]
    refine ⟨⟨i + 1, by simp, by omega, hs3.tail, ?_⟩, by simp [RowKit.intOf]; omega⟩
    have hx2 : x.d.length ≤ 1000 ∧ x.fs.length ≤ 20 := by
      simp at h
      omega
    rw [List.take_add_one, hxl]
    intro y hy
    rcases List.mem_append.1 hy with hy | hy
    · exact hsm y hy
    · have : y = x := by simpa using hy
      rw [this]; exact hx2
  · have hge : i = n := by simp at h; omega
    simp only [L_flurrylaw19_Start (Sep.blk hs1), L_flurrylaw19_Start__P (Sep.blk hs1), L_flurrylaw19_Start__P_K (Sep.blk hs1), L_flurrylaw19_Start__P_AlphaPref (Sep.blk hs1), L_flurrylaw19_Start__P_AlphaConf (Sep.blk hs1), L_flurrylaw19_Start__P_Beta (Sep.blk hs1), L_flurrylaw19_Start__Root (Sep.blk hs1), L_flurrylaw19_Start__Height (Sep.blk hs1), L_flurrylaw19_Start__Most (Sep.blk hs1)]
    try simp only [fx, Nat.reduceAdd, forall_const]
    refine hR _ _ ⟨hs1.fr0, _, rfl, fun h => ?_⟩
    have h40 : l.length ≤ 50 := by simp at h; omega
    rw [hge, List.take_of_length_le (by omega)] at hsm
    exact ⟨h40, hsm⟩
end Go.Fx
set_option linter.unusedVariables false
set_option linter.unusedSimpArgs false
namespace Go.Fx
/-- The names that were told, as they are read. -/
structure NmR (h : Heap) (gx o : Nat) (ids : List (Vec 32)) (hs : List Int) : Prop where
  cell : ∃ cur T fr x y, h[gx]? = some (.cells cur T fr) ∧ cur[o]? = some x ∧ cur[o + 1]? = some y ∧ Rows' (rVec 32) h x ids ∧ Rows' (rInt .i64) h y hs
theorem NmR.fr {w w' : World} {gx o : Nat} {ids : List (Vec 32)} {hs : List Int} (h : NmR w.heap gx o ids hs) (hf : Fr [] w w') : NmR w'.heap gx o ids hs := by
  obtain ⟨cur, T, fr, x, y, h1, h2, h3, h4, h5⟩ := h.cell
  exact ⟨cur, T, fr, x, y, hf.blk h1 (by simp), h2, h3, h4.fr hf, h5.fr hf⟩
/-- The block of an act. -/
def bN (ids : List (Vec 32)) (hs : List Int) (x : AC) : Blk := ⟨ids.getD (x.k % ids.length) (vz 32), min (hs.getD (x.k % ids.length) 0) 4611686018427387904 + 1, x.d⟩
theorem bN_h {ids : List (Vec 32)} {hs : List Int} {x : AC} : (bN ids hs x).h ≤ maxI := by
  show min (hs.getD (x.k % ids.length) 0) 4611686018427387904 + 1 ≤ maxI
  unfold maxI
  omega
/-- A name that was not told. -/
def vB19 (n : Nat) : Vec 32 := ⟨UInt8.ofNat n :: List.replicate 31 0, by simp⟩
theorem B_ID19 {w : World} (b : UInt8) (K : Value → Prop) : rdP P (Instr.build T_api_ID #[(0, .int .u8 b.toNat)]) w K = K (kv (⟨b :: List.replicate 31 0, by simp⟩ : Vec 32)) := rd_build (r := rVec 32) (a := (⟨b :: List.replicate 31 0, by simp⟩ : Vec 32)) (by kernel_rfl) K
theorem B_ID19n {w : World} {n : Nat} (hn : n < 256) (K : Value → Prop) : rdP P (Instr.build T_api_ID #[(0, .int .u8 n)]) w K = K (kv (vB19 n)) := by
  have e : ((UInt8.ofNat n).toNat : Int) = (n : Int) := by
    rw [UInt8.toNat_ofNat']
    omega
  have := B_ID19 (w := w) (UInt8.ofNat n) K
  rw [e] at this
  exact this
def vId (ids : List (Vec 32)) (f : Nat × Int) : Vec 32 := if 200 < f.1 then vB19 f.1 else ids.getD (f.1 % ids.length) (vz 32)
noncomputable def votesM (ids : List (Vec 32)) : List (Nat × Int) → List Vt → List Vt
  | [], V => V
  | f :: fs, V => if (addB V (vId ids f) f.2).2 ≠ 0 ∨ 1000 < f.2 then [(vId ids f, f.2), (vId ids f, 1)] else votesM ids fs (addB V (vId ids f) f.2).1
theorem addB_len (V : List Vt) (k : Vec 32) (n : Int) : (addB V k n).1.length ≤ V.length + 1 := by
  unfold addB
  split
  · simp
  · split
    · simp
    · split
      · simp
      · exact putM_len V k n
theorem votesM_len (ids : List (Vec 32)) : ∀ (fs : List (Nat × Int)) (V : List Vt), (votesM ids fs V).length ≤ V.length + fs.length + 2
  | [], V => by unfold votesM; simp
  | f :: fs, V => by
    unfold votesM
    split
    · simp
    · have := votesM_len ids fs (addB V (vId ids f) f.2).1
      have := addB_len V (vId ids f) f.2
      simp only [List.length_cons]
      omega
section
variable {w0 w w' : World} {As : List Asn} {gx o : Nat} {ids : List (Vec 32)} {hs : List Int} {x : AC}
theorem NmR.ldx {h : Heap} {gx o : Nat} (hr : NmR h gx o ids hs) : ∃ iv hv, (∀ K : Value → Prop, K iv → ld1 (.pointer (some ⟨gx, o, none⟩)) h K) ∧ (∀ K : Value → Prop, K hv → ld1 (.pointer (some ⟨gx, o + 1, none⟩)) h K) ∧ Rows' (rVec 32) h iv ids ∧ Rows' (rInt .i64) h hv hs := by
  obtain ⟨cur, T, fr, x, y, h1, h2, h3, h4, h5⟩ := hr.cell
  exact ⟨x, y, fun K hk => ld1_i h1 h2 hk, fun K hk => ld1_i h1 h3 hk, h4, h5⟩
theorem NmR.ldx' (hr : NmR w.heap gx o ids hs) : ∃ iv hv, (∀ z, Fr [] w z → ∀ K : Value → Prop, K iv → ld1 (.pointer (some ⟨gx, o, none⟩)) z.heap K) ∧ (∀ z, Fr [] w z → ∀ K : Value → Prop, K hv → ld1 (.pointer (some ⟨gx, o + 1, none⟩)) z.heap K) ∧ Rows' (rVec 32) w.heap iv ids ∧ Rows' (rInt .i64) w.heap hv hs := by
  obtain ⟨cur, T, fr, x, y, h1, h2, h3, h4, h5⟩ := hr.cell
  exact ⟨x, y, fun z hf K hk => ld1_i (hf.blk h1 (by simp)) h2 hk, fun z hf K hk => ld1_i (hf.blk h1 (by simp)) h3 hk, h4, h5⟩
theorem nBlock_spec (hr : NmR w.heap gx o ids hs) (hl : hs.length = ids.length) (h0 : 0 < ids.length) (hn : ids.length ≤ 1000000) (hp : ∀ y ∈ hs, 0 ≤ y) (hx : ARd w.heap x) (hk : AOk1 x) :
    cal P f_law19_names_block [.pointer (some ⟨gx, o, none⟩), acV x] w fun r w' => r = bq (bN ids hs x) x.dv ∧ Fr [] w w' := by
  obtain ⟨iv, hv, ldi, ldh, hi, hh⟩ := hr.ldx'
  refine s_law19_names_block fun R hR => ?_
  unfold c_law19_names_block
  refine bxQ (Sep.start w) fun g3 w1 hs1 => ?_
  refine alloc_s hs1 (A_api_Block w1) fun g4 w2 hs2 => ?_
  refine drw_s hs2 fun w3 hs3 _ => ?_
  simp only [fx, Nat.reduceAdd, forall_const, L_flurrylaw19_Act (Sep.blk (Sep.p1 hs3)), L_flurrylaw19_Act__Poll (Sep.blk (Sep.p1 hs3)), L_flurrylaw19_Act__K (Sep.blk (Sep.p1 hs3)), L_flurrylaw19_Act__Data (Sep.blk (Sep.p1 hs3)), L_flurrylaw19_Act__Votes (Sep.blk (Sep.p1 hs3))]
  refine ldi _ hs3.fr0 _ ?_
  have ek : (AC.t x).2.1 = (x.k : Int) := rfl
  have hlen : ∀ K, lenS iv K = K (.int .i64 ids.length) := hi.len
  have hk1 := hk.1
  rw [ek, wi64 (by omega) (by omega), hlen, bi_rem _ _ _ _ (by omega), tmodn]
  have hlt := Nat.mod_lt x.k h0
  obtain ⟨a, ha⟩ : ∃ a, ids[x.k % ids.length]? = some a := ⟨_, List.getElem?_eq_getElem hlt⟩
  obtain ⟨y, hy⟩ : ∃ y, hs[x.k % ids.length]? = some y := ⟨_, List.getElem?_eq_getElem (by omega)⟩
  have hy0 := hp y (List.mem_of_getElem? hy)
  refine drH_S hs3 fun w4 hs4 _ => ?_
  try simp only [fx, Nat.reduceAdd, forall_const]
  refine rdS_ld (v := iv) (fun u hu K hk => ldi u hu.fr0 K hk) ?_
  refine rdS_rowV (q := rVec 32) (by decide) hs4 (fun u hu => hi.fr (Sep.fr0 hu)) ha .i64 ?_
  refine rdS_ld (v := hv) (fun u hu K hk => ldh u hu.fr0 K hk) ?_
  refine rdS_rowI hs4 (fun u hu => hh.fr (Sep.fr0 hu)) hy .i64 ?_
  refine ⟨.int .i64 (min y 4611686018427387904), fun u hu => by rw [min_int], ?_⟩
  try simp only [fx, Nat.reduceAdd, forall_const]
  rw [wi64 (by omega) (by omega)]
  refine rdS_ld (v := x.dv) (fun u hu K hk => (L_flurrylaw19_Act__Data (Sep.blk (Sep.p1 hu)) K).mpr hk) ?_
  refine ⟨bq ⟨a, min y 4611686018427387904 + 1, x.d⟩ x.dv, fun u hu => by rw [B_api_Block_0_1_2 hx.d.one], ?_⟩
  refine efC_stN (St_api_Block (b := (a, min y 4611686018427387904 + 1, x.dv)) hs4 (one_api_Block hx.d.one) fun w5 hs5 => ?_)
  simp only [L_api_Block hs5.blk, L_api_Block__Parent hs5.blk, L_api_Block__Height hs5.blk, L_api_Block__Data hs5.blk]
  refine hR _ _ ⟨?_, hs5.fr0⟩
  unfold bN
  rw [List.getD_eq_getElem?_getD, ha, List.getD_eq_getElem?_getD, hy]
  rfl
theorem nVotes_spec (hr : NmR w.heap gx o ids hs) (h0 : 0 < ids.length) (hn : ids.length ≤ 1000000) (hx : ARd w.heap x) (hk : AOk1 x) (hl : x.fs.length ≤ 1000) :
    cal P f_law19_names_votes [.pointer (some ⟨gx, o, none⟩), acV x] w fun r w' => Sep w w' [rows Q_api_Vote r (votesM ids x.fs [])] := by
  obtain ⟨iv, hv, ldi, ldh, hi, hh⟩ := hr.ldx'
  refine s_law19_names_votes fun R hR => ?_
  unfold c_law19_names_votes
  refine bxQ (Sep.start w) fun g3 w1 hs1 => ?_
  have lf : ∀ K, lenS (AC.t x).2.2.2 K = K (.int .i64 x.fs.length) := fun K => by have := hx.f.len K; rwa [List.length_map] at this
  simp only [fx, Nat.reduceAdd, forall_const, L_flurrylaw19_Act (Sep.blk hs1), L_flurrylaw19_Act__Poll (Sep.blk hs1), L_flurrylaw19_Act__K (Sep.blk hs1), L_flurrylaw19_Act__Data (Sep.blk hs1), L_flurrylaw19_Act__Votes (Sep.blk hs1)]
  rw [lf]
  have hf2 : (AC.t x).2.2.2 = x.fv := rfl
  rw [hf2]
  refine ⟨fun a b z => ∃ (i : Nat) (V : List Vt), b = .int .i64 i ∧ i ≤ x.fs.length ∧ votesM ids x.fs [] = votesM ids (x.fs.drop i) V ∧ V.length ≤ i ∧ Sep w z [rows Q_api_Vote a V, blk g3 (Rdr.cells Q_flurrylaw19_Act x.t).toArray T_flurrylaw19_Act], fun _ b _ => (x.fs.length - RowKit.intOf b).toNat, ⟨0, [], rfl, by omega, rfl, by simp, Sep.nilR hs1⟩, ?_⟩
  rintro a _ z ⟨i, V, rfl, hi2, hV, hVl, hz⟩ -
  try simp only [fx, Nat.reduceAdd, forall_const]
  rw [cnd_bool]
  refine ⟨fun h => ?_, fun h => ?_⟩
  case refine_2 =>
    have hge : i = x.fs.length := by simp at h; omega
    rw [hge, List.drop_length] at hV
    refine hR _ _ ?_
    rw [hV]
    exact hz.d1
  have hlt : i < x.fs.length := by simp at h; omega
  obtain ⟨f, hf⟩ : ∃ f, x.fs[i]? = some f := ⟨_, List.getElem?_eq_getElem hlt⟩
  have hfm := List.mem_of_getElem? hf
  obtain ⟨f1, f2, f3⟩ := hk.2.2.2 f hfm
  have hf' : (x.fs.map forT)[i]? = some (forT f) := by rw [List.getElem?_map, hf]; rfl
  have hdr : x.fs.drop i = f :: x.fs.drop (i + 1) := by
    have h := List.getElem?_eq_some_iff.1 hf
    rw [← h.2, List.getElem_cons_drop]
  change ixs 2 _ _ _
  refine Rows'.ldN (q := Q_flurrylaw19_For) (by decide) (hx.f.fr hz.fr0) hf' .i64 ?_
  refine alloc_s hz (A_flurrylaw19_For z) fun g7 z1 hz1 => ?_
  refine St_flurrylaw19_For (b := forT f) hz1 one_flurrylaw19_For fun z2 hz2 => ?_
  have e1 : (forT f).1 = (f.1 : Int) := rfl
  have e2 : (forT f).2 = f.2 := rfl
  have hlen : ∀ K, lenS iv K = K (.int .i64 ids.length) := hi.len
  have hm := Nat.mod_lt f.1 h0
  obtain ⟨b, hb⟩ : ∃ b, ids[f.1 % ids.length]? = some b := ⟨_, List.getElem?_eq_getElem hm⟩
  refine drH_S hz2 fun z3 hz3 _ => ?_
  try simp only [fx, Nat.reduceAdd, forall_const]
  refine rdS_ld (v := iv) (fun u hu K hk => ldi u hu.fr0 K hk) ?_
  refine rdS_ld (v := .int .u8 f.1) (fun u hu K hk => (L_flurrylaw19_For__K (Sep.blk hu) K).mpr hk) ?_
  try simp only [fx, Nat.reduceAdd, forall_const]
  rw [wi64 (by omega) (by omega)]
  refine rdS_ld (v := iv) (fun u hu K hk => ldi u hu.fr0 K hk) ?_
  rw [hlen, bi_rem _ _ _ _ (by omega), tmodn]
  refine rdS_rowV (q := rVec 32) (by decide) hz3 (fun u hu => hi.fr (Sep.fr0 hu)) hb .i64 ?_
  refine efS_i (alloc_s hz3 (A_api_ID z3) fun g8 z4 hz4 => ⟨hz4.tail, ?_⟩)
  refine efC_stN (St_api_ID (b := b) hz4 fun z5 hz5 => ?_)
  have hvid : vId ids f = if 200 < f.1 then vB19 f.1 else b := by
    unfold vId
    rw [List.getD_eq_getElem?_getD, hb]
    rfl
  refine ⟨fun u => Sep w u [blk g8 (Rdr.cells (rVec 32) (vId ids f)).toArray T_api_ID, blk g7 (Rdr.cells Q_flurrylaw19_For (forT f)).toArray T_flurrylaw19_For, rows Q_api_Vote a V, blk g3 (Rdr.cells Q_flurrylaw19_Act x.t).toArray T_flurrylaw19_Act], ?_, ?_⟩
  · simp only [fx, Nat.reduceAdd, forall_const, L_flurrylaw19_For (Sep.blk hz5.p1), L_flurrylaw19_For__K (Sep.blk hz5.p1), L_flurrylaw19_For__N (Sep.blk hz5.p1)]
    rw [e1, cnd_bool]
    refine ⟨fun h2 => ?_, fun h2 => ?_⟩
    · have h2 : 200 < f.1 := by simp at h2; omega
      rw [B_ID19n f1]
      refine St_api_ID (b := vB19 f.1) hz5 fun z6 hz6 => ?_
      rw [hvid, if_pos h2]
      exact hz6
    · have h2 : ¬ 200 < f.1 := by simp at h2; omega
      rw [hvid, if_neg h2]
      exact hz5
  rintro z6 hz6 _
  obtain ⟨a0, c0, rfl, hc0⟩ := (Sep.pick hz6 [2] 3).formR
  simp only [fx, Nat.reduceAdd, forall_const, L_api_ID (Sep.blk hz6), L_flurrylaw19_For (Sep.blk hz6.p1), L_flurrylaw19_For__K (Sep.blk hz6.p1), L_flurrylaw19_For__N (Sep.blk hz6.p1)]
  rw [e2]
  refine cal_i (l7Add (Sep.rows (Sep.pick hz6 [2] 3)) hc0 (vId ids f) f.2 (by omega) f3) ?_
  rintro _ z7 ⟨v7, rfl, hz7⟩
  replace hz7 := hz6.join hz7
  obtain ⟨E, hE⟩ : ∃ E, E = addB V (vId ids f) f.2 := ⟨_, rfl⟩
  have hEl : E.1.length ≤ V.length + 1 := by rw [hE]; exact addB_len V _ _
  rw [← hE] at hz7 ⊢
  simp only [fx, Nat.reduceAdd, forall_const, L_api_ID (Sep.blk (Sep.pick hz7 [1] 2)), L_flurrylaw19_For (Sep.blk (Sep.pick hz7 [2] 3)), L_flurrylaw19_For__K (Sep.blk (Sep.pick hz7 [2] 3)), L_flurrylaw19_For__N (Sep.blk (Sep.pick hz7 [2] 3))]
  rw [e2]
  try simp only [fx, Nat.reduceAdd, forall_const]
  have hstep : votesM ids x.fs [] = if E.2 ≠ 0 ∨ 1000 < f.2 then [(vId ids f, f.2), (vId ids f, 1)] else votesM ids (x.fs.drop (i + 1)) E.1 := by
    rw [hV, hdr, votesM, ← hE]
  rw [cnd_bool]
  refine ⟨fun h2 => ?_, fun h2 => ?_⟩
  · have h2 : E.2 ≠ 0 ∨ 1000 < f.2 := by simpa using h2
    rw [if_pos h2] at hstep
    rw [B_api_Vote_0_1, B_api_Vote_0_1]
    refine rows_lit (q := Q_api_Vote) (l := [((vId ids f, f.2) : Vt), (vId ids f, 1)]) (V := fun c => .agg (Rdr.cells Q_api_Vote c).toArray) hz7 S_sl_api_Vote (fun a => rfl) rfl rfl (by decide) (by decide) fun g9 z8 hz8 => ?_
    refine hR _ _ ?_
    rw [hstep]
    exact Sep.pick hz8 [0] 6
  · have h2 : ¬ (E.2 ≠ 0 ∨ 1000 < f.2) := by simpa using h2
    rw [if_neg h2] at hstep
    rw [wi64 (by omega) (by omega)]
    refine ⟨⟨i + 1, E.1, by simp, by omega, hstep, by omega, Sep.pick hz7 [0, 4] 5⟩, by simp [RowKit.intOf] <;> omega⟩
end
end Go.Fx
set_option linter.unusedVariables false
set_option linter.unusedSimpArgs false
namespace Go.Fx
/-- What a map of counts has behind a name was counted. -/
def cF (t : Tr) (N : List TN) (V : List Vt) (k : Vec 32) (F : Vec 32 → Option Value) : Vec 32 → Option Value := fun q => if under t N q k = true then some (.int .i64 (cntT t N V q)) else F q
def cFs (t : Tr) (N : List TN) (V : List Vt) (l : List (Vec 32)) (F : Vec 32 → Option Value) : Vec 32 → Option Value := fun q => if l.any (fun k => under t N q k) = true then some (.int .i64 (cntT t N V q)) else F q
theorem cFs_nil (t : Tr) (N : List TN) (V : List Vt) (F : Vec 32 → Option Value) : cFs t N V [] F = F := by
  funext q
  simp [cFs]
theorem cFs_snoc (t : Tr) (N : List TN) (V : List Vt) (l : List (Vec 32)) (k : Vec 32) (F : Vec 32 → Option Value) : cF t N V k (cFs t N V l F) = cFs t N V (l ++ [k]) F := by
  funext q
  unfold cF cFs
  by_cases h1 : under t N q k = true <;> by_cases h2 : l.any (fun k => under t N q k) = true <;> simp [h1, h2]
theorem under_any {t : Tr} {N : List TN} (hw : TrW t N) (hn : (nms N).Nodup) {k q : Vec 32} (hk : has t N k = true) : under t N q k = (decide (q = k) || (kidsT t N k).any fun x => under t N q x) := by
  by_cases hq : has t N q = true
  case neg =>
    have h1 : ∀ c, under t N q c = false := fun c => by
      cases h : under t N q c with
      | false => rfl
      | true => exact absurd (under_has h).1 hq
    rw [h1, decide_eq_false fun he : q = k => hq (he ▸ hk)]
    simp [h1]
  refine path_ind hw (C := fun q => under t N q k = (decide (q = k) || (kidsT t N k).any fun x => under t N q x)) ?_ (fun q hq hr ih => ?_) q hq
  · rw [under_root]
    have : ((kidsT t N k).any fun x => under t N t.root x) = false := by
      rw [List.any_eq_false]
      intro x hx
      rw [under_root, decide_eq_false ((kid_iff hw hn).1 hx).2.2.1]
      simp
    rw [this, Bool.or_false]
    exact decide_eq_decide.2 eq_comm
  · rw [under_step hw hq hr, ih]
    have e : ((kidsT t N k).any fun x => under t N q x) = (decide (upOf q N = k) || (kidsT t N k).any fun x => under t N (upOf q N) x) := by
      have e2 : ∀ x, under t N q x = (decide (q = x) || under t N (upOf q N) x) := fun x => under_step hw hq hr
      rw [show (fun x => under t N q x) = fun x => (decide (q = x) || under t N (upOf q N) x) from funext e2]
      by_cases h : upOf q N = k
      · rw [decide_eq_true h, Bool.true_or, List.any_eq_true]
        exact ⟨q, (kid_iff hw hn).2 ⟨hk, hq, hr, h⟩, by simp⟩
      · rw [decide_eq_false h, Bool.false_or, Bool.eq_iff_iff, List.any_eq_true, List.any_eq_true]
        constructor
        · rintro ⟨x, hx, hu⟩
          refine ⟨x, hx, ?_⟩
          simp only [Bool.or_eq_true, decide_eq_true_eq] at hu
          rcases hu with hu | hu
          · exact absurd (hu ▸ ((kid_iff hw hn).1 hx).2.2.2) h
          · exact hu
        · rintro ⟨x, hx, hu⟩
          exact ⟨x, hx, by rw [hu]; simp⟩
    rw [e]
theorem cF_up {t : Tr} {N : List TN} (hw : TrW t N) (hn : (nms N).Nodup) (V : List Vt) {k : Vec 32} (hk : has t N k = true) (F : Vec 32 → Option Value) : updF (cFs t N V (kidsT t N k) F) k (.int .i64 (cntT t N V k)) = cF t N V k F := by
  funext q
  unfold updF cF cFs
  rw [under_any hw hn hk]
  by_cases h : q = k
  · subst h; simp
  · rw [if_neg h, decide_eq_false h, Bool.false_or]
theorem sum_take_le {l : List (Vec 32)} {f : Vec 32 → Int} (h : ∀ k, 0 ≤ f k) (i : Nat) : 0 ≤ ((l.take i).map f).sum ∧ ((l.take i).map f).sum ≤ (l.map f).sum := by
  have h0 : ∀ l : List (Vec 32), 0 ≤ (l.map f).sum := fun l => by
    have := sum_le l (fun _ => (0 : Int)) f fun x _ => h x
    rwa [sum_zero l (fun _ => (0 : Int)) fun _ _ => rfl] at this
  refine ⟨h0 _, ?_⟩
  have : (l.map f).sum = ((l.take i).map f).sum + ((l.drop i).map f).sum := by
    rw [← List.sum_append, ← List.map_append, List.take_append_drop]
  have := h0 (l.drop i)
  omega
theorem cntV_nonneg {V : List Vt} (h : bagOk V) (k : Vec 32) : 0 ≤ cntV V k := by
  unfold cntV
  cases hf : V.find? (fun v => decide (v.1 = k)) with
  | none => simp
  | some v =>
    have := h.pos v (List.mem_of_find?_eq_some hf)
    show 0 ≤ v.2
    omega
theorem kids_len (t : Tr) (N : List TN) (k : Vec 32) : (kidsT t N k).length ≤ N.length := by
  unfold kidsT
  by_cases h : has t N k = true
  · rw [if_pos h, List.length_map]
    exact List.length_filter_le ..
  · rw [if_neg h]
    exact Nat.zero_le _
theorem al_int (w : World) : (Instr.alloc T_int true (.tuple #[])).run P w = .ok (.pointer (some ⟨w.heap.size, 0, none⟩)) (w.alloc (.cells #[.int .i64 0] T_int)) := by kernel_rfl
theorem al_mapI (w : World) : (Instr.alloc T_map_api_ID_int true (.tuple #[])).run P w = .ok (.pointer (some ⟨w.heap.size, 0, none⟩)) (w.alloc (.cells #[.map none] T_map_api_ID_int)) := by kernel_rfl
theorem al_fnI (w : World) : (Instr.alloc T_func_api_ID_int true (.tuple #[])).run P w = .ok (.pointer (some ⟨w.heap.size, 0, none⟩)) (w.alloc (.cells #[Value.nilFunc] T_func_api_ID_int)) := by kernel_rfl
abbrev upV (g2 g3 g5 g6 : Nat) : Value := .func (.func f_topo_Topo_counts_1) #[] [ptr g3, ptr g2, ptr g6, ptr g5].toArray
/-- What 'up' sees. -/
abbrev CE (g2 g3 g5 g6 g gmm : Nat) (v : Value) (F : Vec 32 → Option Value) (Ls : List Asn) : List Asn :=
  blk g6 #[upV g2 g3 g5 g6] T_func_api_ID_int :: blk g5 #[.map (some gmm)] T_map_api_ID_int :: blk g3 #[v] T_sl_api_Vote :: blk g2 #[ptr g] T_p_topo_Topo :: mpF gmm F :: Ls
section
variable {w0 w w' : World} {As : List Asn} {g gt gm gs c g2 g3 g5 g6 gmm : Nat} {ov v : Value} {p : Par} {t : Tr} {N : List TN} {S : SV} {m : Nat} {V : List Vt}
theorem counts1_go (hi : TM t N m) (hok : bagOk V) (hr : ToR w0.heap g gt gm gs ov p t N c S) (hv : Rows' Q_api_Vote w0.heap v V) (hn : N.length ≤ 1000000) (k : Vec 32) (z : World) (F : Vec 32 → Option Value) (Ls : List Asn) (hk : has t N k = true)
    (hs : Sep w0 z (CE g2 g3 g5 g6 g gmm v F Ls))
    (ih : ∀ x, x ∈ kidsT t N k → ∀ (z : World) (F : Vec 32 → Option Value) (Ls : List Asn), Sep w0 z (CE g2 g3 g5 g6 g gmm v F Ls) →
      cal P f_topo_Topo_counts_1 [kv x, ptr g3, ptr g2, ptr g6, ptr g5] z fun r z' => r = .int .i64 (cntT t N V x) ∧ Sep w0 z' (CE g2 g3 g5 g6 g gmm v (cF t N V x F) Ls)) :
    cal P f_topo_Topo_counts_1 [kv k, ptr g3, ptr g2, ptr g6, ptr g5] z fun r z' => r = .int .i64 (cntT t N V k) ∧ Sep w0 z' (CE g2 g3 g5 g6 g gmm v (cF t N V k F) Ls) := by
  have hVl := hok.len
  have hsum := (hok.sum V.length).2
  rw [List.take_of_length_le (Nat.le_refl _)] at hsum
  have hcb := fun q => cnt_bounds (t := t) (N := N) hok q
  refine s_topo_Topo_counts_1 fun R hR => ?_
  unfold c_topo_Topo_counts_1
  refine bxQ hs fun g7 w1 hs1 => ?_
  refine ld1_i (v := v) (Sep.blk (Sep.p3 hs1)) rfl ?_
  simp only [L_api_ID hs1.blk]
  refine cal_i (bgCount_spec (hv.fr hs1.fr0) (by omega) k) ?_
  rintro _ w2 ⟨rfl, hf2⟩
  have hs2 := hs1.old hf2
  rw [goodV, if_pos hok]
  refine alloc_s hs2 (al_int w2) fun g8 w3 hs3 => ?_
  refine st1_s hs3 (by simp) rfl fun w4 hs4 => ?_
  refine drH_S hs4 fun w5 hs5 _ => ?_
  refine rdS_ld (v := ptr g) (fun u hu K hk => ld1_i (Sep.blk (Sep.pick hu [5] 6)) rfl hk) ?_
  try simp only [fx, Nat.reduceAdd, forall_const]
  refine rdS_ld (v := ptr gt) (fun u hu K hk => (hu.to hr).ldt K hk) ?_
  refine ⟨kv k, fun u hu => (L_api_ID (Sep.blk hu.p1) _).mpr rfl, ?_⟩
  refine efC_cal (cal_i (Kids_spec (hs5.to hr).tr hn hi.nd k) ?_)
  rintro _ w6 ⟨g1, v1, rfl, hg⟩
  replace hg : Sep w5 w6 [blk g1 #[v1] T_sl_api_ID, rows (rVec 32) v1 (kidsT t N k)] := hg
  obtain ⟨kids, hkids⟩ : ∃ l, l = kidsT t N k := ⟨_, rfl⟩
  rw [← hkids] at hg ih
  have hkl : kids.length ≤ 1000000 := by
    rw [hkids]
    exact Nat.le_trans (kids_len t N k) hn
  have hrec : cntT t N V k = cntV V k + (kids.map (cntT t N V)).sum := by rw [hkids]; exact cnt_rec hi.w hi.nd hok hk
  have hs6 := hs5.join hg
  have hs7 := Sep.pick hs6 [4, 5, 6, 7, 8, 2, 3, 0, 1] 9
  obtain ⟨X, hX⟩ : ∃ X : Nat → List Asn, X = fun i => CE g2 g3 g5 g6 g gmm v (cFs t N V (kids.take i) F) (blk g8 #[.int .i64 (cntV V k + ((kids.take i).map (cntT t N V)).sum)] T_int :: blk g7 (Rdr.cells (rVec 32) k).toArray T_api_ID :: blk g1 #[v1] T_sl_api_ID :: rows (rVec 32) v1 kids :: Ls) := ⟨_, rfl⟩
  have hX0 : Sep w0 w6 (X 0) := by
    rw [hX]
    simp only [List.take_zero, cFs_nil, List.map_nil, List.sum_nil, Int.add_zero]
    exact hs7
  refine rng_s hX0 (told1_iter (v := v1) (g1 := g1) hkl) (fun i z args ⟨x, _, h⟩ => by rw [h]; rfl) (fun i Bs => Bs = X i) (fun _ _ => False) rfl ?_ ?_ ?_ ?_
  · rintro i Bs Ls' z rfl hz
    rw [hX] at hz
    have h8 := Sep.pick hz [7, 8] 9
    exact ⟨⟨_, _, Sep.blk h8⟩, Sep.rows h8.tail⟩
  · rintro i _ z _ LR LB bg fin hlt rfl ⟨x, hx, rfl⟩ hz hbg hfn _
    have hxm := List.mem_of_getElem? hx
    have htk : kids.take (i + 1) = kids.take i ++ [x] := by rw [List.take_add_one, hx]; rfl
    have hst := sum_take_le (l := kids) (f := cntT t N V) (fun q => (hcb q).1) i
    have hst2 := sum_take_le (l := kids) (f := cntT t N V) (fun q => (hcb q).1) (i + 1)
    have hv0 := cntV_nonneg hok k
    have hkb := (hcb k).2
    have hxb := hcb x
    have hsn : ((kids.take (i + 1)).map (cntT t N V)).sum = ((kids.take i).map (cntT t N V)).sum + cntT t N V x := by rw [htk]; simp
    obtain ⟨s, hsd⟩ : ∃ s, s = ((kids.take i).map (cntT t N V)).sum := ⟨_, rfl⟩
    rw [← hsd] at hst hsn
    rw [hsn] at hst2
    refine alloc_s hz (A_api_ID z) fun g9 za hza => ?_
    simp only [List.getD_cons_zero]
    refine St_api_ID (b := x) hza fun zb hzb => ?_
    rw [← List.cons_append] at hzb
    refine hbg zb _ _ hzb fun z1 hz1 => ?_
    rw [hX] at hz1
    simp only [List.cons_append, List.nil_append] at hz1
    rw [← hsd] at hz1
    refine ⟨fun u => ∃ G, Sep w0 u (blk g9 (Rdr.cells (rVec 32) x).toArray T_api_ID :: CE g2 g3 g5 g6 g gmm v G (blk g8 #[.int .i64 (cntV V k + s)] T_int :: blk g7 (Rdr.cells (rVec 32) k).toArray T_api_ID :: blk g1 #[v1] T_sl_api_ID :: rows (rVec 32) v1 kids :: (Ls ++ LB))), ⟨_, hz1.drew _⟩, ?_⟩
    refine rdS_ld (v := .int .i64 (cntV V k + s)) (fun u ⟨G, hu⟩ K hk => ld1_i (Sep.blk (Sep.pick hu [6] 7)) rfl hk) ?_
    refine rdS_ld (v := upV g2 g3 g5 g6) (fun u ⟨G, hu⟩ K hk => ld1_i (Sep.blk hu.p1) rfl hk) ?_
    refine ⟨kv x, fun u ⟨G, hu⟩ => (L_api_ID (Sep.blk hu) _).mpr rfl, ?_⟩
    refine efS_i (calV_mk (by kernel_rfl) (cal_i (ih x hxm _ _ _ (Sep.pick (hz1.drew _) [1, 2, 3, 4, 5, 0] 6)) ?_))
    rintro _ z2 ⟨rfl, hz2⟩
    refine ⟨⟨_, Sep.pick hz2 [5, 0, 1, 2, 3, 4] 6⟩, ?_⟩
    try simp only [fx, Nat.reduceAdd, forall_const]
    rw [wi64 (by omega) (by omega)]
    refine efC_st1 (st1_s (Sep.pick hz2 [6, 0, 1, 2, 3, 4, 7] 8) (by simp) rfl fun z3 hz3 => ?_)
    refine hfn z3 _ rfl ?_
    rw [hX]
    simp only [List.cons_append]
    rw [cFs_snoc, ← htk] at hz3
    rw [show cntV V k + s + cntT t N V x = cntV V k + ((kids.take (i + 1)).map (cntT t N V)).sum by rw [hsn]; omega] at hz3
    exact Sep.pick hz3 [1, 2, 3, 4, 5, 0, 6] 7
  · rintro D _ z2 rfl hz
    rw [hX] at hz
    simp only [List.take_length] at hz
    rw [← hrec] at hz
    refine .inl ⟨rfl, ?_⟩
    refine ld1_i (v := .map (some gmm)) (Sep.blk (Sep.pick hz [2] 3)) rfl ?_
    simp only [L_api_ID (Sep.blk (Sep.pick hz [7] 8))]
    refine ld1_i (v := .int .i64 (cntT t N V k)) (Sep.blk (Sep.pick hz [6] 7)) rfl ?_
    refine putF_s U_map_api_ID_int KT (Sep.pick hz [5, 0, 1, 2, 3, 4, 6, 7, 8, 9] 10) fun z3 hz3 => ?_
    rw [hkids, cF_up hi.w hi.nd V hk] at hz3
    refine ld1_i (v := .int .i64 (cntT t N V k)) (Sep.blk (Sep.pick hz3 [6] 7)) rfl ?_
    refine takeD_s hz3.p1 fun z4 hz4 => hR _ _ ⟨rfl, ?_⟩
    exact Sep.pick hz4 [1, 2, 3, 4, 0] 9
  · rintro D j _ z2 hf _
    exact hf.elim
theorem counts1_spec (hi : TM t N m) (hok : bagOk V) (hr : ToR w0.heap g gt gm gs ov p t N c S) (hv : Rows' Q_api_Vote w0.heap v V) (hn : N.length ≤ 1000000) :
    ∀ (d : Nat) (k : Vec 32) (z : World) (F : Vec 32 → Option Value) (Ls : List Asn), has t N k = true → m - hgt t N k ≤ d → Sep w0 z (CE g2 g3 g5 g6 g gmm v F Ls) →
      cal P f_topo_Topo_counts_1 [kv k, ptr g3, ptr g2, ptr g6, ptr g5] z fun r z' => r = .int .i64 (cntT t N V k) ∧ Sep w0 z' (CE g2 g3 g5 g6 g gmm v (cF t N V k F) Ls) := by
  intro d
  induction d with
  | zero =>
    intro k z F Ls hk hd hs
    exact counts1_go hi hok hr hv hn k z F Ls hk hs fun x hx => by
      have h1 := kid_hgt hi.w hi.nd hx
      have h2 := hi.hb x ((kid_iff hi.w hi.nd).1 hx).2.1
      omega
  | succ d ih =>
    intro k z F Ls hk hd hs
    exact counts1_go hi hok hr hv hn k z F Ls hk hs fun x hx z F Ls hz => by
      have h1 := kid_hgt hi.w hi.nd hx
      have h2 := hi.hb x ((kid_iff hi.w hi.nd).1 hx).2.1
      exact ih x z F Ls ((kid_iff hi.w hi.nd).1 hx).2.1 (by omega) hz
theorem oCounts_spec (hi : TM t N m) (hok : bagOk V) (hr : ToR w.heap g gt gm gs ov p t N c S) (hv : Rows' Q_api_Vote w.heap v V) (hn : N.length ≤ 1000000) :
    cal P f_topo_Topo_counts [ptr g, v] w fun r w' => ∃ gmm, r = .map (some gmm) ∧ Sep w w' [mpF gmm (cF t N V t.root fun _ => none)] := by
  obtain ⟨a0, c0, rfl, hh⟩ := id hv
  refine s_topo_Topo_counts fun R hR => ?_
  unfold c_topo_Topo_counts
  refine bx_s (Sep.start w) fun g2 w1 hs1 => ?_
  replace hs1 : Sep w w1 [blk g2 #[ptr g] T_p_topo_Topo] := hs1
  refine bx_s hs1 fun g3 w2 hs2 => ?_
  replace hs2 : Sep w w2 (blk g3 #[.slice a0 V.length c0] T_sl_api_Vote :: _) := hs2
  refine makeF_s (n := 32) hs2 fun gmm w3 hs3 => ?_
  refine alloc_s hs3 (al_mapI w3) fun g5 w4 hs4 => ?_
  refine st1_s hs4 (by simp) rfl fun w5 hs5 => ?_
  refine alloc_s hs5 (al_fnI w5) fun g6 w6 hs6 => ?_
  refine st1_s hs6 (by simp) rfl fun w7 hs7 => ?_
  replace hs7 : Sep w w7 (blk g6 #[upV g2 g3 g5 g6] T_func_api_ID_int :: blk g5 #[.map (some gmm)] T_map_api_ID_int :: mpF gmm (fun _ => none) :: blk g3 #[.slice a0 V.length c0] T_sl_api_Vote :: blk g2 #[ptr g] T_p_topo_Topo :: []) := hs7
  refine ld1_i (v := ptr g) (Sep.blk (Sep.pick hs7 [4] 5)) rfl ?_
  try simp only [fx, Nat.reduceAdd, forall_const]
  refine (hs7.to hr).ldt _ ?_
  refine cal_i (Root_spec (hs7.to hr).tr) ?_
  rintro _ w8 ⟨rfl, hf8⟩
  have hs8 := hs7.old hf8
  try simp only [fx, Nat.reduceAdd, forall_const]
  refine alloc_s hs8 (A_api_ID w8) fun g7 w9 hs9 => ?_
  refine St_api_ID hs9 fun w10 hs10 => ?_
  refine ld1_i (v := upV g2 g3 g5 g6) (Sep.blk hs10.p1) rfl ?_
  simp only [L_api_ID (Sep.blk hs10)]
  refine calV_mk (by kernel_rfl) (cal_i (counts1_spec hi hok hr hv hn m t.root w10 _ _ has_root (by omega) (Sep.pick hs10 [1, 2, 4, 5, 3, 0] 6)) ?_)
  rintro _ w11 ⟨rfl, hs11⟩
  refine ld1_i (v := .map (some gmm)) (Sep.blk hs11.p1) rfl ?_
  exact hR _ _ ⟨gmm, rfl, Sep.pick hs11 [4] 6⟩
open Classical in
/-- A name's count: none, if the bag may not be. -/
noncomputable def cntB (t : Tr) (N : List TN) (V : List Vt) (k : Vec 32) : Int := if bagOk V then cntT t N V k else 0
theorem cnt_no {k : Vec 32} (h : has t N k ≠ true) : cntT t N V k = 0 := by
  unfold cntT
  refine sum_zero _ _ fun v _ => if_neg fun hu => h (under_has hu).2
theorem under_top (hw : TrW t N) {k : Vec 32} (hk : has t N k = true) : under t N k t.root = true := by
  rw [under_path hk has_root]
  simp
theorem cF_root (hw : TrW t N) (V : List Vt) (k : Vec 32) : ((cF t N V t.root fun _ => none) k).getD (.int .i64 0) = .int .i64 (cntT t N V k) := by
  unfold cF
  by_cases hk : has t N k = true
  · rw [if_pos (under_top hw hk)]; rfl
  · rw [if_neg fun hu => hk (under_has hu).1, cnt_no hk]; rfl
theorem oCount_spec (hi : TM t N m) (hr : ToR w.heap g gt gm gs ov p t N c S) (hv : Rows' Q_api_Vote w.heap v V) (hl : V.length ≤ 1000000) (hn : N.length ≤ 1000000) (k : Vec 32) :
    cal P f_topo_Topo_Count [ptr g, v, kv k] w fun r w' => r = .int .i64 (cntB t N V k) ∧ Fr [] w w' := by
  refine s_topo_Topo_Count fun R hR => ?_
  unfold c_topo_Topo_Count
  refine bxQ (Sep.start w) fun g5 w1 hs1 => ?_
  refine cal_i (onone_spec (hs1.to hr)) ?_
  rintro _ _ ⟨rfl, rfl⟩
  try simp only [fx, Nat.reduceAdd, forall_const]
  refine jn1_dup ?_
  refine cal_i (bgCheck_spec (hv.fr hs1.fr0) (by omega)) ?_
  rintro _ w2 ⟨rfl, hf2⟩
  have hs2 := hs1.old hf2
  try simp only [fx, Nat.reduceAdd, forall_const]
  rw [cnd_bool]
  refine ⟨fun h => ?_, fun h => ?_⟩
  · have hb : ¬ bagOk V := fun hb => by rw [bagE_ok hb] at h; cases h
    exact hR _ _ ⟨by rw [cntB, if_neg hb], hs2.fr0⟩
  · have hb : bagOk V := bagE_zero.1 (by simpa using h)
    have look : ∀ {z : World} {gmm : Nat} {K : Value → Prop}, Sep w z [mpF gmm (cF t N V t.root fun _ => none), blk g5 (Rdr.cells (rVec 32) k).toArray T_api_ID] → K (.int .i64 (cntT t N V k)) → rdP P (Instr.lookup T_map_api_ID_int (.map (some gmm)) (kv k) false) z K := fun {z gmm K} hz hk => by
      rw [lookF1 U_map_api_ID_int KT zInt (mpF_rd hz) k, cF_root hi.w]
      exact hk
    refine drH_S hs2 fun w3 hs3 _ => ?_
    refine ⟨fun v z => v = .int .i64 (cntT t N V k) ∧ Fr [] w z, ⟨?_, ?_, trivial⟩, ?_⟩
    · refine efC_cut (cal_i (oCounts_spec hi hb (hs3.to hr) (hv.fr hs3.fr0) hn) ?_)
      rintro _ w4 ⟨gmm, rfl, hs4⟩
      have hs5 := hs3.join hs4
      refine ⟨fun u => Sep w u _, hs5, ?_⟩
      refine ⟨kv k, fun u hu => (L_api_ID (Sep.blk hu.p1) _).mpr rfl, ?_⟩
      refine ⟨.int .i64 (cntT t N V k), fun u hu => look hu rfl, ?_⟩
      exact ⟨rfl, hs5.fr0⟩
    · refine ⟨kv k, fun u hu => (L_api_ID (Sep.blk hu) _).mpr rfl, ?_⟩
      refine efC_cut (cal_i (oCounts_spec hi hb (hs3.to hr) (hv.fr hs3.fr0) hn) ?_)
      rintro _ w4 ⟨gmm, rfl, hs4⟩
      have hs5 := hs3.join hs4
      refine ⟨fun u => Sep w u _, hs5, ?_⟩
      refine ⟨.int .i64 (cntT t N V k), fun u hu => look hu rfl, ?_⟩
      exact ⟨rfl, hs5.fr0⟩
    · rintro _ w5 ⟨rfl, hf5⟩ _
      exact hR _ _ ⟨by rw [cntB, if_pos hb], hf5⟩
/-- The child with the most. -/
theorem oBest_spec {gmm : Nat} {F : Vec 32 → Option Value} {f : Vec 32 → Int} {k : Vec 32} (hi : TM t N m) (hr : ToR w.heap g gt gm gs ov p t N c S) (hm : MpR w.heap gmm F) (hF : ∀ q ∈ kidsT t N k, F q = some (.int .i64 (f q))) (hn : N.length ≤ 1000000) :
    cal P f_topo_Topo_best [ptr g, .map (some gmm), kv k] w fun r w' => r = .tuple #[kv (bestT f (kidsT t N k)).1, .int .i64 (bestT f (kidsT t N k)).2] ∧ Fr [] w w' := by
  refine s_topo_Topo_best fun R hR => ?_
  unfold c_topo_Topo_best
  refine bx_s (Sep.start w) fun g4 w1 hs1 => ?_
  replace hs1 : Sep w w1 [blk g4 #[.map (some gmm)] T_map_api_ID_int] := hs1
  refine bxQ hs1 fun g5 w2 hs2 => ?_
  refine alloc_s hs2 (A_api_ID w2) fun g6 w3 hs3 => ?_
  refine alloc_s hs3 (A_api_ID w3) fun g8 w4 hs4 => ?_
  refine alloc_s hs4 (al_int w4) fun g9 w5 hs5 => ?_
  refine st1_s hs5 (by simp) rfl fun w6 hs6 => ?_
  refine drH_S hs6 fun w7 hs7 _ => ?_
  try simp only [fx, Nat.reduceAdd, forall_const]
  refine rdS_ld (v := ptr gt) (fun u hu K hk => (hu.to hr).ldt K hk) ?_
  refine ⟨kv k, fun u hu => (L_api_ID (Sep.blk hu.p3) _).mpr rfl, ?_⟩
  refine efC_cal (cal_i (Kids_spec (hs7.to hr).tr hn hi.nd k) ?_)
  rintro _ w8 ⟨g1, v1, rfl, hg⟩
  replace hg : Sep w7 w8 [blk g1 #[v1] T_sl_api_ID, rows (rVec 32) v1 (kidsT t N k)] := hg
  obtain ⟨kids, hkids⟩ : ∃ l, l = kidsT t N k := ⟨_, rfl⟩
  rw [← hkids] at hg hF hR
  have hkl : kids.length ≤ 1000000 := by
    rw [hkids]
    exact Nat.le_trans (kids_len t N k) hn
  have hs8 := hs7.join hg
  have hs9 := Sep.pick hs8 [2, 3, 4, 0, 1, 6] 7
  obtain ⟨X, hX⟩ : ∃ X : Nat → List Asn, X = fun i => [blk g9 #[.int .i64 (bestT f (kids.take i)).2] T_int, blk g8 (Rdr.cells (rVec 32) (bestT f (kids.take i)).1).toArray T_api_ID, blk g6 (Rdr.cells (rVec 32) (vz 32)).toArray T_api_ID, blk g1 #[v1] T_sl_api_ID, rows (rVec 32) v1 kids, blk g4 #[.map (some gmm)] T_map_api_ID_int] := ⟨_, rfl⟩
  have hX0 : Sep w w8 (X 0) := by
    rw [hX]
    simp only [List.take_zero]
    exact hs9
  refine rng_s hX0 (told1_iter (v := v1) (g1 := g1) hkl) (fun i z args ⟨x, _, h⟩ => by rw [h]; rfl) (fun i Bs => Bs = X i) (fun _ _ => False) rfl ?_ ?_ ?_ ?_
  · rintro i Bs Ls' z rfl hz
    rw [hX] at hz
    exact ⟨⟨_, _, Sep.blk hz.p3⟩, Sep.rows (Sep.pick hz [4] 5)⟩
  · rintro i _ z _ LR LB bg fin hlt rfl ⟨x, hx, rfl⟩ hz hbg hfn _
    have hxm := List.mem_of_getElem? hx
    have htk : kids.take (i + 1) = kids.take i ++ [x] := by rw [List.take_add_one, hx]; rfl
    obtain ⟨b, hb⟩ : ∃ b, b = bestT f (kids.take i) := ⟨_, rfl⟩
    have hstep : bestT f (kids.take (i + 1)) = if b.2 < f x ∨ (f x = b.2 ∧ 0 < b.2 ∧ ltV x b.1 = true) then (x, f x) else b := by
      rw [htk, hb]
      unfold bestT
      rw [List.foldl_append]
      rfl
    refine alloc_s hz (A_api_ID z) fun g10 za hza => ?_
    simp only [List.getD_cons_zero]
    refine St_api_ID (b := x) hza fun zb hzb => ?_
    rw [← List.cons_append] at hzb
    refine hbg zb _ _ hzb fun z1 hz1 => ?_
    rw [hX] at hz1
    simp only [List.cons_append, List.nil_append, ← hb] at hz1
    refine ld1_i (v := .map (some gmm)) (Sep.blk (Sep.pick hz1 [6] 7)) rfl ?_
    simp only [L_api_ID hz1.blk]
    have hmz : MpR z1.heap gmm F := hm.fr hz1.fr0
    rw [lookF1 U_map_api_ID_int KT zInt hmz x, hF x hxm]
    simp only [Option.getD_some]
    have rd9 : ∀ {K : Value → Prop}, K (.int .i64 b.2) → ld1 (.pointer (some ⟨g9, 0, none⟩)) z1.heap K := fun hk => ld1_i (Sep.blk hz1.p1) rfl hk
    have rd8 : ∀ {K : Value → Prop}, K (kv b.1) → ldN 32 (.pointer (some ⟨g8, 0, none⟩)) z1.heap K := fun hk => (L_api_ID (Sep.blk hz1.p2) _).mpr hk
    refine rd9 ?_
    try simp only [fx, Nat.reduceAdd, forall_const]
    -- the guarded operations, one by one
    have hend : ∀ z2, Sep w z2 (blk g10 (Rdr.cells (rVec 32) x).toArray T_api_ID :: (X i ++ LB)) → cnd (.bool (decide (b.2 < f x ∨ (f x = b.2 ∧ 0 < b.2 ∧ ltV x b.1 = true)))) (ldN 32 (.pointer (some ⟨g10, 0, none⟩)) z2.heap fun t39 => stN 32 (.pointer (some ⟨g8, 0, none⟩)) t39 z2 fun w => st1 (.pointer (some ⟨g9, 0, none⟩)) (.int .i64 (f x)) w fun w => fin none w) (fin none z2) := fun z2 hz2 => by
      rw [hX] at hz2
      simp only [List.cons_append, List.nil_append, ← hb] at hz2
      rw [cnd_bool]
      refine ⟨fun h => ?_, fun h => ?_⟩
      · have h := of_decide_eq_true h
        rw [if_pos h] at hstep
        simp only [L_api_ID hz2.blk]
        refine St_api_ID (b := x) hz2.p2 fun z3 hz3 => ?_
        refine st1_s hz3.p2 (by simp) rfl fun z4 hz4 => ?_
        refine hfn z4 _ rfl ?_
        rw [hX]
        simp only [List.cons_append, List.nil_append, hstep]
        exact Sep.pick hz4 [0, 1, 3, 4, 5, 6] 7
      · have h := of_decide_eq_false h
        rw [if_neg h] at hstep
        refine hfn z2 _ rfl ?_
        rw [hX]
        simp only [List.cons_append, List.nil_append, hstep]
        exact hz2.tail
    have hz1' : Sep w z1 (blk g10 (Rdr.cells (rVec 32) x).toArray T_api_ID :: (X i ++ LB)) := by
      rw [hX]
      simp only [List.cons_append, List.nil_append, ← hb]
      exact hz1
    by_cases h1 : b.2 < f x
    · have e1 : decide (f x > b.2) = true := decide_eq_true h1
      have := hend z1 hz1'
      rw [decide_eq_true (Or.inl h1)] at this
      simp only [e1, fx, Nat.reduceAdd, forall_const] at this ⊢
      exact this
    · have e1 : decide (f x > b.2) = false := decide_eq_false h1
      simp only [e1, fx, Nat.reduceAdd, forall_const]
      refine jn1_dup ?_
      refine rd9 ?_
      try simp only [fx, Nat.reduceAdd, forall_const]
      by_cases h2 : f x = b.2
      case neg =>
        have e2 : (f x == b.2) = false := beq_eq_false_iff_ne.2 h2
        have := hend z1 hz1'
        rw [decide_eq_false (by rintro (h | h); · exact h1 h
                                · exact h2 h.1)] at this
        simp only [e2, fx, Nat.reduceAdd, forall_const] at this ⊢
        exact this
      have e2 : (f x == b.2) = true := beq_iff_eq.2 h2
      simp only [e2, fx, Nat.reduceAdd, forall_const]
      refine jn1_dup ?_
      refine rd9 ?_
      try simp only [fx, Nat.reduceAdd, forall_const]
      by_cases h3 : 0 < b.2
      case neg =>
        have e3 : decide (b.2 > 0) = false := decide_eq_false h3
        have := hend z1 hz1'
        rw [decide_eq_false (by rintro (h | h); · exact h1 h
                                · exact h3 h.2.1)] at this
        simp only [e3, fx, Nat.reduceAdd, forall_const] at this ⊢
        exact this
      have e3 : decide (b.2 > 0) = true := decide_eq_true h3
      simp only [e3, fx, Nat.reduceAdd, forall_const]
      refine jn1_dup ?_
      simp only [L_api_ID hz1.blk]
      refine rd8 ?_
      refine cal_i (bgLess_spec x b.1) ?_
      rintro _ z2 ⟨rfl, hf2⟩
      have hz2 := hz1'.old hf2
      have := hend z2 hz2
      rw [show decide (b.2 < f x ∨ (f x = b.2 ∧ 0 < b.2 ∧ ltV x b.1 = true)) = ltV x b.1 by
        cases hl : ltV x b.1 with
        | true => exact decide_eq_true (.inr ⟨h2, h3, rfl⟩)
        | false => exact decide_eq_false (by rintro (h | h); · exact h1 h
                                             · cases h.2.2)] at this
      try simp only [fx, Nat.reduceAdd, forall_const] at this ⊢
      exact this
  · rintro D _ z2 rfl hz
    rw [hX] at hz
    simp only [List.take_length] at hz
    refine .inl ⟨rfl, ?_⟩
    refine ⟨fun u => ∃ a, Sep w u [.obj D dfB, blk g9 #[.int .i64 (bestT f kids).2] T_int, blk g8 (Rdr.cells (rVec 32) (bestT f kids).1).toArray T_api_ID, blk g6 (Rdr.cells (rVec 32) a).toArray T_api_ID, blk g1 #[v1] T_sl_api_ID, rows (rVec 32) v1 kids, blk g4 #[.map (some gmm)] T_map_api_ID_int], ⟨_, hz.drew _⟩, ?_⟩
    refine ⟨kv (bestT f kids).1, fun u ⟨a, hu⟩ => (L_api_ID (Sep.blk hu.p2) _).mpr rfl, ?_⟩
    refine rdS_ld (v := .int .i64 (bestT f kids).2) (fun u ⟨a, hu⟩ K hk => ld1_i (Sep.blk hu.p1) rfl hk) ?_
    refine efS_i (St_api_ID (b := (bestT f kids).1) (hz.drew _).p3 fun z4 hz4 => ⟨⟨_, Sep.pick hz4 [1, 2, 3, 0] 4⟩, ?_⟩)
    refine takeD_s (Sep.p1 hz4) fun z5 hz5 => ?_
    simp only [L_api_ID (Sep.blk hz5)]
    exact hR _ _ ⟨rfl, hz5.fr0⟩
  · rintro D j _ z2 hf _
    exact hf.elim
end
end Go.Fx
