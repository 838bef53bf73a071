/-
  What is proved: for all arguments the law TopoStays returns true, and its arguments read as they did. Conditions: none.
-/
import Derived.KernelRfl
import Derived.Test.YtpdnddcodnpmeaaGreatDoorRows
import Derived.WalkKit
import Derived.ProofKit
import Derived.OpenShut
import Derived.ChangeOld
import Derived.Below
import Derived.Carry
import Derived.Test.YtpdnddcodnpmeaaGreatDoorCards
import Derived.Test.YtpdnddcodnpmeaaGreatDoorTie
import Derived.LaidMore
import Derived.Stop.Joined
import Derived.Test.YtpdnddcodnpmeaaGreatDoorQ4db73ae8
import Derived.Test.YtpdnddcodnpmeaaGreatDoorQd5ec66e2
import Derived.Test.YtpdnddcodnpmeaaGreatDoorQ9768f012
import Derived.Test.YtpdnddcodnpmeaaGreatDoorQ952b5fe2
import Derived.Test.YtpdnddcodnpmeaaGreatDoorQ855ca3e0
import Derived.Test.YtpdnddcodnpmeaaGreatDoorQd3b58593
import Derived.Test.YtpdnddcodnpmeaaGreatDoorQ15a7199f
import Derived.Test.YtpdnddcodnpmeaaGreatDoorQ32d01978
import Derived.Test.YtpdnddcodnpmeaaGreatDoorQ0ec6ddef
import Derived.Test.YtpdnddcodnpmeaaGreatDoorQ330fd3d3
set_option linter.unusedVariables false
set_option linter.unusedSimpArgs false
namespace Go.Fx
/-- The map of what was polled. -/
def polF (l : List (Vec 32)) : Vec 32 → Option Value := fun k => if k ∈ l then some (.bool true) else none
theorem polF_nil : polF [] = fun _ => none := by funext k; simp [polF]
theorem polF_cons (k : Vec 32) (l : List (Vec 32)) : updF (polF l) k (.bool true) = polF (k :: l) := by
  funext q
  unfold updF polF
  by_cases h : q = k <;> simp [h]
theorem svF_some {S : SV} {k : Vec 32} {v : Value} (h : svF S k = some v) : ∃ q, S k = some q ∧ v = snv q.1 q.2 := by
  obtain ⟨q, hq, rfl⟩ := Option.map_eq_some_iff.1 h
  exact ⟨q, hq, rfl⟩
section
variable {w0 w w' : World} {As Ys : List Asn} {g gt gm gs c gp : Nat} {ov : Value} {p : Par} {t : Tr} {N : List TN} {S : SV} {m : Nat} {V : List Vt} {pol : List (Vec 32)}
theorem oFails_spec (hs : Sep w0 w (toH g gt gm gs ov p t N c S ++ As)) (hd : Dat N As) (hsd : SDat S Ys) (hYA : ∀ A ∈ Ys, A ∈ As) (hmay : ∀ k x, svM S k = some x → May p x) (hpol : ∀ z, Sep w0 z As → MpR z.heap gp (polF pol)) :
    cal P f_topo_Topo_fails [ptr g, .map (some gp)] w fun r w' => r = .tuple #[] ∧ ∃ gs' S' E, svM S' = failS p t N (svM S) pol ∧ SDat S' (E ++ Ys) ∧ Sep w0 w' (toH g gt gm gs' ov p t N c S' ++ (E ++ As)) := by
  refine s_topo_Topo_fails fun R hR => ?_
  unfold c_topo_Topo_fails
  refine makeK_s (n := 32) hs fun gs' w1 hs1 => ?_
  replace hs1 : Sep w0 w1 (mpK gs' (svF fun _ => none) :: blk g (Rdr.cells Q_topo_Topo (toq p gt gs)).toArray T_topo_Topo :: mpK gs (svF S) :: (trH gt gm ov t N c ++ As)) := hs1
  try simp only [fx, Nat.reduceAdd, forall_const, L_topo_Topo (Sep.blk hs1.p1), L_topo_Topo__inner (Sep.blk hs1.p1), L_topo_Topo__p (Sep.blk hs1.p1), L_topo_Topo__p_K (Sep.blk hs1.p1), L_topo_Topo__p_AlphaPref (Sep.blk hs1.p1), L_topo_Topo__p_AlphaConf (Sep.blk hs1.p1), L_topo_Topo__p_Beta (Sep.blk hs1.p1), L_topo_Topo__snows (Sep.blk hs1.p1)]
  obtain ⟨l, cc, hl, hs1⟩ := mpK_open hs1.p2
  refine range_s U_map_api_ID_api_Snow hs1 hs1.map fun gi w2 hs2 => ?_
  have key : ∀ {z : World} {D : List (Ent 32)} {S2 : SV} {E Ls : List Asn}, Sep w0 z (mit gi gs cc D :: mp gs l cc :: mpK gs' (svF S2) :: blk g (Rdr.cells Q_topo_Topo (toq p gt gs)).toArray T_topo_Topo :: (trH gt gm ov t N c ++ (E ++ As))) →
      z.heap[gs]? = some (.map (ents l) cc) := fun h => h.p1.map
  refine ⟨fun z => ∃ (D U : List (Ent 32)) (S2 : SV) (E : List Asn), RngK l cc D U ∧ (∀ k, svM S2 k = if k ∈ D.map (·.1) then failS p t N (svM S) pol k else none) ∧ SDat S2 (E ++ Ys) ∧
    Sep w0 z (mit gi gs cc D :: mp gs l cc :: mpK gs' (svF S2) :: blk g (Rdr.cells Q_topo_Topo (toq p gt gs)).toArray T_topo_Topo :: (trH gt gm ov t N c ++ (E ++ As))), fun z => l.length - itSeenK gi z,
    ⟨[], l, fun _ => none, [], ⟨List.Perm.refl _⟩, fun k => by simp [svM], (fun k q h => by cases h), hs2⟩, ?_⟩
  rintro w3 ⟨D, U, S2, E, hD, hS2, hsd2, hs3⟩ -
  have hseen : ∀ {z : World} {D : List (Ent 32)} {Bs : List Asn}, Sep w0 z (mit gi gs cc D :: Bs) → itSeenK gi z = D.length := fun h => by
    unfold itSeenK
    rw [Sep.objAt h]
    simp
  refine next_s (E := l) (D := D) hs3 hs3.p1.map hl.ok.lt (fun hall => ?_) fun x w4 hx hxn hm4 hs4 => ?_
  · simp only [fx, Nat.reduceAdd, forall_const]
    obtain rfl := hD.end hl hall
    refine St_topo_Topo__snows (b := .map (some gs')) (Sep.p3 hs3) rfl fun w4 hs4 => ?_
    refine hR _ _ ⟨rfl, gs', S2, E, ?_, hsd2, Sep.pick hs4 [0, 3] 4⟩
    funext k
    rw [hS2]
    split
    · rfl
    · rename_i hk
      have := mt (hD.keys hl k).2 hk
      have hn : svM S k = none := by
        unfold svM svF at *
        cases hq : S k with
        | none => rfl
        | some q => rw [hq] at this; simp at this
      unfold failS
      rw [hn]
      simp
  · obtain ⟨⟨U', hD', hU'⟩, hfx, hxD⟩ := hD.next hl hx hxn
    obtain ⟨⟨v, y⟩, hq, hxv⟩ := svF_some hfx
    have hmy := hmay x.1 y (by unfold svM; rw [hq]; rfl)
    have hyl : y.l.length ≤ 1000000 := by have := hmy.n2; omega
    try simp only [fx, Nat.reduceAdd, forall_const]
    rw [entry_i (h := w4.heap) (Sep.objAt hs4) hm4 hx hl.ok.nd, hxv]
    try simp only [fx, Nat.reduceAdd, forall_const]
    have hrow : ∀ {z : World} {Xs E : List Asn}, Sep w0 z (Xs ++ (E ++ As)) → Rows' Q_api_Choice z.heap v y.l := fun {z Xs E} h => by
      obtain ⟨F, hF⟩ := h.onL (A := rows Q_api_Choice v y.l) (List.mem_append_right _ (List.mem_append_right _ (hYA _ (hsd x.1 (v, y) hq))))
      exact Own.cel hF
    have hlen : D.length + U.length = l.length := by
      have := hD.pm.length_eq
      simpa using this
    refine alloc_s hs4 (A_api_ID w4) fun g5 w5 hs5 => ?_
    refine alloc_s hs5 (A_api_Snow w5) fun g6 w6 hs6 => ?_
    refine St_api_ID (b := x.1) hs6.p1 fun w7 hs7 => ?_
    refine St_api_Snow (b := snr v y) hs7.p1 (one_api_Snow (hrow (Xs := [_, _, _, _, _, _, _, _, _]) hs7).one1) fun w8 hs8 => ?_
    have trR : ∀ {z : World} {Xs E : List Asn}, Sep w0 z (Xs ++ (trH gt gm ov t N c ++ (E ++ As))) → TrR z.heap gt gm ov t N c := fun {z Xs E} h => trH_rd (Sep.rot h |>.perm (by rw [List.append_assoc])) (hd.sub fun A hA => List.mem_append_left _ (List.mem_append_right _ hA))
    refine drH_S hs8 fun w9 hs9 _ => ?_
    refine rdS_ld (v := ptr gt) (fun u hu K hk => (L_topo_Topo__inner (Sep.blk (Sep.p5 hu)) K).mpr hk) ?_
    refine ⟨kv x.1, fun u hu => (L_api_ID (Sep.blk hu.p1) _).mpr rfl, ?_⟩
    refine efC_cal (cal_i (Has_spec (trR (Xs := [_, _, _, _, _, _]) hs9) x.1) ?_)
    rintro _ w10 ⟨rfl, hf10⟩
    have hs10 := hs9.old hf10
    try simp only [fx, Nat.reduceAdd, forall_const]
    have hmu : ∀ {z : World} {Bs : List Asn}, Sep w0 z (mit gi gs cc (D ++ [x]) :: Bs) → l.length - itSeenK gi z < l.length - itSeenK gi w3 := fun h => by
      rw [hseen h, hseen hs3, List.length_append, List.length_singleton]
      omega
    rw [cnd_bool]
    refine ⟨fun h => ?_, fun h => ?_⟩
    · have hno : has t N x.1 ≠ true := by simpa using h
      have hs11 := hs10.tail.tail
      refine ⟨⟨D ++ [x], U', S2, E, hD', fun k => ?_, hsd2, hs11⟩, hmu hs11⟩
      rw [hS2]
      by_cases hk : k ∈ D.map (·.1)
      · rw [if_pos hk, if_pos (by rw [List.map_append]; exact List.mem_append_left _ hk)]
      · rw [if_neg hk]
        split
        · rename_i hk2
          rw [List.map_append, List.mem_append] at hk2
          have : k = x.1 := by simpa using hk2.resolve_left hk
          unfold failS
          rw [this, if_neg hno]
        · rfl
    · have hyes : has t N x.1 = true := by simpa using h
      have hfin : ∀ (z : World) (v' : Value) (E' : List Asn), rows Q_api_Choice v' (if x.1 ∈ pol then y else (failM p y).1).l ∈ E' ++ Ys → (∀ A ∈ E ++ Ys, A ∈ E' ++ Ys) →
          Sep w0 z (blk g6 (Rdr.cells Q_api_Snow (snr v' (if x.1 ∈ pol then y else (failM p y).1))).toArray T_api_Snow :: blk g5 (Rdr.cells (rVec 32) x.1).toArray T_api_ID :: mit gi gs cc (D ++ [x]) :: mp gs l cc :: mpK gs' (svF S2) :: blk g (Rdr.cells Q_topo_Topo (toq p gt gs)).toArray T_topo_Topo :: (trH gt gm ov t N c ++ (E' ++ As))) →
          ldN 32 (.pointer (some ⟨g5, 0, none⟩)) z.heap fun t44 => ldN 67 (.pointer (some ⟨g6, 0, none⟩)) z.heap fun t45 => efU P (Instr.mapUpdate T_map_api_ID_api_Snow (.map (some gs')) t44 t45) z fun z' =>
            (∃ (D U : List (Ent 32)) (S2 : SV) (E : List Asn), RngK l cc D U ∧ (∀ k, svM S2 k = if k ∈ D.map (·.1) then failS p t N (svM S) pol k else none) ∧ SDat S2 (E ++ Ys) ∧
              Sep w0 z' (mit gi gs cc D :: mp gs l cc :: mpK gs' (svF S2) :: blk g (Rdr.cells Q_topo_Topo (toq p gt gs)).toArray T_topo_Topo :: (trH gt gm ov t N c ++ (E ++ As)))) ∧ l.length - itSeenK gi z' < l.length - itSeenK gi w3 := fun z v' E' hE' hsub hz => by
        simp only [L_api_ID (Sep.blk hz.p1), L_api_Snow (Sep.blk hz), L_api_Snow__List (Sep.blk hz), L_api_Snow__Pref (Sep.blk hz), L_api_Snow__Flake (Sep.blk hz), L_api_Snow__Conf (Sep.blk hz), L_api_Snow__Done (Sep.blk hz)]
        refine putK_s U_map_api_ID_api_Snow KT (Sep.p4 hz) fun z' hz' => ?_
        have e0 := svF_upd S2 x.1 (v', if x.1 ∈ pol then y else (failM p y).1)
        replace hz' := Sep.pick (hz') [3, 4, 0] 5
        rw [e0] at hz'
        refine ⟨⟨D ++ [x], U', _, E', hD', fun k => ?_, fun k q hkq => ?_, hz'⟩, hmu hz'⟩
        · rw [svM_upd]
          unfold updS
          by_cases hkx : k = x.1
          · subst hkx
            have hm : x.1 ∈ (D ++ [x]).map (·.1) := by
              rw [List.map_append]
              exact List.mem_append_right _ (by simp)
            rw [if_pos rfl, if_pos hm]
            unfold failS
            rw [if_pos hyes]
            unfold svM
            rw [hq]
            rfl
          · rw [if_neg hkx, hS2]
            have : k ∈ (D ++ [x]).map (·.1) ↔ k ∈ D.map (·.1) := by
              rw [List.map_append, List.mem_append]
              exact ⟨fun h => h.resolve_right (by simpa using hkx), .inl⟩
            by_cases hk : k ∈ D.map (·.1)
            · rw [if_pos hk, if_pos (this.2 hk)]
            · rw [if_neg hk, if_neg (mt this.1 hk)]
        · unfold updV at hkq
          split at hkq
          · simp only [Option.some.injEq] at hkq
            subst hkq
            exact hE'
          · exact hsub _ (hsd2 k q hkq)
      refine ⟨fun z => ∃ v' E', rows Q_api_Choice v' (if x.1 ∈ pol then y else (failM p y).1).l ∈ E' ++ Ys ∧ (∀ A ∈ E ++ Ys, A ∈ E' ++ Ys) ∧
          Sep w0 z (blk g6 (Rdr.cells Q_api_Snow (snr v' (if x.1 ∈ pol then y else (failM p y).1))).toArray T_api_Snow :: blk g5 (Rdr.cells (rVec 32) x.1).toArray T_api_ID :: mit gi gs cc (D ++ [x]) :: mp gs l cc :: mpK gs' (svF S2) :: blk g (Rdr.cells Q_topo_Topo (toq p gt gs)).toArray T_topo_Topo :: (trH gt gm ov t N c ++ (E' ++ As))), ?_, ?_⟩
      case refine_2 =>
        rintro z ⟨v', E', hE', hsub, hz⟩ _
        exact hfin z v' E' hE' hsub hz
      simp only [L_api_ID (Sep.blk hs10.p1)]
      have hpz : ∀ {z : World} {Xs E : List Asn}, Sep w0 z (Xs ++ (E ++ As)) → MpR z.heap gp (polF pol) := fun {z Xs E} h => hpol z (by rw [← List.append_assoc] at h; exact Sep.dropL h)
      rw [lookF1 U_map_api_ID_bool KT zBool (hpz (Xs := [_, _, _, _, _, _, _, _, _]) hs10) x.1]
      by_cases hpx : x.1 ∈ pol
      · have e1 : (polF pol x.1).getD (.bool false) = .bool true := by unfold polF; rw [if_pos hpx]; rfl
        simp only [e1, fx, Nat.reduceAdd, forall_const]
        refine ⟨v, E, by rw [if_pos hpx]; exact List.mem_append_right _ (hsd x.1 (v, y) hq), fun _ h => h, by rw [if_pos hpx]; exact hs10⟩
      · have e1 : (polF pol x.1).getD (.bool false) = .bool false := by unfold polF; rw [if_neg hpx]; rfl
        simp only [e1, fx, Nat.reduceAdd, forall_const]
        have hok : (failM p y).2 = 0 := failM_ok (may_iff.2 hmy)
        rw [if_neg hpx]
        refine drH_S hs10 fun w11 hs11 _ => ?_
        refine ⟨fun a b z => ∃ g7 v', a = ptr g7 ∧ b = .int .i64 0 ∧ Sep w0 z (blk g7 (Rdr.cells Q_api_Snow (snr v' (failM p y).1)).toArray T_api_Snow :: rows Q_api_Choice v' (failM p y).1.l :: blk g6 (Rdr.cells Q_api_Snow (snr v y)).toArray T_api_Snow :: blk g5 (Rdr.cells (rVec 32) x.1).toArray T_api_ID :: mit gi gs cc (D ++ [x]) :: mp gs l cc :: mpK gs' (svF S2) :: blk g (Rdr.cells Q_topo_Topo (toq p gt gs)).toArray T_topo_Topo :: (trH gt gm ov t N c ++ (E ++ As))), ?_, ?_⟩
        · refine ⟨pav p, fun u hu => (L_topo_Topo__p (Sep.blk (Sep.p5 hu)) _).mpr rfl, ?_⟩
          refine ⟨snv v y, fun u hu => (L_api_Snow (Sep.blk hu) _).mpr rfl, ?_⟩
          have hr11 : ∀ {z : World} {Xs : List Asn}, Sep w0 z (Xs ++ (E ++ As)) → Rows' Q_api_Choice z.heap v y.l := fun h => hrow h
          have h1v := (hr11 (Xs := [_, _, _, _, _, _, _, _, _]) hs11).one1
          refine ⟨?_, ?_, trivial⟩
          · refine efC_cut (cal_i (snFail_spec (hr11 (Xs := [_, _, _, _, _, _, _, _, _]) hs11) hyl h1v) ?_)
            rintro _ w12 ⟨v', rfl, hs12⟩
            have hs13 := hs11.join hs12
            refine ⟨fun u => Sep w0 u _, hs13, ?_⟩
            try simp only [fx, Nat.reduceAdd, forall_const]
            refine efS_i (alloc_s hs13 (A_api_Snow w12) fun g7 w14 hs14 => ⟨hs14.tail, ?_⟩)
            refine efC_stN (St_api_Snow (b := snr v' (failM p y).1) hs14 (one_api_Snow (Sep.oneR hs14.p1)) fun w15 hs15 => ?_)
            exact ⟨g7, v', rfl, by rw [hok], hs15⟩
          · refine efS_i (alloc_s hs11 (A_api_Snow w11) fun g7 w12 hs12 => ⟨hs12.tail, ?_⟩)
            refine efC_cal (cal_i (snFail_spec (hr11 (Xs := [_, _, _, _, _, _, _, _, _, _]) hs12) hyl h1v) ?_)
            rintro _ w13 ⟨v', rfl, hs13⟩
            have hs14 := hs12.join hs13
            try simp only [fx, Nat.reduceAdd, forall_const]
            refine efC_stN (St_api_Snow (b := snr v' (failM p y).1) hs14.p1 (one_api_Snow (Sep.oneR hs14)) fun w15 hs15 => ?_)
            exact ⟨g7, v', rfl, by rw [hok], hs15⟩
        · rintro _ _ w12 ⟨g7, v', rfl, rfl, hs12⟩ _
          try simp only [fx, Nat.reduceAdd, forall_const, show ((0 : Int) == 0) = true from rfl, L_api_Snow (Sep.blk hs12), L_api_Snow__List (Sep.blk hs12), L_api_Snow__Pref (Sep.blk hs12), L_api_Snow__Flake (Sep.blk hs12), L_api_Snow__Conf (Sep.blk hs12), L_api_Snow__Done (Sep.blk hs12)]
          refine St_api_Snow (b := snr v' (failM p y).1) hs12.p2 (one_api_Snow (Sep.oneR hs12.p1)) fun w13 hs13 => ?_
          refine ⟨v', rows Q_api_Choice v' (failM p y).1.l :: E, by simp, fun A hA => by rw [List.cons_append]; exact List.mem_cons_of_mem _ hA, ?_⟩
          exact Sep.pick hs13 [0, 3, 4, 5, 6, 7, 8, 9, 10, 2] 11
end
end Go.Fx
set_option linter.unusedVariables false
set_option linter.unusedSimpArgs false
namespace Go.Fx
theorem sumV_good {V : List Vt} (h : bagOk V) : sumV (goodV V) = sumV V := by rw [goodV, if_pos h]
/-- What a poll comes to; none: it is refused, and why. -/
structure PollOut (p : Par) (V : List Vt) (t : Tr) (N : List TN) (S : SM) (s : PS) : Prop where
  reach : Reach p V (ps0 t N S) s
  fin : pstep p V s = none
open Classical in
noncomputable def pollE (p : Par) (V : List Vt) : Int := if ¬ bagOk V then 70 else if p.1 < sumV V then 1 else 0
theorem pollE_ok {p : Par} {V : List Vt} (h : pollE p V = 0) : bagOk V ∧ sumV V ≤ p.1 := by
  unfold pollE at h
  split at h
  · cases h
  · rename_i h1
    split at h
    · cases h
    · rename_i h2
      exact ⟨Classical.not_not.1 h1, by omega⟩
/-- The least of what may be left. -/
noncomputable def leastN (A : Nat → Prop) : Nat := open Classical in if h : ∃ n, A n then Classical.choose (least_nat h) else 0
theorem leastN_spec {A : Nat → Prop} {n : Nat} (h : A n) : A (leastN A) ∧ leastN A ≤ n := by
  unfold leastN
  rw [dif_pos ⟨n, h⟩]
  have := Classical.choose_spec (least_nat ⟨n, h⟩)
  exact ⟨this.1, this.2 n h⟩
/-- A loop whose measure is of what is known, not of what is seen. -/
theorem lp2_least {D : Type} {a0 b0 : Value} {w0 : World} {body : Env → Value → Value → World → (Value → Value → World → Prop) → Prop} (I : D → Value → Value → World → Prop) (μ : D → Nat) (d0 : D) (h0 : I d0 a0 b0 w0)
    (hstep : ∀ d a b w (K : Value → Value → World → Prop), I d a b w → (∀ d' a' b' w', I d' a' b' w' → μ d' < μ d → K a' b' w') → ∀ junk, body junk a b w K) : lp2 a0 b0 w0 body := by
  refine ⟨fun a b w => ∃ d, I d a b w, fun a b w => leastN fun n => ∃ d, I d a b w ∧ μ d = n, ⟨d0, h0⟩, fun a b w ⟨d, hd⟩ junk => ?_⟩
  obtain ⟨⟨d1, h1, h2⟩, _⟩ := leastN_spec (A := fun n => ∃ d, I d a b w ∧ μ d = n) ⟨d, hd, rfl⟩
  refine hstep d1 a b w _ h1 (fun d' a' b' w' h' hlt => ⟨⟨d', h'⟩, ?_⟩) junk
  have := (leastN_spec (A := fun n => ∃ d, I d a' b' w' ∧ μ d = n) ⟨d', h', rfl⟩).2
  exact Nat.lt_of_le_of_lt this (Nat.lt_of_lt_of_eq hlt h2)
/-- What a poll leaves is what it was: names, counts. -/
structure RC (V : List Vt) (t : Tr) (N : List TN) (s : PS) : Prop where
  names : ∀ q, has s.t s.N q = true → has t N q = true
  cnt : ∀ q, has s.t s.N q = true → cntT s.t s.N V q = cntT t N V q
theorem Reach.rc {p : Par} {V : List Vt} {m : Nat} {t : Tr} {N : List TN} {a b : PS} (h : Reach p V a b) (hi : PI p m a) (hV : bagOk V) (hs : sumV V ≤ p.1) (hc : RC V t N a) : RC V t N b := by
  induction h with
  | refl => exact hc
  | step h1 h2 ih =>
    have hp := h1.pi hi hV hs
    rename_i b c
    unfold pstep at h2
    cases hx : b.S b.pos with
    | none => rw [hx] at h2; cases h2
    | some x =>
      rw [hx] at h2
      simp only at h2
      split at h2
      · rename_i hcnd
        obtain ⟨hk, _, _⟩ := hp.root_x hcnd.1 hx
        simp only [Option.some.injEq] at h2
        subst h2
        refine ⟨fun q hq => ?_, fun q hq => ?_⟩
        · have hq : has (mvT b.t b.N (prf x)) (mvN b.t b.N (prf x)) q = true := hq
          rw [mv_has_iff hp.tm.w hk] at hq
          exact ih.names q (under_has hq).1
        · have hq : has (mvT b.t b.N (prf x)) (mvN b.t b.N (prf x)) q = true := hq
          rw [mv_has_iff hp.tm.w hk] at hq
          show cntT (mvT b.t b.N (prf x)) (mvN b.t b.N (prf x)) V q = _
          rw [mv_cnt hp.tm hk V hq]
          exact ih.cnt q (under_has hq).1
      · split at h2
        · cases h2
        · simp only [Option.some.injEq] at h2
          subst h2
          exact ⟨ih.names, ih.cnt⟩
theorem RC.start (V : List Vt) (t : Tr) (N : List TN) (S : SM) : RC V t N (ps0 t N S) := by
  refine ⟨fun q hq => ?_, fun q hq => ?_⟩
  · have hq : has t (sN N) q = true := hq
    rwa [kb_has (sN_kbs N)] at hq
  · show cntT t (sN N) V q = _
    exact kb_cntT (sN_kbs N) V q
section
variable {w0 w w' : World} {As : List Asn} {g gt gm gs c gp : Nat} {ov v : Value} {p : Par} {t : Tr} {N : List TN} {S : SV} {m : Nat} {V : List Vt}
/-- A poll under way, in memory. -/
def PL (w0 : World) (As : List Asn) (g gt gm gs gp gmm g11 c : Nat) (p : Par) (t0 : Tr) (N0 : List TN) (V : List Vt) (s : PS) (N : List TN) (S : SV) (ov : Value) (E Ys : List Asn) (a b : Value) (z : World) : Prop :=
  s.N = sN N ∧ (∀ x ∈ N, x ∈ N0) ∧ svM S = s.S ∧ SDat S (E ++ Ys) ∧
    Sep w0 z (blk g (Rdr.cells Q_topo_Topo (toq p gt gs)).toArray T_topo_Topo :: mpK gs (svF S) :: blk gt (Rdr.cells Q_tree_Tree (tq s.t gm ov)).toArray T_tree_Tree :: mpN gm N c :: rows (rVec 32) ov (N.map (·.1)) ::
      rows (rVec 32) a s.acc :: rows (rVec 32) b s.rej :: blk g11 (Rdr.cells (rVec 32) s.pos).toArray T_api_ID :: mpF gp (polF s.pol) :: mpF gmm (cF t0 N0 V t0.root fun _ => none) :: (E ++ As))
theorem PL.to {gmm g11 : Nat} {t0 : Tr} {N0 : List TN} {s : PS} {E Xs Ys : List Asn} {a b : Value} {z : World} (hYA : ∀ A ∈ Ys, A ∈ As) (hd : Dat N0 As) (hN : ∀ x ∈ N, x ∈ N0) (hsd : SDat S (E ++ Ys))
    (h : Sep w0 z (Xs ++ (blk g (Rdr.cells Q_topo_Topo (toq p gt gs)).toArray T_topo_Topo :: mpK gs (svF S) :: blk gt (Rdr.cells Q_tree_Tree (tq s.t gm ov)).toArray T_tree_Tree :: mpN gm N c :: rows (rVec 32) ov (N.map (·.1)) ::
      rows (rVec 32) a s.acc :: rows (rVec 32) b s.rej :: blk g11 (Rdr.cells (rVec 32) s.pos).toArray T_api_ID :: mpF gp (polF s.pol) :: mpF gmm (cF t0 N0 V t0.root fun _ => none) :: (E ++ As)))) : ToR z.heap g gt gm gs ov p s.t N c S := by
  have h2 := Sep.dropL h
  refine toH_rd (As := rows (rVec 32) a s.acc :: rows (rVec 32) b s.rej :: blk g11 (Rdr.cells (rVec 32) s.pos).toArray T_api_ID :: mpF gp (polF s.pol) :: mpF gmm (cF t0 N0 V t0.root fun _ => none) :: (E ++ As)) h2 (fun x hx => ?_) (hsd.sub fun A hA => ?_)
  · have := hd x (hN x hx)
    simp [this]
  · simp only [List.mem_cons]
    exact .inr (.inr (.inr (.inr (.inr (List.mem_append.2 ((List.mem_append.1 hA).imp id (hYA A)))))))
theorem sv_cases (S : SV) (k : Vec 32) : (S k = none ∧ svM S k = none ∧ svD S k = (.slice none 0 0, snZ)) ∨ ∃ v x, S k = some (v, x) ∧ svM S k = some x ∧ svD S k = (v, x) := by
  unfold svM svD
  cases h : S k with
  | none => exact .inl ⟨rfl, rfl, rfl⟩
  | some q => exact .inr ⟨q.1, q.2, rfl, rfl, rfl⟩
end
end Go.Fx
set_option linter.unusedVariables false
set_option linter.unusedSimpArgs false
namespace Go.Fx
theorem filt_len {α : Type} (f : α → Bool) : ∀ l : List α, (l.filter f).length + (l.filter fun y => !f y).length = l.length
  | [] => rfl
  | a :: l => by
    have := filt_len f l
    rw [List.filter_cons, List.filter_cons]
    cases f a <;> simp <;> omega
theorem mv_parts {t : Tr} {N : List TN} {k : Vec 32} (hw : TrW t N) (hk : mvOk t N k = true) : (mvN t N k).length + (mvGone t N k).length + 1 ≤ N.length := by
  obtain ⟨hkb, _⟩ := mvOk_spec hk
  have hm : k ∈ nms N := (nms_has hw).2 ⟨blk_has hkb, blk_nroot hw hkb⟩
  obtain ⟨x, hx, rfl⟩ := List.mem_map.1 hm
  have hux : under t N x.1 x.1 = true := under_self hw (blk_has hkb)
  have h1 : (mvN t N x.1).length + 1 ≤ (N.filter fun y => under t N y.1 x.1).length := by
    have e : mvN t N x.1 = (N.filter fun y => under t N y.1 x.1).filter fun y => !decide (y.1 = x.1) := by
      unfold mvN
      rw [List.filter_filter]
    rw [e]
    have hxm : x ∈ N.filter fun y => under t N y.1 x.1 := List.mem_filter.2 ⟨hx, hux⟩
    generalize N.filter (fun y => under t N y.1 x.1) = L at *
    clear e
    induction L with
    | nil => cases hxm
    | cons a L ih =>
      rw [List.filter_cons]
      by_cases ha : a.1 = x.1
      · simp only [ha, decide_true, Bool.not_true, Bool.false_eq_true, if_false, List.length_cons]
        have := List.length_filter_le (fun y : TN => !decide (y.1 = x.1)) L
        omega
      · have hx2 : x ∈ L := by
          rcases List.mem_cons.1 hxm with h | h
          · exact absurd (h ▸ rfl) ha
          · exact h
        simp only [ha, decide_false, Bool.not_false, if_true, List.length_cons]
        have := ih hx2
        omega
  have h2 : (mvGone t N x.1).length = (N.filter fun y => !under t N y.1 x.1).length := by
    unfold mvGone
    rw [List.filter_map, List.length_map]
    rfl
  have h3 := filt_len (fun y : TN => under t N y.1 x.1) N
  omega
theorem Reach.parts {p : Par} {V : List Vt} {m : Nat} {a b : PS} (h : Reach p V a b) (hi : PI p m a) (hV : bagOk V) (hs : sumV V ≤ p.1) : b.acc.length + b.rej.length + b.N.length ≤ a.acc.length + a.rej.length + a.N.length := by
  induction h with
  | refl => exact Nat.le_refl _
  | step h1 h2 ih =>
    have hp := h1.pi hi hV hs
    rename_i b c
    unfold pstep at h2
    cases hx : b.S b.pos with
    | none => rw [hx] at h2; cases h2
    | some x =>
      rw [hx] at h2
      simp only at h2
      split at h2
      · rename_i hcnd
        obtain ⟨hk, _, _⟩ := hp.root_x hcnd.1 hx
        simp only [Option.some.injEq] at h2
        subst h2
        have := mv_parts hp.tm.w hk
        show (b.acc ++ [prf x]).length + (b.rej ++ mvGone b.t b.N (prf x)).length + (mvN b.t b.N (prf x)).length ≤ _
        rw [List.length_append, List.length_append, List.length_singleton]
        omega
      · split at h2
        · cases h2
        · simp only [Option.some.injEq] at h2
          subst h2
          exact ih
theorem permL (E B T : List Asn) : (E ++ (B ++ T)).Perm (B ++ (E ++ T)) := by
  rw [← List.append_assoc, ← List.append_assoc]
  exact List.perm_append_comm.append_right T
section
variable {w0 w w' : World} {As : List Asn} {g gt gm gs c gp : Nat} {ov v : Value} {p : Par} {t : Tr} {N : List TN} {S : SV} {m : Nat} {V : List Vt}
set_option maxHeartbeats 1000000 in
theorem oPoll_spec {Ys : List Asn} (hs : Sep w0 w (toH g gt gm gs ov p t N c S ++ As)) (hd : Dat N As) (hsd : SDat S Ys) (hYA : ∀ A ∈ Ys, A ∈ As) (hi : TpI p m t N (svM S)) (hv : ∀ z, Sep w0 z As → Rows' Q_api_Vote z.heap v V) (hl : V.length ≤ 1000000) (hn : N.length ≤ 1000000) :
    cal P f_topo_Topo_Poll [ptr g, v] w fun r w' =>
      (pollE p V ≠ 0 ∧ r = .tuple #[.slice none 0 0, .slice none 0 0, .int .i64 (pollE p V)] ∧ Sep w0 w' (toH g gt gm gs ov p t N c S ++ As)) ∨
      (pollE p V = 0 ∧ ∃ s av rv gs' ov' N' S' E, PollOut p V t N (svM S) s ∧ r = .tuple #[av, rv, .int .i64 0] ∧ s.N = sN N' ∧ (∀ x ∈ N', x ∈ N) ∧ svM S' = failS p s.t s.N s.S s.pol ∧ SDat S' (E ++ Ys) ∧
        Sep w0 w' (toH g gt gm gs' ov' p s.t N' c S' ++ (rows (rVec 32) av s.acc :: rows (rVec 32) rv s.rej :: (E ++ As)))) := by
  refine s_topo_Topo_Poll fun R hR => ?_
  unfold c_topo_Topo_Poll
  refine cal_i (onone_spec (toH_rd hs hd (hsd.sub hYA))) ?_
  rintro _ _ ⟨rfl, rfl⟩
  try simp only [fx, Nat.reduceAdd, forall_const]
  have hvA : ∀ {z : World}, Sep w0 z (toH g gt gm gs ov p t N c S ++ As) → Rows' Q_api_Vote z.heap v V := fun h => hv _ (Sep.dropL h)
  refine cal_i (bgCheck_spec (hvA hs) (by omega)) ?_
  rintro _ w1 ⟨rfl, hf1⟩
  have hs1 := hs.old hf1
  try simp only [fx, Nat.reduceAdd, forall_const]
  rw [cnd_bool]
  refine ⟨fun h => ?_, fun h => ?_⟩
  · have hb : ¬ bagOk V := fun hb => by rw [bagE_ok hb] at h; cases h
    have he : pollE p V = 70 := by rw [pollE, if_pos hb]
    exact hR _ _ (.inl ⟨by rw [he]; decide, by rw [he], hs1⟩)
  have hb : bagOk V := bagE_zero.1 (by simpa using h)
  refine drH_S hs1 fun w2 hs2 _ => ?_
  refine rdS_ld (v := .int .i64 p.1) (fun u hu K hk => (L_topo_Topo__p_K (Sep.blk hu) K).mpr hk) ?_
  refine efS_i (cal_i (bgTotal_spec (hvA hs2) (by omega)) ?_)
  rintro _ w3 ⟨rfl, hf3⟩
  have hs3 := hs2.old hf3
  refine ⟨hs3, ?_⟩
  rw [sumV_good hb]
  try simp only [fx, Nat.reduceAdd, forall_const]
  rw [cnd_bool]
  refine ⟨fun h => ?_, fun h => ?_⟩
  · have h : p.1 < sumV V := by simpa using h
    have he : pollE p V = 1 := by rw [pollE, if_neg (by simpa using hb), if_pos h]
    exact hR _ _ (.inl ⟨by rw [he]; decide, by rw [he], hs3⟩)
  have hsum : sumV V ≤ p.1 := by simp at h; omega
  have he : pollE p V = 0 := by rw [pollE, if_neg (by simpa using hb), if_neg (by omega)]
  refine cal_i (oCounts_spec hi.tm hb (toH_rd hs3 hd (hsd.sub hYA)) (hvA hs3) hn) ?_
  rintro _ w4 ⟨gmm, rfl, hs4⟩
  replace hs4 := hs3.join hs4
  refine makeF_s (n := 32) hs4 fun gp w5 hs5 => ?_
  have hs5 : Sep w0 w5 (mpF gp (polF []) :: mpF gmm (cF t N V t.root fun _ => none) :: blk g (Rdr.cells Q_topo_Topo (toq p gt gs)).toArray T_topo_Topo :: mpK gs (svF S) :: (trH gt gm ov t N c ++ As)) := by rw [polF_nil]; exact hs5
  have hs5' : Sep w0 w5 (toH g gt gm gs ov p t N c S ++ (mpF gp (polF []) :: mpF gmm (cF t N V t.root fun _ => none) :: As)) := Sep.pick hs5 [2, 3, 4, 5, 6, 0, 1] 7
  have hto5 : ToR w5.heap g gt gm gs ov p t N c S := toH_rd hs5' (hd.sub fun A hA => by simp [hA]) (hsd.sub fun A hA => by simp [hYA A hA])
  refine hto5.ldt _ ?_
  refine cal_i (Root_spec hto5.tr) ?_
  rintro _ w6 ⟨rfl, hf6⟩
  have hs6 := hs5'.old hf6
  try simp only [fx, Nat.reduceAdd, forall_const]
  refine alloc_s hs6 (A_api_ID w6) fun g11 w7 hs7 => ?_
  refine St_api_ID hs7 fun w8 hs8 => ?_
  have hps := hi.pi
  have hvE : ∀ {z : World} {Xs E : List Asn}, Sep w0 z (Xs ++ (E ++ As)) → True := fun _ => trivial
  refine ⟨fun a b z => ∃ s N' S' ov' E, Reach p V (ps0 t N (svM S)) s ∧ pstep p V s = none ∧ PL w0 As g gt gm gs gp gmm g11 c p t N V s N' S' ov' E Ys a b z, ?_, ?_⟩
  · refine lp2_least (D := PS) (fun s a b z => ∃ N' S' ov' E, Reach p V (ps0 t N (svM S)) s ∧ PL w0 As g gt gm gs gp gmm g11 c p t N V s N' S' ov' E Ys a b z) (muP m) (ps0 t N (svM S)) ⟨N, S, ov, [], .refl _, rfl, fun _ h => h, rfl, hsd, ?_⟩ ?_
    · exact Sep.pick (Sep.nilR (q := rVec 32) (Sep.nilR (q := rVec 32) hs8)) [3, 4, 5, 6, 7, 0, 1, 2, 8, 9] 10
    rintro s a b z K ⟨N', S', ov', E, hre, hN, hsub, hSM, hsd', hz⟩ hK -
    have hp := hre.pi hps hb hsum
    have hrc := hre.rc hps hb hsum (RC.start V t N (svM S))
    have hkb : kbs N' = kbs s.N := by rw [hN, sN_kbs]
    have hlN : N'.length ≤ 1000000 ∧ s.acc.length + s.rej.length + N'.length ≤ 1000000 := by
      have h1 := hre.parts hps hb hsum
      have h2 := kb_len hkb
      have h3 : (ps0 t N (svM S)).N.length = N.length := kb_len (sN_kbs N)
      have h4 : (ps0 t N (svM S)).acc.length = 0 := rfl
      have h5 : (ps0 t N (svM S)).rej.length = 0 := rfl
      omega
    have htm : TM s.t N' m := hp.tm.kb hkb.symm
    have hto : ToR z.heap g gt gm gs ov' p s.t N' c S' := PL.to (Xs := []) hYA hd hsub hsd' hz
    refine hto.ldt _ ?_
    refine cal_i (Root_spec hto.tr) ?_
    rintro _ z1 ⟨rfl, hf1⟩
    have hz1 := hz.old hf1
    try simp only [fx, Nat.reduceAdd, forall_const]
    refine alloc_s hz1 (A_api_ID z1) fun g13 z2 hz2 => ?_
    refine St_api_ID hz2 fun z3 hz3 => ?_
    refine drH_S hz3 fun z4 hz4 _ => ?_
    refine rdS_ld (v := .map (some gs)) (fun u hu K hk => (L_topo_Topo__snows (Sep.blk hu.p1) K).mpr hk) ?_
    refine ⟨kv s.pos, fun u hu => (L_api_ID (Sep.blk (Sep.pick hu [8] 9)) _).mpr rfl, ?_⟩
    refine ⟨.tuple #[(svF S' s.pos).getD (snv (.slice none 0 0) snZ), .bool (svF S' s.pos).isSome], fun u hu => ((PL.to (Xs := [_]) hYA hd hsub hsd' hu).look s.pos _).mpr rfl, ?_⟩
    rw [svD_get, svF_is]
    try simp only [fx, Nat.reduceAdd, forall_const]
    refine efS_i (alloc_s hz4 (A_api_Snow z4) fun g15 z5 hz5 => ⟨hz5.tail, ?_⟩)
    refine efC_stN (St_api_Snow (b := snr (svD S' s.pos).1 (svD S' s.pos).2) hz5 (one_api_Snow ((PL.to (Xs := [_, _]) hYA hd hsub hsd' hz5).rwD s.pos).one1) fun z6 hz6 => ?_)
    try simp only [fx, Nat.reduceAdd, forall_const, L_api_ID (Sep.blk (Sep.pick hz6 [9] 10)), L_api_ID (Sep.blk hz6.p1), L_api_Snow (Sep.blk hz6), L_api_Snow__List (Sep.blk hz6), L_api_Snow__Pref (Sep.blk hz6), L_api_Snow__Flake (Sep.blk hz6), L_api_Snow__Conf (Sep.blk hz6), L_api_Snow__Done (Sep.blk hz6), eq_api_ID]
    rw [cnd_bool]
    refine ⟨fun h => ?_, fun h => ?_⟩
    · -- the root's instance is done
      simp only [Bool.and_eq_true, decide_eq_true_eq] at h
      obtain ⟨v0, x, hS0, hx, hD⟩ := (sv_cases S' s.pos).resolve_left (by rintro ⟨h1, _⟩; rw [h1] at h; simp at h)
      rw [hD] at h ⊢
      have hxS : s.S s.pos = some x := by rw [← hSM]; exact hx
      obtain ⟨⟨_, hroot⟩, hdn⟩ := h
      have hdn : x.dn = true := hdn
      have hst : pstep p V s = some (s.moved (prf x)) := by
        unfold pstep
        rw [hxS]
        simp only
        rw [if_pos ⟨hroot, hdn⟩]
      have hmu := (pstep_ok hp hb hsum hst).2
      have hmv : mvOk s.t N' (prf x) = true := by rw [kb_mvOk hkb]; exact (hp.root_x hroot hxS).1
      have hmp := mv_parts htm.w hmv
      refine cal_i snPrefers_spec ?_
      rintro _ z7 ⟨rfl, hf7⟩
      have hz7 := hz6.old hf7
      refine alloc_s hz7 (A_api_ID z7) fun g17 z8 hz8 => ?_
      refine St_api_ID (b := prf x) hz8 fun z9 hz9 => ?_
      refine drH_S hz9 fun z10 hz10 _ => ?_
      refine rdS_ld (v := ptr gt) (fun u hu K hk => (L_topo_Topo__inner (Sep.blk (Sep.p3 hu)) K).mpr hk) ?_
      refine ⟨kv (prf x), fun u hu => (L_api_ID (Sep.blk hu) _).mpr rfl, ?_⟩
      have hzm := Sep.pick hz10 [5, 6, 7, 0, 1, 2, 3, 4, 8, 9, 10, 11, 12] 13
      refine efC_cal (cal_i (Move_spec (t := s.t) (N := N') (g := gt) (gm := gm) (c := c) (ov := ov') hzm (fun y hy => ?_) htm.w htm.nd hlN.1 (prf x)) ?_)
      · exact List.mem_cons_of_mem _ (List.mem_cons_of_mem _ (List.mem_cons_of_mem _ (List.mem_cons_of_mem _ (List.mem_cons_of_mem _ (List.mem_cons_of_mem _ (List.mem_cons_of_mem _ (List.mem_cons_of_mem _ (List.mem_cons_of_mem _ (List.mem_cons_of_mem _ (List.mem_append_right _ (hd y (hsub y hy))))))))))))
      rintro _ z11 (⟨hf, _⟩ | ⟨_, gv, ov2, rfl, hz11⟩)
      · rw [hmv] at hf; cases hf
      rw [kb_mvT hkb, kb_mvGone hkb] at hz11
      try simp only [fx, Nat.reduceAdd, forall_const, show ((0 : Int) != 0) = false from rfl, L_api_ID (Sep.blk (Sep.pick hz11 [4] 5))]
      refine bldI hz11 fun q1 z12 hz12 => ?_
      refine appI (Sep.pick hz12 [10, 0, 1, 2, 3, 4, 5, 6, 7, 8, 9, 11, 12, 13, 14] 15) (Sep.rows hz12) (by omega) fun a' z13 hz13 => ?_
      have hgl : (mvGone s.t s.N (prf x)).length ≤ 1000000 := by rw [← kb_mvGone hkb]; omega
      have hgv : Rows' (rVec 32) z13.heap gv (mvGone s.t s.N (prf x)) := Sep.rows (Sep.pick hz13 [5] 6)
      refine rows_app S_sl_api_ID U_sl_api_ID (by simp) (Sep.pick hz13 [11, 0, 1, 2, 3, 4, 5, 6, 7, 8, 9, 10, 12, 13, 14] 15) hgv ?_ (by omega) (by omega) fun b' z14 hz14 => ?_
      · intro u hu
        obtain ⟨y, hy, hu⟩ := List.mem_flatMap.1 hu
        exact oneVec u hu
      simp only [L_api_ID (Sep.blk (Sep.pick hz14 [7] 8))]
      refine St_api_ID (b := prf x) (Sep.pick hz14 [12, 0, 1, 2, 3, 4, 5, 6, 7, 8, 9, 10, 11, 13, 14] 15) fun z15 hz15 => ?_
      refine hK (s.moved (prf x)) _ _ _ ⟨mvN s.t N' (prf x), S', ov2, E, hre.step hst, ?_, fun y hy => hsub y (List.mem_filter.1 hy).1, hSM, hsd', ?_⟩ hmu
      · show mvN s.t s.N (prf x) = _
        rw [hN, sN_mv]
      · exact Sep.pick hz15 [11, 12, 4, 5, 6, 2, 1, 0, 13, 14] 15
    · -- polled, or the end
      have hnc : ∀ x, s.S s.pos = some x → ¬ (s.pos = s.t.root ∧ x.dn = true) := fun x hx hc => by
        rw [← hSM] at hx
        obtain ⟨v0, hS0⟩ := svM_some hx
        have hD : svD S' s.pos = (v0, x) := by unfold svD; rw [hS0]; rfl
        rw [hD, hS0] at h
        have h2 : x.dn = true := hc.2
        simp [hc.1, h2] at h
      refine cal_i (oBest_spec (f := cntT s.t s.N V) htm (PL.to (Xs := [_, _]) hYA hd hsub hsd' hz6) (mpF_rd (Sep.pick hz6 [11] 12)) (fun q hq => ?_) hlN.1) ?_
      · rw [kb_kidsT hkb] at hq
        have hqs := ((kid_iff hp.tm.w hp.tm.nd).1 hq).2.1
        unfold cF
        rw [if_pos (under_top hi.tm.w (hrc.names q hqs)), hrc.cnt q hqs]
      rintro _ z7 ⟨rfl, hf7⟩
      rw [kb_kidsT hkb]
      have hz7 := hz6.old hf7
      try simp only [fx, Nat.reduceAdd, forall_const]
      refine alloc_s hz7 (A_api_ID z7) fun g20 z8 hz8 => ?_
      refine St_api_ID (b := (s.best V).1) hz8 fun z9 hz9 => ?_
      refine (L_topo_Topo__p_AlphaPref (Sep.blk (Sep.p3 hz9)) _).mpr ?_
      try simp only [fx, Nat.reduceAdd, forall_const]
      rw [cnd_bool]
      refine ⟨fun h2 => ?_, fun h2 => ?_⟩
      · have hend : pstep p V s = none := by
          unfold pstep
          cases hx : s.S s.pos with
          | none => rfl
          | some x =>
            simp only
            rw [if_neg (hnc x hx), if_pos (by simpa using h2)]
        exact ⟨s, N', S', ov', E, hre, hend, hN, hsub, hSM, hsd', Sep.pick hz9 [3, 4, 5, 6, 7, 8, 9, 10, 11, 12] 13⟩
      have hge : ¬ (s.best V).2 < p.2.1 := by simpa using h2
      obtain ⟨x, hxS⟩ : ∃ x, s.S s.pos = some x := by
        cases hx : s.S s.pos with
        | some x => exact ⟨x, rfl⟩
        | none =>
          exfalso
          have h3 := hp.no s.pos hp.pos hx
          apply hge
          show (bestT (cntT s.t s.N V) (kidsT s.t s.N s.pos)).2 < p.2.1
          rw [h3]
          obtain ⟨q1, q2, q3, _⟩ := parE_zero hi.par
          show (0 : Int) < p.2.1
          omega
      obtain ⟨v0, hS0⟩ := svM_some (S := S') (k := s.pos) (x := x) (by rw [hSM]; exact hxS)
      have hst : pstep p V s = some (s.polled (pollM p x (s.best V).1 (s.best V).2).1 (s.best V).1) := by
        unfold pstep
        rw [hxS]
        simp only
        rw [if_neg (hnc x hxS), if_neg hge]
      have hmu := (pstep_ok hp hb hsum hst).2
      obtain ⟨i1, i2, i3, i4, i5⟩ := hp.best_in hb hsum hxS hge
      have hmx := hp.may _ _ hxS
      obtain ⟨e1, e2, e3, e4, _⟩ := poll_may hmx i5 i3 i4
      have hxl : x.l.length ≤ 1000000 := by have := hmx.n2; omega
      obtain ⟨kk, hkk⟩ : ∃ kk, kk = (s.best V).1 := ⟨_, rfl⟩
      obtain ⟨nn, hnn⟩ : ∃ nn, nn = (s.best V).2 := ⟨_, rfl⟩
      rw [← hkk, ← hnn] at hst hmu e1
      rw [show (bestT (cntT s.t s.N V) (kidsT s.t s.N s.pos)).2 = nn from hnn.symm]
      rw [← hkk] at hz9
      obtain ⟨y, hy⟩ : ∃ y, y = (pollM p x kk nn).1 := ⟨_, rfl⟩
      rw [← hy] at hst hmu
      have hrow : ∀ {z : World} {Xs : List Asn}, Sep w0 z (Xs ++ (E ++ As)) → Rows' Q_api_Choice z.heap v0 x.l := fun {z Xs} h => by
        obtain ⟨F, hF⟩ := h.onL (A := rows Q_api_Choice v0 x.l) (List.mem_append_right _ ((List.mem_append.1 (hsd' s.pos (v0, x) hS0)).elim (fun h => List.mem_append_left _ h) (fun h => List.mem_append_right _ (hYA _ h))))
        exact Own.cel hF
      have h1v : v0.oneCell' = true := (hrow (Xs := [_, _, _, _, _, _, _, _, _, _, _, _, _]) hz9).one1
      refine drH_S hz9 fun z10 hz10 _ => ?_
      refine ⟨fun a2 b2 z => ∃ g22 v', a2 = ptr g22 ∧ b2 = .int .i64 0 ∧ Sep w0 z (blk g22 (Rdr.cells Q_api_Snow (snr v' y)).toArray T_api_Snow :: rows Q_api_Choice v' y.l :: blk g20 (Rdr.cells (rVec 32) kk).toArray T_api_ID :: blk g15 (Rdr.cells Q_api_Snow (snr (svD S' s.pos).1 (svD S' s.pos).2)).toArray T_api_Snow :: blk g13 (Rdr.cells (rVec 32) s.t.root).toArray T_api_ID ::
        blk g (Rdr.cells Q_topo_Topo (toq p gt gs)).toArray T_topo_Topo :: mpK gs (svF S') :: blk gt (Rdr.cells Q_tree_Tree (tq s.t gm ov')).toArray T_tree_Tree :: mpN gm N' c :: rows (rVec 32) ov' (N'.map (·.1)) ::
        rows (rVec 32) a s.acc :: rows (rVec 32) b s.rej :: blk g11 (Rdr.cells (rVec 32) s.pos).toArray T_api_ID :: mpF gp (polF s.pol) :: mpF gmm (cF t N V t.root fun _ => none) :: (E ++ As)), ?_, ?_⟩
      · refine ⟨pav p, fun u hu => (L_topo_Topo__p (Sep.blk (Sep.p3 hu)) _).mpr rfl, ?_⟩
        refine rdS_ld (v := .map (some gs)) (fun u hu K hk => (L_topo_Topo__snows (Sep.blk (Sep.p3 hu)) K).mpr hk) ?_
        refine ⟨kv s.pos, fun u hu => (L_api_ID (Sep.blk (Sep.pick hu [10] 11)) _).mpr rfl, ?_⟩
        refine ⟨snv v0 x, fun u hu => ?_, ?_⟩
        · rw [lookF1 U_map_api_ID_api_Snow KT zSn (PL.to (Xs := [_, _, _]) hYA hd hsub hsd' hu).mp.mp s.pos]
          unfold svF
          rw [hS0]
          rfl
        refine ⟨kv kk, fun u hu => (L_api_ID (Sep.blk hu) _).mpr rfl, ?_⟩
        refine ⟨?_, ?_, trivial⟩
        · refine efC_cut (cal_i (snPoll_spec (hrow (Xs := [_, _, _, _, _, _, _, _, _, _, _, _, _]) hz10) hxl h1v) ?_)
          rintro _ z11 ⟨v', rfl, hz11⟩
          have hz12 := hz10.join hz11
          refine ⟨fun u => Sep w0 u _, hz12, ?_⟩
          try simp only [fx, Nat.reduceAdd, forall_const]
          rw [← hy] at hz12 ⊢
          refine efS_i (alloc_s hz12 (A_api_Snow z11) fun g22 z13 hz13 => ⟨hz13.tail, ?_⟩)
          refine efC_stN (St_api_Snow (b := snr v' y) hz13 (one_api_Snow (Sep.oneR hz13.p1)) fun z14 hz14 => ?_)
          exact ⟨g22, v', rfl, by rw [e1], hz14⟩
        · refine efS_i (alloc_s hz10 (A_api_Snow z10) fun g22 z11 hz11 => ⟨hz11.tail, ?_⟩)
          refine efC_cal (cal_i (snPoll_spec (hrow (Xs := [_, _, _, _, _, _, _, _, _, _, _, _, _, _]) hz11) hxl h1v) ?_)
          rintro _ z12 ⟨v', rfl, hz12⟩
          have hz13 := hz11.join hz12
          try simp only [fx, Nat.reduceAdd, forall_const]
          rw [← hy] at hz13 ⊢
          refine efC_stN (St_api_Snow (b := snr v' y) hz13.p1 (one_api_Snow (Sep.oneR hz13)) fun z14 hz14 => ?_)
          exact ⟨g22, v', rfl, by rw [e1], hz14⟩
      rintro _ _ z11 ⟨g22, v', rfl, rfl, hz11⟩ _
      try simp only [fx, Nat.reduceAdd, forall_const, show ((0 : Int) != 0) = false from rfl]
      refine drH_S hz11 fun z12 hz12 _ => ?_
      refine rdS_ld (v := .map (some gs)) (fun u hu K hk => (L_topo_Topo__snows (Sep.blk (Sep.pick hu [5] 6)) K).mpr hk) ?_
      refine ⟨kv s.pos, fun u hu => (L_api_ID (Sep.blk (Sep.pick hu [12] 13)) _).mpr rfl, ?_⟩
      refine ⟨snv v' y, fun u hu => (L_api_Snow (Sep.blk hu) _).mpr rfl, ?_⟩
      refine efC_efU (putK_s U_map_api_ID_api_Snow KT (Sep.pick hz12 [6, 0, 1, 2, 3, 4, 5, 7, 8, 9, 10, 11, 12, 13, 14] 15) fun z13 hz13 => ?_)
      rw [svF_upd S' s.pos (v', y)] at hz13
      simp only [L_api_ID (Sep.blk (Sep.pick hz13 [12] 13))]
      refine putF_s U_map_api_ID_bool KT (Sep.pick hz13 [13, 0, 1, 2, 3, 4, 5, 6, 7, 8, 9, 10, 11, 12, 14] 15) fun z14 hz14 => ?_
      rw [polF_cons] at hz14
      try simp only [fx, Nat.reduceAdd, forall_const, L_api_ID (Sep.blk (Sep.pick hz14 [13] 14)), L_api_ID (Sep.blk (Sep.pick hz14 [6] 7)), L_api_ID (Sep.blk (Sep.pick hz14 [4] 5)), L_api_Snow (Sep.blk (Sep.pick hz14 [2] 3)), L_api_Snow__List (Sep.blk (Sep.pick hz14 [2] 3)), L_api_Snow__Pref (Sep.blk (Sep.pick hz14 [2] 3)), L_api_Snow__Flake (Sep.blk (Sep.pick hz14 [2] 3)), L_api_Snow__Conf (Sep.blk (Sep.pick hz14 [2] 3)), L_api_Snow__Done (Sep.blk (Sep.pick hz14 [2] 3)), ne_api_ID]
      have hSM2 : svM (updV S' s.pos (v', y)) = updS s.S s.pos y := by rw [svM_upd, hSM]
      have hsd2 : SDat (updV S' s.pos (v', y)) ((rows Q_api_Choice v' y.l :: E) ++ Ys) := SDat.upd hsd'
      rw [cnd_bool]
      refine ⟨fun h3 => ?_, fun h3 => ?_⟩
      · have h3 : s.pos ≠ s.t.root ∨ y.dn = false := by simpa using h3
        refine St_api_ID (b := kk) (Sep.pick hz14 [13, 0, 1, 2, 3, 4, 5, 6, 7, 8, 9, 10, 11, 12, 14] 15) fun z15 hz15 => ?_
        refine hK (s.polled y kk) _ _ _ ⟨N', updV S' s.pos (v', y), ov', rows Q_api_Choice v' y.l :: E, hre.step hst, hN, hsub, hSM2, hsd2, ?_⟩ hmu
        have ep : (s.polled y kk).pos = kk := if_pos h3
        rw [ep]
        exact Sep.pick hz15 [8, 2, 9, 10, 11, 12, 13, 0, 1, 14, 4] 15
      · have h3 : ¬ (s.pos ≠ s.t.root ∨ y.dn = false) := by simpa using h3
        refine hK (s.polled y kk) _ _ _ ⟨N', updV S' s.pos (v', y), ov', rows Q_api_Choice v' y.l :: E, hre.step hst, hN, hsub, hSM2, hsd2, ?_⟩ hmu
        have ep : (s.polled y kk).pos = s.pos := if_neg h3
        rw [ep]
        exact Sep.pick hz14 [7, 1, 8, 9, 10, 11, 12, 13, 0, 14, 3] 15
  · rintro a b z ⟨s, N', S', ov', E, hre, hend, hN, hsub, hSM, hsd', hz⟩ _
    have hp := hre.pi hps hb hsum
    have hz2 := Sep.pick hz [0, 1, 2, 3, 4, 5, 6, 7, 8, 9] 10
    refine cal_i (oFails_spec (As := rows (rVec 32) a s.acc :: rows (rVec 32) b s.rej :: blk g11 (Rdr.cells (rVec 32) s.pos).toArray T_api_ID :: mpF gp (polF s.pol) :: mpF gmm (cF t N V t.root fun _ => none) :: (E ++ As)) (t := s.t) (N := N') (pol := s.pol) (gp := gp) hz2 (fun x hx => ?_) hsd' (fun A hA => ?_) (fun k x hx => hp.may k x (by rw [← hSM]; exact hx)) (fun z h => mpF_rd (Sep.pick h [3] 5))) ?_
    · have := hd x (hsub x hx)
      simp [this]
    · simp only [List.mem_cons]
      exact .inr (.inr (.inr (.inr (.inr (List.mem_append.2 ((List.mem_append.1 hA).imp id (hYA A)))))))
    rintro _ z3 ⟨rfl, gs', S2, E2, hS2, hsd2, hz3⟩
    refine hR _ _ (.inr ⟨he, s, a, b, gs', ov', N', S2, E2 ++ E, ⟨hre, hend⟩, rfl, hN, hsub, ?_, by rw [List.append_assoc]; exact hsd2, ?_⟩)
    · rw [hS2, hSM]
      funext k
      unfold failS
      rw [kb_has (by rw [hN, sN_kbs] : kbs N' = kbs s.N)]
    · rw [List.append_assoc]
      have h4 := hz3.perm (List.Perm.append_left _ (permL E2 [_, _, _, _, _] (E ++ As)))
      exact Sep.pick h4 [0, 1, 2, 3, 4, 5, 6] 10
end
end Go.Fx
set_option linter.unusedVariables false
set_option linter.unusedSimpArgs false
namespace Go.Fx
section
variable {w0 w w' : World} {As : List Asn} {gx g gm gr c : Nat} {ov lv x : Value} {t : Tr} {N M : List TN} {ids : List (Vec 32)}
def AddRel (t : Tr) (N : List TN) (b : Blk) (N' : List TN) (E : List Asn) : Prop :=
  (addE t N b ≠ 0 ∧ N' = N ∧ E = []) ∨ (addE t N b = 0 ∧ ∃ vd c, N' = N ++ [(b.id, b, vd, c)] ∧ E = [ownB vd b.d])
def addId (t : Tr) (N : List TN) (b : Blk) : Vec 32 := if addE t N b = 0 then b.id else vz 32
theorem AddU {b : Blk} {v : Value} (Cs Ds : List Asn) (hs : Sep w0 w (trH g gm ov t N c ++ (Cs ++ Ds))) (hd : Dat N (Cs ++ Ds)) (hw : TrW t N) (hC : Cub w) (hb : RdB w.heap v b.d) (hh : b.h ≤ maxI) (hn : N.length ≤ 1000000) :
    cal P f_tree_Tree_Add [.pointer (some ⟨g, 0, none⟩), bq b v] w fun r w' => ∃ N' ov' c' E, r = .tuple #[kv (addId t N b), .int .i64 (addE t N b)] ∧ AddRel t N b N' E ∧ Sep w0 w' (trH g gm ov' t N' c' ++ (Cs ++ (E ++ Ds))) := by
  refine cal_i (Add_spec hs hd hw hC hb hh hn) ?_
  rintro r w' (⟨he, rfl, hs'⟩ | ⟨he, rfl, ov', vd, hs'⟩)
  · exact ⟨N, ov, c, [], by rw [addId, if_neg he], .inl ⟨he, rfl, rfl⟩, hs'⟩
  · exact ⟨_, ov', _, [ownB vd b.d], by rw [addId, if_pos he, he], .inr ⟨he, vd, c, rfl, rfl⟩, hs'.perm ((List.perm_append_comm_assoc [ownB vd b.d] Cs Ds).append_left _)⟩
end
end Go.Fx
set_option linter.unusedVariables false
set_option linter.unusedSimpArgs false
namespace Go.Fx
section
variable {w0 w w' : World} {As : List Asn} {g gt gm gs c : Nat} {ov v : Value} {p : Par} {t : Tr} {N : List TN} {S : SV} {m : Nat}
theorem oNew_spec (p : Par) (r : Vec 32) (h mo : Int) : cal P f_topo_New [pav p, kv r, .int .i64 h, .int .i64 mo] w fun v w' =>
    (∃ e, e ≠ 0 ∧ e = (if parE p ≠ 0 then parE p else 1) ∧ (parE p ≠ 0 ∨ ¬ (0 ≤ h ∧ 1 ≤ mo ∧ mo ≤ 256)) ∧ v = .tuple #[.pointer none, .int .i64 e] ∧ Fr [] w w') ∨
    ((parE p = 0 ∧ 0 ≤ h ∧ 1 ≤ mo ∧ mo ≤ 256) ∧ ∃ g gt gm gs, v = .tuple #[ptr g, .int .i64 0] ∧ Sep w w' (toH g gt gm gs (.slice none 0 0) p ⟨r, h, mo⟩ [] 0 fun _ => none)) := by
  refine s_topo_New fun R hR => ?_
  unfold c_topo_New
  refine bxQ (Sep.start w) fun g4 w1 hs1 => ?_
  refine bxQ hs1 fun g5 w2 hs2 => ?_
  simp only [L_api_Params (Sep.blk hs2.p1), L_api_Params__K (Sep.blk hs2.p1), L_api_Params__AlphaPref (Sep.blk hs2.p1), L_api_Params__AlphaConf (Sep.blk hs2.p1), L_api_Params__Beta (Sep.blk hs2.p1)]
  refine cal_i snParams_spec ?_
  rintro _ w3 ⟨rfl, hf3⟩
  have hs3 := hs2.old hf3
  try simp only [fx, Nat.reduceAdd, forall_const]
  rw [cnd_bool]
  refine ⟨fun h1 => ?_, fun h1 => ?_⟩
  · have h1 : parE p ≠ 0 := by simpa using h1
    exact hR _ _ (.inl ⟨parE p, h1, by rw [if_pos h1], .inl h1, rfl, hs3.fr0⟩)
  have h1 : parE p = 0 := by simpa using h1
  simp only [L_api_ID (Sep.blk hs3)]
  refine cal_i (tNew_spec r h mo) ?_
  rintro _ w4 (⟨hno, rfl, hf4⟩ | ⟨hq, gt, gm, rfl, hs4⟩)
  · try simp only [fx, Nat.reduceAdd, forall_const, show ((1 : Int) != 0) = true from rfl]
    exact hR _ _ (.inl ⟨1, by decide, by rw [if_neg (by simpa using h1)], .inr hno, rfl, (hs3.old hf4).fr0⟩)
  · rw [trL_nil] at hs4
    replace hs4 := hs3.join hs4
    try simp only [fx, Nat.reduceAdd, forall_const, show ((0 : Int) != 0) = false from rfl]
    simp only [L_api_Params (Sep.blk (Sep.pick hs4 [4] 5)), L_api_Params__K (Sep.blk (Sep.pick hs4 [4] 5)), L_api_Params__AlphaPref (Sep.blk (Sep.pick hs4 [4] 5)), L_api_Params__AlphaConf (Sep.blk (Sep.pick hs4 [4] 5)), L_api_Params__Beta (Sep.blk (Sep.pick hs4 [4] 5))]
    refine makeK_s (n := 32) hs4 fun gs w5 hs5 => ?_
    rw [B_topo_Topo_0_1_2 rfl rfl]
    refine bxQ hs5 fun g w6 hs6 => ?_
    exact hR _ _ (.inr ⟨⟨h1, hq⟩, g, gt, gm, gs, rfl, Sep.pick hs6 [0, 1, 2, 3, 4] 7⟩)
/-- Which name an Add has. -/
def addTId (t : Tr) (N : List TN) (S : SM) (b : Blk) : Vec 32 := if addTE t N S b = 0 then b.id else vz 32
structure AddT (p : Par) (t : Tr) (N : List TN) (S : SV) (b : Blk) (N' : List TN) (S' : SV) (E : List Asn) : Prop where
  no : addTE t N (svM S) b ≠ 0 → N' = N ∧ S' = S ∧ E = []
  yes : addTE t N (svM S) b = 0 → ∃ vd cc v x, N' = N ++ [(b.id, b, vd, cc)] ∧ S' = updV S b.p (v, x) ∧ svM S' = addTS p (svM S) b b.id ∧ E = [rows Q_api_Choice v x.l, ownB vd b.d]
theorem AddT.dat {b : Blk} {N' : List TN} {S' : SV} {E As : List Asn} (h : AddT p t N S b N' S' E) (hd : Dat N As) (hs : SDat S As) : Dat N' (E ++ As) ∧ SDat S' (E ++ As) := by
  by_cases he : addTE t N (svM S) b = 0
  · obtain ⟨vd, cc, v, x, rfl, rfl, _, rfl⟩ := h.yes he
    exact ⟨hd.add.sub fun A hA => List.mem_cons_of_mem _ hA, (SDat.upd hs).sub fun A hA => by
      rcases List.mem_cons.1 hA with rfl | hA
      · exact List.mem_cons_self ..
      · exact List.mem_cons_of_mem _ (List.mem_cons_of_mem _ hA)⟩
  · obtain ⟨rfl, rfl, rfl⟩ := h.no he
    exact ⟨hd, hs⟩
set_option maxHeartbeats 1000000 in
theorem oAdd_spec {b : Blk} (hs : Sep w0 w (toH g gt gm gs ov p t N c S ++ As)) (hd : Dat N As) (hsd : SDat S As) (hi : TpI p m t N (svM S)) (hC : Cub w0) (hb : ∀ z, Sep w0 z As → RdB z.heap v b.d) (hh : b.h ≤ maxI) (hn : N.length ≤ 1000000) :
    cal P f_topo_Topo_Add [ptr g, bq b v] w fun r w' => ∃ N' ov' c' S' E, r = .tuple #[kv (addTId t N (svM S) b), .int .i64 (addTE t N (svM S) b)] ∧ AddT p t N S b N' S' E ∧ Sep w0 w' (toH g gt gm gs ov' p t N' c' S' ++ (E ++ As)) := by
  refine s_topo_Topo_Add fun R hR => ?_
  unfold c_topo_Topo_Add
  have hto : ∀ {z : World} {Xs : List Asn}, Sep w0 z (Xs ++ (toH g gt gm gs ov p t N c S ++ As)) → ToR z.heap g gt gm gs ov p t N c S := fun h => toH_rd (Sep.dropL h) hd hsd
  have hbz : ∀ {z : World} {Xs : List Asn}, Sep w0 z (Xs ++ As) → RdB z.heap v b.d := fun h => hb _ (Sep.dropL h)
  refine bxQ hs fun g3 w1 hs1 => ?_
  refine alloc_s hs1 (A_api_ID w1) fun g4 w2 hs2 => ?_
  refine cal_i (onone_spec (hto (Xs := [_, _]) hs2)) ?_
  rintro _ _ ⟨rfl, rfl⟩
  try simp only [fx, Nat.reduceAdd, forall_const]
  refine drH_S hs2 fun w3 hs3 _ => ?_
  refine rdS_ld (v := .map (some gs)) (fun u hu K hk => (hto (Xs := [_, _]) hu).lds K hk) ?_
  refine ⟨kv b.p, fun u hu => (L_api_Block__Parent (Sep.blk hu.p1) _).mpr rfl, ?_⟩
  refine ⟨.tuple #[(svF S b.p).getD (snv (.slice none 0 0) snZ), .bool (svF S b.p).isSome], fun u hu => ((hto (Xs := [_, _]) hu).look b.p _).mpr rfl, ?_⟩
  rw [svD_get, svF_is]
  try simp only [fx, Nat.reduceAdd, forall_const]
  refine efS_i (alloc_s hs3 (A_api_Snow w3) fun g6 w4 hs4 => ⟨hs4.tail, ?_⟩)
  refine efC_stN (St_api_Snow (b := snr (svD S b.p).1 (svD S b.p).2) hs4 (one_api_Snow ((hto (Xs := [_, _, _]) hs4).rwD b.p).one1) fun w5 hs5 => ?_)
  simp only [fx, Nat.reduceAdd, forall_const, L_api_Snow (Sep.blk hs5), L_api_Snow__List (Sep.blk hs5), L_api_Snow__Pref (Sep.blk hs5), L_api_Snow__Flake (Sep.blk hs5), L_api_Snow__Conf (Sep.blk hs5), L_api_Snow__Done (Sep.blk hs5), ((hto (Xs := [_, _, _]) hs5).rwD b.p).len]
  have hf5 := hs5.fr0
  obtain ⟨L6, hL6⟩ : ∃ L6, L6 = blk g6 (Rdr.cells Q_api_Snow (snr (svD S b.p).1 (svD S b.p).2)).toArray T_api_Snow :: blk g4 (Rdr.cells (rVec 32) (vz 32)).toArray T_api_ID :: blk g3 (Rdr.cells Q_api_Block (b.p, b.h, v)).toArray T_api_Block :: (toH g gt gm gs ov p t N c S ++ As) := ⟨_, rfl⟩
  have hdL : ∀ A ∈ As, A ∈ L6 := fun A hA => by
    rw [hL6]
    exact List.mem_cons_of_mem _ (List.mem_cons_of_mem _ (List.mem_cons_of_mem _ (List.mem_append_right _ hA)))
  have hbL : ∀ {z : World}, Sep w0 z L6 → RdB z.heap v b.d := fun h => by
    rw [hL6] at h
    exact hbz (Xs := [_, _, _, _, _, _, _, _]) h
  rw [cnd_bool]
  refine ⟨fun h => ?_, fun h => ?_⟩
  · -- there is no room
    obtain ⟨v0, x, hS0, hx, hD⟩ := (sv_cases S b.p).resolve_left (by rintro ⟨h1, _⟩; rw [h1] at h; simp at h)
    have h32 : 32 ≤ x.l.length := by
      rw [hD] at h
      simp only [Bool.and_eq_true, decide_eq_true_eq] at h
      have := h.2
      omega
    have hE : addTE t N (svM S) b = if addE t N b ≠ 0 then addE t N b else 6 := by
      unfold addTE
      rw [hx]
      simp only [if_pos h32]
    have hE0 : addTE t N (svM S) b ≠ 0 := by
      rw [hE]
      split
      · assumption
      · decide
    have hend : ∀ {z : World} {e : Int}, e = addTE t N (svM S) b → Sep w0 z (toH g gt gm gs ov p t N c S ++ As) → R (.tuple #[kv (vz 32), .int .i64 e]) z := fun he hz =>
      hR _ _ ⟨N, ov, c, S, [], by rw [he, addTId, if_neg hE0], ⟨fun _ => ⟨rfl, rfl, rfl⟩, fun h => absurd h hE0⟩, hz⟩
    refine drH_S hs5 fun w6 hs6 _ => ?_
    rw [← hL6] at hs6 ⊢
    have htoL : ∀ {u : World}, Sep w0 u L6 → ToR u.heap g gt gm gs ov p t N c S := fun hu => by
      rw [hL6] at hu
      exact hto (Xs := [_, _, _]) hu
    refine ⟨fun a z => a = .int .i64 (addE t N b) ∧ Sep w0 z L6, ?_, ?_⟩
    · refine rdS_ld (v := ptr gt) (fun u hu K hk => (htoL hu).ldt K hk) ?_
      refine ⟨bq b v, fun u hu => ?_, ?_⟩
      · rw [hL6] at hu
        exact (L_api_Block (Sep.blk (Sep.p2 hu)) _).mpr rfl
      refine ⟨?_, ?_, trivial⟩
      · refine efS_i (cal_i (tClone_spec (htoL hs6).tr hn) ?_)
        rintro _ w7 ⟨g', gm', ov', c', rfl, hs7⟩
        replace hs7 := hs6.join hs7
        refine ⟨Sep.dropL (As := trH g' gm' ov' t N c') hs7, ?_, ?_, trivial⟩
        · refine efC_cut (cal_i (AddU [] L6 (g := g') hs7 (hd.sub hdL) hi.tm.w (hC.fr hs7.fr0) (hbL (Sep.dropL (As := trH g' gm' ov' t N c') hs7)) hh hn) ?_)
          rintro _ w8 ⟨N2, ov2, c2, E2, rfl, _, hs8⟩
          have hs9 : Sep w0 w8 L6 := Sep.dropL (As := E2) (Sep.dropL (As := trH g' gm' ov2 t N2 c2) hs8)
          refine ⟨fun u => Sep w0 u L6, hs9, ?_⟩
          try simp only [fx, Nat.reduceAdd, forall_const]
          refine efS_i (alloc_s hs9 (A_api_ID w8) fun g8 w10 hs10 => ⟨hs10.tail, ?_⟩)
          refine efC_stN (St_api_ID (b := addId t N b) hs10 fun w11 hs11 => ?_)
          exact ⟨by first | rfl | trivial, hs11.tail⟩
        · refine efS_i (alloc_s hs7 (A_api_ID w7) fun g8 w8 hs8 => ⟨Sep.dropL (As := trH g' gm' ov' t N c') hs8.tail, ?_⟩)
          refine efC_cut (cal_i (AddU [] (blk g8 (Rdr.cells (rVec 32) (vz 32)).toArray T_api_ID :: L6) (g := g') (Sep.pick hs8 [1, 2, 3, 0] 4) (hd.sub fun A hA => List.mem_cons_of_mem _ (hdL A hA)) hi.tm.w (hC.fr hs8.fr0) (hbL (Sep.dropL (As := trH g' gm' ov' t N c') hs8.tail)) hh hn) ?_)
          rintro _ w9 ⟨N2, ov2, c2, E2, rfl, _, hs9⟩
          have hs10 : Sep w0 w9 (blk g8 (Rdr.cells (rVec 32) (vz 32)).toArray T_api_ID :: L6) := Sep.dropL (As := E2) (Sep.dropL (As := trH g' gm' ov2 t N2 c2) hs9)
          refine ⟨fun u => Sep w0 u L6, hs10.tail, ?_⟩
          try simp only [fx, Nat.reduceAdd, forall_const]
          refine efC_stN (St_api_ID (b := addId t N b) hs10 fun w11 hs11 => ?_)
          exact ⟨by first | rfl | trivial, hs11.tail⟩
      · refine efS_i (alloc_s hs6 (A_api_ID w6) fun g8 w7 hs7 => ⟨hs7.tail, ?_⟩)
        refine efS_i (cal_i (tClone_spec (htoL hs7.tail).tr hn) ?_)
        rintro _ w8 ⟨g', gm', ov', c', rfl, hs8⟩
        replace hs8 := hs7.join hs8
        refine ⟨(Sep.dropL (As := trH g' gm' ov' t N c') hs8).tail, ?_⟩
        refine efC_cut (cal_i (AddU [] (blk g8 (Rdr.cells (rVec 32) (vz 32)).toArray T_api_ID :: L6) (g := g') hs8 (hd.sub fun A hA => List.mem_cons_of_mem _ (hdL A hA)) hi.tm.w (hC.fr hs8.fr0) (hbL (Sep.dropL (As := trH g' gm' ov' t N c') hs8).tail) hh hn) ?_)
        rintro _ w9 ⟨N2, ov2, c2, E2, rfl, _, hs9⟩
        have hs10 : Sep w0 w9 (blk g8 (Rdr.cells (rVec 32) (vz 32)).toArray T_api_ID :: L6) := Sep.dropL (As := E2) (Sep.dropL (As := trH g' gm' ov2 t N2 c2) hs9)
        refine ⟨fun u => Sep w0 u L6, hs10.tail, ?_⟩
        try simp only [fx, Nat.reduceAdd, forall_const]
        refine efC_stN (St_api_ID (b := addId t N b) hs10 fun w11 hs11 => ?_)
        exact ⟨by first | rfl | trivial, hs11.tail⟩
    rintro _ w7 ⟨rfl, hs7⟩ _
    rw [hL6] at hs7
    try simp only [fx, Nat.reduceAdd, forall_const]
    rw [cnd_bool]
    refine ⟨fun h2 => ?_, fun h2 => ?_⟩
    · have h2 : addE t N b ≠ 0 := by simpa using h2
      rw [B_ID0]
      refine St_api_ID hs7.p1 fun w8 hs8 => ?_
      simp only [L_api_ID hs8.blk]
      exact hend (by rw [hE, if_pos h2]) (Sep.dropL (As := [_, _, _]) hs8)
    · have h2 : ¬ addE t N b ≠ 0 := by simpa using h2
      rw [B_ID0]
      refine St_api_ID hs7.p1 fun w8 hs8 => ?_
      simp only [L_api_ID hs8.blk]
      exact hend (by rw [hE, if_neg h2]) (Sep.dropL (As := [_, _, _]) hs8)
  · -- there is room
    have hroom : ∀ x, svM S b.p = some x → x.l.length < 32 := fun x hx => by
      obtain ⟨v0, hS0⟩ := svM_some hx
      have hD : svD S b.p = (v0, x) := by unfold svD; rw [hS0]; rfl
      rw [hD, hS0] at h
      simp only [Option.isSome_some, Bool.true_and, decide_eq_false_iff_not] at h
      have h : ¬ (32 : Int) ≤ x.l.length := h
      omega
    have hE : addTE t N (svM S) b = addE t N b := by
      unfold addTE
      split
      · rfl
      · rename_i h1
        have h1 : addE t N b = 0 := by simpa using h1
        rw [h1]
        cases hx : svM S b.p with
        | none => rfl
        | some x =>
          have := hroom x hx
          simp only
          rw [if_neg (by omega)]
    refine drH_S hs5 fun w6 hs6 _ => ?_
    refine ⟨fun a e z => ∃ g10 N' ov' c' E, a = ptr g10 ∧ e = .int .i64 (addE t N b) ∧ AddRel t N b N' E ∧ Sep w0 z (blk g10 (Rdr.cells (rVec 32) (addId t N b)).toArray T_api_ID :: blk g6 (Rdr.cells Q_api_Snow (snr (svD S b.p).1 (svD S b.p).2)).toArray T_api_Snow :: blk g4 (Rdr.cells (rVec 32) (vz 32)).toArray T_api_ID :: blk g3 (Rdr.cells Q_api_Block (b.p, b.h, v)).toArray T_api_Block ::
      blk g (Rdr.cells Q_topo_Topo (toq p gt gs)).toArray T_topo_Topo :: mpK gs (svF S) :: (trH gt gm ov' t N' c' ++ (E ++ As))), ?_, ?_⟩
    · refine rdS_ld (v := ptr gt) (fun u hu K hk => (hto (Xs := [_, _, _]) hu).ldt K hk) ?_
      refine ⟨bq b v, fun u hu => (L_api_Block (Sep.blk (Sep.p2 hu)) _).mpr rfl, ?_⟩
      refine ⟨?_, ?_, trivial⟩
      · refine efC_cut (cal_i (AddU [blk g6 (Rdr.cells Q_api_Snow (snr (svD S b.p).1 (svD S b.p).2)).toArray T_api_Snow, blk g4 (Rdr.cells (rVec 32) (vz 32)).toArray T_api_ID, blk g3 (Rdr.cells Q_api_Block (b.p, b.h, v)).toArray T_api_Block, blk g (Rdr.cells Q_topo_Topo (toq p gt gs)).toArray T_topo_Topo, mpK gs (svF S)] As (g := gt) (Sep.pick hs6 [5, 6, 7, 0, 1, 2, 3, 4] 8) (hd.sub fun A hA => List.mem_append_right _ hA) hi.tm.w (hC.fr hs6.fr0) (hbz (Xs := [_, _, _, _, _, _, _, _]) hs6) hh hn) ?_)
        rintro _ w7 ⟨N', ov', c', E, rfl, hAR, hs7⟩
        refine ⟨fun u => Sep w0 u _, hs7, ?_⟩
        try simp only [fx, Nat.reduceAdd, forall_const]
        refine efS_i (alloc_s hs7 (A_api_ID w7) fun g10 w8 hs8 => ⟨hs8.tail, ?_⟩)
        refine efC_stN (St_api_ID (b := addId t N b) hs8 fun w9 hs9 => ?_)
        exact ⟨g10, N', ov', c', E, by first | rfl | trivial, by first | rfl | trivial, hAR, Sep.pick hs9 [0, 4, 5, 6, 7, 8, 1, 2, 3] 9⟩
      · refine efS_i (alloc_s hs6 (A_api_ID w6) fun g10 w7 hs7 => ⟨hs7.tail, ?_⟩)
        refine efC_cal (cal_i (AddU [blk g10 (Rdr.cells (rVec 32) (vz 32)).toArray T_api_ID, blk g6 (Rdr.cells Q_api_Snow (snr (svD S b.p).1 (svD S b.p).2)).toArray T_api_Snow, blk g4 (Rdr.cells (rVec 32) (vz 32)).toArray T_api_ID, blk g3 (Rdr.cells Q_api_Block (b.p, b.h, v)).toArray T_api_Block, blk g (Rdr.cells Q_topo_Topo (toq p gt gs)).toArray T_topo_Topo, mpK gs (svF S)] As (g := gt) (Sep.pick hs7 [6, 7, 8, 0, 1, 2, 3, 4, 5] 9) (hd.sub fun A hA => List.mem_append_right _ hA) hi.tm.w (hC.fr hs7.fr0) (hbz (Xs := [_, _, _, _, _, _, _, _, _]) hs7) hh hn) ?_)
        rintro _ w8 ⟨N', ov', c', E, rfl, hAR, hs8⟩
        try simp only [fx, Nat.reduceAdd, forall_const]
        refine efC_stN (St_api_ID (b := addId t N b) (Sep.pick hs8 [3, 0, 1, 2, 4, 5, 6, 7, 8] 9) fun w9 hs9 => ?_)
        exact ⟨g10, N', ov', c', E, by first | rfl | trivial, by first | rfl | trivial, hAR, Sep.pick hs9 [0, 4, 5, 6, 7, 8, 1, 2, 3] 9⟩
    rintro _ _ w7 ⟨g10, N', ov', c', E, rfl, rfl, hAR, hs7⟩ _
    try simp only [fx, Nat.reduceAdd, forall_const]
    rw [cnd_bool]
    refine ⟨fun h2 => ?_, fun h2 => ?_⟩
    · have h2 : addE t N b ≠ 0 := by simpa using h2
      obtain ⟨_, rfl, rfl⟩ := hAR.resolve_right fun hq => h2 hq.1
      rw [B_ID0]
      refine St_api_ID hs7.p2 fun w8 hs8 => ?_
      simp only [L_api_ID hs8.blk]
      have hE0 : addTE t N' (svM S) b ≠ 0 := by rw [hE]; exact h2
      exact hR _ _ ⟨N', ov', c', S, [], by rw [addTId, if_neg hE0, hE], ⟨fun _ => ⟨rfl, rfl, rfl⟩, fun hq => absurd hq hE0⟩, Sep.dropL (As := [_, _, _, _]) hs8⟩
    have h2 : addE t N b = 0 := by simpa using h2
    obtain ⟨_, vd, cc, rfl, rfl⟩ := hAR.resolve_left fun hq => hq.1 h2
    have hE0 : addTE t N (svM S) b = 0 := by rw [hE]; exact h2
    have hid : addId t N b = b.id := by rw [addId, if_pos h2]
    rw [hid] at hs7
    obtain ⟨a1, a2, a3, a4, a5, a6⟩ := addE_ok h2
    refine ⟨fun a z => ∃ v1 x1, a = .int .i64 0 ∧ svM (updV S b.p (v1, x1)) = addTS p (svM S) b b.id ∧ Sep w0 z (rows Q_api_Choice v1 x1.l :: blk g10 (Rdr.cells (rVec 32) b.id).toArray T_api_ID :: blk g6 (Rdr.cells Q_api_Snow (snr v1 x1)).toArray T_api_Snow :: blk g4 (Rdr.cells (rVec 32) (vz 32)).toArray T_api_ID :: blk g3 (Rdr.cells Q_api_Block (b.p, b.h, v)).toArray T_api_Block ::
      blk g (Rdr.cells Q_topo_Topo (toq p gt gs)).toArray T_topo_Topo :: mpK gs (svF S) :: (trH gt gm ov' t (N ++ [(b.id, b, vd, cc)]) c' ++ ([ownB vd b.d] ++ As))), ?_, ?_⟩
    · change cnd _ _ _
      rw [cnd_bool]
      refine ⟨fun h3 => ?_, fun h3 => ?_⟩
      · obtain ⟨v0, x, hS0, hx, hD⟩ := (sv_cases S b.p).resolve_left (by rintro ⟨h1, _⟩; rw [h1] at h3; cases h3)
        have hmx := hi.may _ _ hx
        have hadd : addM p x b.id = ({ x with l := x.l ++ [(b.id, 0)] }, 0) := by
          rcases add_may (id := b.id) hmx with hq | ⟨hq, _⟩
          · exfalso
            have hno : ¬ 0 ≤ plc x.l b.id := fun hp => by
              obtain ⟨i, d, _, hd, hd1, _⟩ := plc_pos hp
              have : b.id ∈ x.l.map (·.1) := by rw [← hd1]; exact List.mem_map_of_mem (List.mem_of_getElem? hd)
              rw [(hi.kids _ x hx).2, kid_iff hi.tm.w hi.tm.nd, a2] at this
              cases this.2.1
            apply hq
            have := hroom x hx
            rw [addM, if_neg (by simpa using may_iff.2 hmx), if_neg hno, if_neg (by omega)]
          · exact hq
        rw [hD] at hs7
        have hrow : ∀ {z : World} {Xs : List Asn}, Sep w0 z (Xs ++ ([ownB vd b.d] ++ As)) → Rows' Q_api_Choice z.heap v0 x.l := fun {z Xs} hz => by
          obtain ⟨F, hF⟩ := hz.onL (A := rows Q_api_Choice v0 x.l) (List.mem_append_right _ (List.mem_append_right _ (hsd b.p (v0, x) hS0)))
          exact Own.cel hF
        refine drH_S hs7 fun w8 hs8 _ => ?_
        refine ⟨pav p, fun u hu => (L_topo_Topo__p (Sep.blk (Sep.p4 hu)) _).mpr rfl, ?_⟩
        refine ⟨snv v0 x, fun u hu => (L_api_Snow (Sep.blk hu.p1) _).mpr rfl, ?_⟩
        refine ⟨kv b.id, fun u hu => (L_api_ID (Sep.blk hu) _).mpr rfl, ?_⟩
        have hrw := hrow (Xs := [_, _, _, _, _, _, _, _, _]) hs8
        refine efC_cal (cal_i (snAdd_spec hrw (by have := hmx.n2; omega) hrw.one1) ?_)
        rintro _ w9 ⟨v1, rfl, hs9⟩
        rw [hadd] at hs9 ⊢
        have hs10 := hs8.join hs9
        try simp only [fx, Nat.reduceAdd, forall_const]
        refine efC_stN (St_api_Snow (b := snr v1 { x with l := x.l ++ [(b.id, 0)] }) (Sep.pick hs10 [2, 0, 1, 3, 4, 5, 6, 7, 8, 9] 10) (one_api_Snow (Sep.oneR hs10)) fun w11 hs11 => ?_)
        refine ⟨v1, { x with l := x.l ++ [(b.id, 0)] }, by first | rfl | trivial, ?_, Sep.pick hs11 [1, 2, 0, 3, 4, 5, 6, 7, 8, 9] 10⟩
        rw [svM_upd]
        unfold addTS
        rw [hx]
      · have hx : svM S b.p = none := by
          unfold svM
          cases hq : S b.p with
          | none => rfl
          | some q => rw [hq] at h3; cases h3
        obtain ⟨_, hn2, _, _⟩ := new_may (id := b.id) hi.par
        refine drH_S hs7 fun w8 hs8 _ => ?_
        refine ⟨pav p, fun u hu => (L_topo_Topo__p (Sep.blk (Sep.p4 hu)) _).mpr rfl, ?_⟩
        refine ⟨kv b.id, fun u hu => (L_api_ID (Sep.blk hu) _).mpr rfl, ?_⟩
        refine efC_cal (cal_i snNew_spec ?_)
        rintro _ w9 ⟨v1, rfl, hs9⟩
        rw [hn2]
        have hs10 := hs8.join hs9
        try simp only [fx, Nat.reduceAdd, forall_const]
        refine efC_stN (St_api_Snow (b := snr v1 (newM p b.id).1) (Sep.pick hs10 [2, 0, 1, 3, 4, 5, 6, 7, 8, 9] 10) (one_api_Snow (Sep.oneR hs10)) fun w11 hs11 => ?_)
        refine ⟨v1, (newM p b.id).1, by first | rfl | trivial, ?_, Sep.pick hs11 [1, 2, 0, 3, 4, 5, 6, 7, 8, 9] 10⟩
        rw [svM_upd]
        unfold addTS
        rw [hx]
    rintro _ w8 ⟨v1, x1, rfl, hSM, hs8⟩ _
    refine ⟨fun z => Sep w0 z (rows Q_api_Choice v1 x1.l :: blk g10 (Rdr.cells (rVec 32) b.id).toArray T_api_ID :: blk g4 (Rdr.cells (rVec 32) (vz 32)).toArray T_api_ID ::
      blk g (Rdr.cells Q_topo_Topo (toq p gt gs)).toArray T_topo_Topo :: mpK gs (svF (updV S b.p (v1, x1))) :: (trH gt gm ov' t (N ++ [(b.id, b, vd, cc)]) c' ++ ([ownB vd b.d] ++ As))), ?_, ?_⟩
    · try simp only [fx, Nat.reduceAdd, forall_const, show ((0 : Int) == 0) = true from rfl]
      refine drH_S hs8 fun w9 hs9 _ => ?_
      refine rdS_ld (v := .map (some gs)) (fun u hu K hk => (L_topo_Topo__snows (Sep.blk (Sep.p5 hu)) K).mpr hk) ?_
      refine ⟨kv b.p, fun u hu => (L_api_Block__Parent (Sep.blk (Sep.p4 hu)) _).mpr rfl, ?_⟩
      refine ⟨snv v1 x1, fun u hu => (L_api_Snow (Sep.blk (Sep.p2 hu)) _).mpr rfl, ?_⟩
      refine efC_efU (putK_s U_map_api_ID_api_Snow KT (Sep.pick hs9 [6, 0, 1, 3, 5, 7, 8, 9] 10) fun w10 hs10 => ?_)
      rw [svF_upd S b.p (v1, x1)] at hs10
      exact Sep.pick hs10 [1, 2, 3, 4, 0] 5
    rintro w9 hs9 _
    simp only [L_api_ID (Sep.blk hs9.p1)]
    refine St_api_ID hs9.p2 fun w10 hs10 => ?_
    simp only [L_api_ID (Sep.blk hs10)]
    refine hR _ _ ⟨N ++ [(b.id, b, vd, cc)], ov', c', updV S b.p (v1, x1), [rows Q_api_Choice v1 x1.l, ownB vd b.d], by rw [addTId, if_pos hE0, hE0], ⟨fun hq => absurd hE0 hq, fun _ => ⟨vd, cc, v1, x1, rfl, rfl, hSM, rfl⟩⟩, ?_⟩
    exact Sep.pick hs10 [3, 4, 5, 6, 7, 1, 8] 9
end
end Go.Fx
set_option linter.unusedVariables false
set_option linter.unusedSimpArgs false
namespace Go.Fx
section
variable {w0 w w' : World} {As : List Asn} {gx o : Nat} {ids : List (Vec 32)} {hs : List Int} {x : AC}
theorem nTold_spec {cur : Array Value} {T : TypeId} {x y v : Value} {b : Blk} {id : Vec 32} (hs0 : Sep w0 w (blk gx cur T :: rows (rVec 32) x ids :: rows (rInt .i64) y hs :: As)) (hcx : cur[o]? = some x) (hcy : cur[o + 1]? = some y) (hl1 : ids.length ≤ 1000000) (hl2 : hs.length ≤ 1000000) :
    cal P f_law19_names_told [.pointer (some ⟨gx, o, none⟩), kv id, bq b v] w fun r w' => r = .tuple #[] ∧ ∃ x' y', Sep w0 w' (blk gx ((cur.setIfInBounds o x').setIfInBounds (o + 1) y') T :: rows (rVec 32) x' (ids ++ [id]) :: rows (rInt .i64) y' (hs ++ [b.h]) :: As) := by
  have ho : o + 1 < cur.size := (Array.getElem?_eq_some_iff.1 hcy).1
  refine s_law19_names_told fun R hR => ?_
  unfold c_law19_names_told
  refine bxQ hs0 fun g4 w1 hs1 => ?_
  refine bxQ hs1 fun g5 w2 hs2 => ?_
  refine ⟨fun u => Sep w0 u (blk g5 (Rdr.cells Q_api_Block (b.p, b.h, v)).toArray T_api_Block :: blk g4 (Rdr.cells (rVec 32) id).toArray T_api_ID :: blk gx cur T :: As), Sep.pick (hs2.drew _) [0, 1, 2] 5, ?_⟩
  refine ⟨fun z => ∃ x' y', Sep w0 z (blk gx ((cur.setIfInBounds o x').setIfInBounds (o + 1) y') T :: rows (rVec 32) x' (ids ++ [id]) :: rows (rInt .i64) y' (hs ++ [b.h]) :: As), ?_, ?_⟩
  · try simp only [fx, Nat.reduceAdd, forall_const]
    refine rdS_ld (v := x) (fun u hu K hk => ld1_i (Sep.blk (Sep.p2 hu)) hcx hk) ?_
    refine ⟨kv id, fun u hu => (L_api_ID (Sep.blk (Sep.p1 hu)) _).mpr rfl, ?_⟩
    refine rdS_ld (v := y) (fun u hu K hk => ld1_i (Sep.blk (Sep.p2 hu)) hcy hk) ?_
    refine rdS_ld (v := .int .i64 b.h) (fun u hu K hk => (L_api_Block__Height (Sep.blk hu) K).mpr hk) ?_
    refine three_app (Sep.pick (hs2.drew _) [3, 4, 0, 1, 2] 5) hl1 hl2 fun x' y' z hz => ?_
    refine efC_st1 (st1_s (Sep.pick hz [4, 0, 1, 2, 3] 5) (by omega) (Sep.oneR hz) fun z2 hz2 => ?_)
    refine efC_st1 (st1_s hz2 (by simp; omega) (Sep.oneR (Sep.pick hz2 [2] 3)) fun z3 hz3 => ?_)
    exact ⟨x', y', Sep.pick hz3 [0, 1, 2] 5⟩
  · rintro z ⟨x', y', hz⟩ _
    exact hR _ _ ⟨rfl, x', y', hz⟩
end
/-- The law's world. -/
def wH (gw g gt gm gs : Nat) (ov : Value) (p : Par) (t : Tr) (N : List TN) (c : Nat) (S : SV) (xi yh lv gv : Value) (ids : List (Vec 32)) (hs : List Int) (line gone : List (Vec 32)) : List Asn :=
  blk gw (Rdr.cells Q_flurrylaw19_world (ptr g, (xi, yh), lv, gv)).toArray T_flurrylaw19_world :: rows (rVec 32) xi ids :: rows (rInt .i64) yh hs :: rows (rVec 32) lv line :: rows (rVec 32) gv gone :: toH g gt gm gs ov p t N c S
section
variable {w0 w w' : World} {As : List Asn} {gw g gt gm gs c : Nat} {ov xi yh lv gv : Value} {p : Par} {t : Tr} {N : List TN} {S : SV} {ids line gone : List (Vec 32)} {hs : List Int} {x : AC} {m : Nat}
theorem fresh_spec (q : Par × Vec 32 × Int × Int) : cal P f_law19_fresh [.agg (Rdr.cells Q_flurrylaw19_Start q).toArray] w fun r w' => (r = .pointer none ∧ Fr [] w w') ∨
    ((parE q.1 = 0 ∧ 0 ≤ q.2.2.1) ∧ ∃ gw g gt gm gs xi yh, r = ptr gw ∧ Sep w w' (wH gw g gt gm gs (.slice none 0 0) q.1 ⟨q.2.1, q.2.2.1, q.2.2.2⟩ [] 0 (fun _ => none) xi yh (.slice none 0 0) (.slice none 0 0) [q.2.1] [q.2.2.1] [] [])) := by
  refine s_law19_fresh fun R hR => ?_
  unfold c_law19_fresh
  refine bxQ (Sep.start w) fun g1 w1 hs1 => ?_
  simp only [fx, Nat.reduceAdd, forall_const, L_flurrylaw19_Start (Sep.blk hs1), L_flurrylaw19_Start__P (Sep.blk hs1), L_flurrylaw19_Start__P_K (Sep.blk hs1), L_flurrylaw19_Start__P_AlphaPref (Sep.blk hs1), L_flurrylaw19_Start__P_AlphaConf (Sep.blk hs1), L_flurrylaw19_Start__P_Beta (Sep.blk hs1), L_flurrylaw19_Start__Root (Sep.blk hs1), L_flurrylaw19_Start__Height (Sep.blk hs1), L_flurrylaw19_Start__Most (Sep.blk hs1)]
  refine cal_i (oNew_spec q.1 q.2.1 q.2.2.1 q.2.2.2) ?_
  rintro _ w2 (⟨e, he, _, _, rfl, hf2⟩ | ⟨hq, g, gt, gm, gs, rfl, hs2⟩)
  · have e1 : (e != 0) = true := bne_iff_ne.2 he
    try simp only [fx, Nat.reduceAdd, forall_const, e1]
    exact hR _ _ (.inl ⟨rfl, (hs1.old hf2).fr0⟩)
  · have hs3 := hs1.join hs2
    try simp only [fx, Nat.reduceAdd, forall_const, show ((0 : Int) != 0) = false from rfl, Option.isNone_some]
    simp only [L_flurrylaw19_Start (Sep.blk (Sep.pick hs3 [5] 6)), L_flurrylaw19_Start__P (Sep.blk (Sep.pick hs3 [5] 6)), L_flurrylaw19_Start__P_K (Sep.blk (Sep.pick hs3 [5] 6)), L_flurrylaw19_Start__P_AlphaPref (Sep.blk (Sep.pick hs3 [5] 6)), L_flurrylaw19_Start__P_AlphaConf (Sep.blk (Sep.pick hs3 [5] 6)), L_flurrylaw19_Start__P_Beta (Sep.blk (Sep.pick hs3 [5] 6)), L_flurrylaw19_Start__Root (Sep.blk (Sep.pick hs3 [5] 6)), L_flurrylaw19_Start__Height (Sep.blk (Sep.pick hs3 [5] 6)), L_flurrylaw19_Start__Most (Sep.blk (Sep.pick hs3 [5] 6))]
    refine bldI hs3 fun xi w4 hs4 => ?_
    simp only [L_flurrylaw19_Start (Sep.blk (Sep.pick hs4 [6] 7)), L_flurrylaw19_Start__P (Sep.blk (Sep.pick hs4 [6] 7)), L_flurrylaw19_Start__P_K (Sep.blk (Sep.pick hs4 [6] 7)), L_flurrylaw19_Start__P_AlphaPref (Sep.blk (Sep.pick hs4 [6] 7)), L_flurrylaw19_Start__P_AlphaConf (Sep.blk (Sep.pick hs4 [6] 7)), L_flurrylaw19_Start__P_Beta (Sep.blk (Sep.pick hs4 [6] 7)), L_flurrylaw19_Start__Root (Sep.blk (Sep.pick hs4 [6] 7)), L_flurrylaw19_Start__Height (Sep.blk (Sep.pick hs4 [6] 7)), L_flurrylaw19_Start__Most (Sep.blk (Sep.pick hs4 [6] 7))]
    refine bldH hs4 fun yh w5 hs5 => ?_
    rw [B_flurrylaw19_names_0_1 (Sep.oneR hs5.p1) (Sep.oneR hs5), B_flurrylaw19_world_0_1 rfl]
    refine bxQ hs5 fun gw w6 hs6 => ?_
    exact hR _ _ (.inr ⟨⟨hq.1, hq.2.1⟩, gw, g, gt, gm, gs, xi, yh, rfl, Sep.pick (Sep.nilR (q := rVec 32) (Sep.nilR (q := rVec 32) hs6)) [2, 4, 3, 0, 1, 5, 6, 7, 8, 9] 11⟩)
end
end Go.Fx
set_option linter.unusedVariables false
set_option linter.unusedSimpArgs false
namespace Go.Fx
theorem rowsNil {α : Type} (q : Rdr α) (h : Heap) : Rows' q h (.slice none 0 0) [] := ⟨none, 0, rfl, by simp, .inl (by simp)⟩
section
variable {w0 w w' : World} {As : List Asn} {gw g gt gm gs c : Nat} {ov xi yh lv gv : Value} {p : Par} {t : Tr} {N : List TN} {S : SV} {ids line gone : List (Vec 32)} {hs : List Int} {x : AC} {m : Nat}
theorem app_ids {u v : Value} {a b : List (Vec 32)} {K : Value → World → Prop} (hs : Sep w0 w (rows (rVec 32) u a :: As)) (hv : Rows' (rVec 32) w.heap v b) (hl1 : a.length ≤ 1000000) (hl2 : b.length ≤ 1000000)
    (hk : ∀ v' z, Sep w0 z (rows (rVec 32) v' (a ++ b) :: As) → K v' z) : efP P (Builtin.append_ #[T_sl_api_ID, T_sl_api_ID] T_sl_api_ID #[u, v]) w K := by
  refine rows_app S_sl_api_ID U_sl_api_ID (by simp) hs hv ?_ (by omega) (by omega) fun v' z hz => hk v' z hz
  intro u hu
  obtain ⟨y, hy, hu⟩ := List.mem_flatMap.1 hu
  exact oneVec u hu
/-- The end of a poll's act: what was accepted and rejected is noted. -/
theorem wNote {rv av : Value} {Xs : List Asn} {acc rej : List (Vec 32)} {e : Int} {xy : Value × Value} {R : KR} (hs0 : Sep w0 w (blk gw (Rdr.cells Q_flurrylaw19_world (ptr g, xy, lv, gv)).toArray T_flurrylaw19_world :: rows (rVec 32) lv line :: rows (rVec 32) gv gone :: Xs))
    (hav : ∀ z, Sep w0 z Xs → Rows' (rVec 32) z.heap av acc) (hrv : ∀ z, Sep w0 z Xs → Rows' (rVec 32) z.heap rv rej) (l1 : line.length ≤ 1000000) (l2 : gone.length ≤ 1000000) (l3 : acc.length ≤ 1000000) (l4 : rej.length ≤ 1000000)
    (hR : ∀ lv' gv' z, Sep w0 z (blk gw (Rdr.cells Q_flurrylaw19_world (ptr g, xy, lv', gv')).toArray T_flurrylaw19_world :: rows (rVec 32) lv' (line ++ acc) :: rows (rVec 32) gv' (gone ++ rej) :: Xs) → R (.bool (e == 0)) z) :
    drH w fun S w => rdS S (fun w => ld1 (.pointer (some ⟨gw, 3, none⟩)) w.heap) fun t55 => rdS S (fun w => ld1 (.pointer (some ⟨gw, 4, none⟩)) w.heap) fun t61 =>
      efS S (efP P (Builtin.append_ #[T_sl_api_ID, T_sl_api_ID] T_sl_api_ID #[t55, av])) w fun t57 w => efC (efP P (Builtin.append_ #[T_sl_api_ID, T_sl_api_ID] T_sl_api_ID #[t61, rv])) w fun S t63 w =>
      efC (fun w K => st1 (.pointer (some ⟨gw, 3, none⟩)) t57 w (K undef)) w fun S _ w => efC (fun w K => st1 (.pointer (some ⟨gw, 4, none⟩)) t63 w (K undef)) w fun S _ w => R (.bool (e == 0)) w := by
  refine ⟨fun u => Sep w0 u (blk gw (Rdr.cells Q_flurrylaw19_world (ptr g, xy, lv, gv)).toArray T_flurrylaw19_world :: Xs), (hs0.drew _).d1.d1, ?_⟩
  refine rdS_ld (v := lv) (fun u hu K hk => (L_flurrylaw19_world__line (Sep.blk hu) K).mpr hk) ?_
  refine rdS_ld (v := gv) (fun u hu K hk => (L_flurrylaw19_world__gone (Sep.blk hu) K).mpr hk) ?_
  have h1 := (hs0.drew (w.drawn + 1)).p1
  refine efS_i (app_ids h1 (hav _ h1.tail.tail.tail) l1 l3 fun lv' z1 hz1 => ⟨?_, ?_⟩)
  · exact hz1.tail.d1
  have h2 := hz1.p2
  refine efC_efP (app_ids h2 (hrv _ h2.tail.tail.tail) l2 l4 fun gv' z2 hz2 => ?_)
  refine efC_st1 (St_flurrylaw19_world__line (Sep.p2 hz2) (Sep.oneR hz2.p1) fun z3 hz3 => ?_)
  refine efC_st1 (St_flurrylaw19_world__gone hz3 (Sep.oneR hz3.p1) fun z4 hz4 => ?_)
  exact hR lv' gv' z4 (Sep.pick hz4 [0, 2, 1] 3)
set_option maxHeartbeats 1000000 in
theorem wDoes_spec (hs0 : Sep w0 w (wH gw g gt gm gs ov p t N c S xi yh lv gv ids hs line gone ++ As)) (hd : Dat N As) (hsd : SDat S As) (hi : TpI p m t N (svM S)) (hC : Cub w0) (hx : ARd w0.heap x) (hk : AOk1 x)
    (hl : hs.length = ids.length) (h0 : 0 < ids.length) (hn : ids.length ≤ 1000000) (hp : ∀ y ∈ hs, 0 ≤ y) (hfs : x.fs.length ≤ 1000) (hN : N.length ≤ 1000000) (hl1 : line.length ≤ 1000000) (hl2 : gone.length ≤ 1000000) :
    cal P f_law19_world_does [ptr gw, acV x] w fun r w' =>
      (x.poll = false ∧ r = .bool false ∧ ∃ N' ov' c' S' E xi' yh', AddT p t N S (bN ids hs x) N' S' E ∧
        Sep w0 w' (wH gw g gt gm gs ov' p t N' c' S' xi' yh' lv gv (if addTE t N (svM S) (bN ids hs x) = 0 then ids ++ [(bN ids hs x).id] else ids) (if addTE t N (svM S) (bN ids hs x) = 0 then hs ++ [(bN ids hs x).h] else hs) line gone ++ (E ++ As))) ∨
      (x.poll = true ∧ pollE p (votesM ids x.fs []) ≠ 0 ∧ r = .bool false ∧ ∃ lv' gv', Sep w0 w' (wH gw g gt gm gs ov p t N c S xi yh lv' gv' ids hs line gone ++ As)) ∨
      (x.poll = true ∧ pollE p (votesM ids x.fs []) = 0 ∧ r = .bool true ∧ ∃ s gs' ov' N' S' E lv' gv', PollOut p (votesM ids x.fs []) t N (svM S) s ∧ s.N = sN N' ∧ (∀ y ∈ N', y ∈ N) ∧ svM S' = failS p s.t s.N s.S s.pol ∧ SDat S' (E ++ As) ∧
        Sep w0 w' (wH gw g gt gm gs' ov' p s.t N' c S' xi yh lv' gv' ids hs (line ++ s.acc) (gone ++ s.rej) ++ (E ++ As))) := by
  refine s_law19_world_does fun R hR => ?_
  unfold c_law19_world_does
  refine bxQ hs0 fun g3 w1 hs1 => ?_
  have epoll : (AC.t x).1 = x.poll := rfl
  have nmR : ∀ {z : World} {Xs : List Asn}, Sep w0 z (Xs ++ (wH gw g gt gm gs ov p t N c S xi yh lv gv ids hs line gone ++ As)) → NmR z.heap gw 1 ids hs := fun h => by
    have h := Sep.dropL h
    exact ⟨_, _, _, xi, yh, Sep.blk h, rfl, rfl, Sep.rows h.tail, Sep.rows h.tail.tail⟩
  simp only [fx, Nat.reduceAdd, forall_const, L_flurrylaw19_Act (Sep.blk hs1), L_flurrylaw19_Act__Poll (Sep.blk hs1), L_flurrylaw19_Act__K (Sep.blk hs1), L_flurrylaw19_Act__Data (Sep.blk hs1), L_flurrylaw19_Act__Votes (Sep.blk hs1), epoll]
  rw [cnd_bool]
  refine ⟨fun h => ?_, fun h => ?_⟩
  · have hpf : x.poll = false := by simpa using h
    obtain ⟨b, hb⟩ : ∃ b, b = bN ids hs x := ⟨_, rfl⟩
    rw [← hb] at hR
    have hbh : b.h ≤ maxI := by rw [hb]; exact bN_h
    have hbd : b.d = x.d := by rw [hb]; rfl
    refine drH_S hs1 fun w2 hs2 _ => ?_
    refine ⟨fun a z => ∃ g5, a = ptr g5 ∧ Sep w0 z (blk g5 (Rdr.cells Q_api_Block (b.p, b.h, x.dv)).toArray T_api_Block :: blk g3 (Rdr.cells Q_flurrylaw19_Act x.t).toArray T_flurrylaw19_Act :: (wH gw g gt gm gs ov p t N c S xi yh lv gv ids hs line gone ++ As)), ?_, ?_⟩
    · refine ⟨acV x, fun u hu => (L_flurrylaw19_Act (Sep.blk hu) _).mpr rfl, ?_⟩
      refine ⟨?_, ?_, trivial⟩
      · refine efC_cut (cal_i (nBlock_spec (nmR (Xs := [_]) hs2) hl h0 hn hp (hx.fr hs2.fr0) hk) ?_)
        rintro _ w3 ⟨rfl, hf3⟩
        have hs3 := hs2.old hf3
        rw [← hb]
        refine ⟨fun u => Sep w0 u _, hs3, ?_⟩
        refine efS_i (alloc_s hs3 (A_api_Block w3) fun g5 w4 hs4 => ⟨hs4.tail, ?_⟩)
        refine efC_stN (St_api_Block (b := (b.p, b.h, x.dv)) hs4 (one_api_Block hx.d.one) fun w5 hs5 => ?_)
        exact ⟨g5, rfl, hs5⟩
      · refine efS_i (alloc_s hs2 (A_api_Block w2) fun g5 w3 hs3 => ⟨hs3.tail, ?_⟩)
        refine efC_cal (cal_i (nBlock_spec (nmR (Xs := [_, _]) hs3) hl h0 hn hp (hx.fr hs3.fr0) hk) ?_)
        rintro _ w4 ⟨rfl, hf4⟩
        have hs4 := hs3.old hf4
        rw [← hb]
        refine efC_stN (St_api_Block (b := (b.p, b.h, x.dv)) hs4 (one_api_Block hx.d.one) fun w5 hs5 => ?_)
        exact ⟨g5, rfl, hs5⟩
    rintro _ w3 ⟨g5, rfl, hs3⟩ _
    refine drH_S hs3 fun w4 hs4 _ => ?_
    refine ⟨fun a e z => ∃ g6 N' ov' c' S' E, a = ptr g6 ∧ e = .int .i64 (addTE t N (svM S) b) ∧ AddT p t N S b N' S' E ∧ Sep w0 z (blk g6 (Rdr.cells (rVec 32) (addTId t N (svM S) b)).toArray T_api_ID :: blk g5 (Rdr.cells Q_api_Block (b.p, b.h, x.dv)).toArray T_api_Block :: blk g3 (Rdr.cells Q_flurrylaw19_Act x.t).toArray T_flurrylaw19_Act ::
      blk gw (Rdr.cells Q_flurrylaw19_world (ptr g, (xi, yh), lv, gv)).toArray T_flurrylaw19_world :: rows (rVec 32) xi ids :: rows (rInt .i64) yh hs :: rows (rVec 32) lv line :: rows (rVec 32) gv gone :: (toH g gt gm gs ov' p t N' c' S' ++ (E ++ As))), ?_, ?_⟩
    · try simp only [fx, Nat.reduceAdd, forall_const]
      refine rdS_ld (v := ptr g) (fun u hu K hk => (L_flurrylaw19_world__t (Sep.blk (Sep.p2 hu)) K).mpr hk) ?_
      refine ⟨bq b x.dv, fun u hu => (L_api_Block (Sep.blk hu) _).mpr rfl, ?_⟩
      refine ⟨?_, ?_, trivial⟩
      · refine efC_cut (cal_i (oAdd_spec (As := blk g5 (Rdr.cells Q_api_Block (b.p, b.h, x.dv)).toArray T_api_Block :: blk g3 (Rdr.cells Q_flurrylaw19_Act x.t).toArray T_flurrylaw19_Act ::
          blk gw (Rdr.cells Q_flurrylaw19_world (ptr g, (xi, yh), lv, gv)).toArray T_flurrylaw19_world :: rows (rVec 32) xi ids :: rows (rInt .i64) yh hs :: rows (rVec 32) lv line :: rows (rVec 32) gv gone :: As)
          (Sep.pick hs4 [7, 8, 9, 10, 11, 0, 1, 2, 3, 4, 5, 6] 12) (hd.sub fun A hA => by simp [hA]) (hsd.sub fun A hA => by simp [hA]) hi hC (fun z hz => by rw [hbd]; exact (hx.fr hz.fr0).d) hbh hN) ?_)
        rintro _ w5 ⟨N', ov', c', S', E, rfl, hAT, hs5⟩
        have hs6 := hs5.perm (List.Perm.append_left _ (permL E [_, _, _, _, _, _, _] As))
        refine ⟨fun u => Sep w0 u _, hs6, ?_⟩
        try simp only [fx, Nat.reduceAdd, forall_const]
        refine efS_i (alloc_s hs6 (A_api_ID w5) fun g6 w7 hs7 => ⟨hs7.tail, ?_⟩)
        refine efC_stN (St_api_ID (b := addTId t N (svM S) b) hs7 fun w8 hs8 => ?_)
        exact ⟨g6, N', ov', c', S', E, by first | rfl | trivial, by first | rfl | trivial, hAT, Sep.pick hs8 [0, 6, 7, 8, 9, 10, 11, 12, 1, 2, 3, 4, 5] 13⟩
      · refine efS_i (alloc_s hs4 (A_api_ID w4) fun g6 w5 hs5 => ⟨hs5.tail, ?_⟩)
        refine efC_cal (cal_i (oAdd_spec (As := blk g6 (Rdr.cells (rVec 32) (vz 32)).toArray T_api_ID :: blk g5 (Rdr.cells Q_api_Block (b.p, b.h, x.dv)).toArray T_api_Block :: blk g3 (Rdr.cells Q_flurrylaw19_Act x.t).toArray T_flurrylaw19_Act ::
          blk gw (Rdr.cells Q_flurrylaw19_world (ptr g, (xi, yh), lv, gv)).toArray T_flurrylaw19_world :: rows (rVec 32) xi ids :: rows (rInt .i64) yh hs :: rows (rVec 32) lv line :: rows (rVec 32) gv gone :: As)
          (Sep.pick hs5 [8, 9, 10, 11, 12, 0, 1, 2, 3, 4, 5, 6, 7] 13) (hd.sub fun A hA => by simp [hA]) (hsd.sub fun A hA => by simp [hA]) hi hC (fun z hz => by rw [hbd]; exact (hx.fr hz.fr0).d) hbh hN) ?_)
        rintro _ w6 ⟨N', ov', c', S', E, rfl, hAT, hs6⟩
        have hs7 := hs6.perm (List.Perm.append_left _ (permL E [_, _, _, _, _, _, _, _] As))
        try simp only [fx, Nat.reduceAdd, forall_const]
        refine efC_stN (St_api_ID (b := addTId t N (svM S) b) (Sep.pick hs7 [5, 0, 1, 2, 3, 4, 6, 7, 8, 9, 10, 11, 12] 13) fun w8 hs8 => ?_)
        exact ⟨g6, N', ov', c', S', E, by first | rfl | trivial, by first | rfl | trivial, hAT, Sep.pick hs8 [0, 6, 7, 8, 9, 10, 11, 12, 1, 2, 3, 4, 5] 13⟩
    rintro _ _ w5 ⟨g6, N', ov', c', S', E, rfl, rfl, hAT, hs5⟩ _
    try simp only [fx, Nat.reduceAdd, forall_const]
    rw [cnd_bool]
    refine ⟨fun h2 => ?_, fun h2 => ?_⟩
    · have h2 : addTE t N (svM S) b = 0 := by simpa using h2
      have hid : addTId t N (svM S) b = b.id := by rw [addTId, if_pos h2]
      rw [hid] at hs5
      refine drH_S hs5 fun w6 hs6 _ => ?_
      refine ⟨kv b.id, fun u hu => (L_api_ID (Sep.blk hu) _).mpr rfl, ?_⟩
      refine ⟨bq b x.dv, fun u hu => (L_api_Block (Sep.blk (Sep.p1 hu)) _).mpr rfl, ?_⟩
      refine efC_cal (cal_i (nTold_spec (gx := gw) (o := 1) (x := xi) (y := yh) (Sep.pick hs6 [3, 4, 5, 0, 1, 2, 6, 7, 8, 9, 10, 11, 12] 13) rfl rfl hn (by omega)) ?_)
      rintro _ w7 ⟨rfl, xi', yh', hs7⟩
      refine hR _ _ (.inl ⟨hpf, rfl, N', ov', c', S', E, xi', yh', hAT, ?_⟩)
      rw [if_pos h2, if_pos h2]
      exact Sep.pick hs7 [0, 1, 2, 6, 7, 8, 9, 10, 11, 12] 13
    · have h2 : ¬ addTE t N (svM S) b = 0 := by simpa using h2
      refine hR _ _ (.inl ⟨hpf, rfl, N', ov', c', S', E, xi, yh, hAT, ?_⟩)
      rw [if_neg h2, if_neg h2]
      exact Sep.pick hs5 [3, 4, 5, 6, 7, 8, 9, 10, 11, 12] 13
  · have hpt : x.poll = true := by simpa using h
    obtain ⟨V, hV⟩ : ∃ V, V = votesM ids x.fs [] := ⟨_, rfl⟩
    have hVl : V.length ≤ 1000000 := by have := votesM_len ids x.fs []; rw [hV]; simp at this; omega
    rw [← hV] at hR
    refine drH_S hs1 fun w2 hs2 _ => ?_
    refine rdS_ld (v := ptr g) (fun u hu K hk => (L_flurrylaw19_world__t (Sep.blk (Sep.p1 hu)) K).mpr hk) ?_
    refine ⟨acV x, fun u hu => (L_flurrylaw19_Act (Sep.blk hu) _).mpr rfl, ?_⟩
    refine efS_i (cal_i (nVotes_spec (nmR (Xs := [_]) hs2) h0 hn (hx.fr hs2.fr0) hk hfs) ?_)
    rintro vv w3 hs3
    rw [← hV] at hs3
    replace hs3 := hs2.join hs3
    refine ⟨hs3.tail, ?_⟩
    refine efC_cal (cal_i (oPoll_spec (V := V) (As := rows Q_api_Vote vv V :: blk g3 (Rdr.cells Q_flurrylaw19_Act x.t).toArray T_flurrylaw19_Act ::
      blk gw (Rdr.cells Q_flurrylaw19_world (ptr g, (xi, yh), lv, gv)).toArray T_flurrylaw19_world :: rows (rVec 32) xi ids :: rows (rInt .i64) yh hs :: rows (rVec 32) lv line :: rows (rVec 32) gv gone :: As)
      (Sep.pick hs3 [7, 8, 9, 10, 11, 0, 1, 2, 3, 4, 5, 6] 12) (hd.sub fun A hA => by simp [hA]) hsd (fun A hA => by simp [hA]) hi (fun z hz => Sep.rows hz) hVl hN) ?_)
    rintro _ w4 (⟨he, rfl, hs4⟩ | ⟨he, s, av, rv, gs', ov', N', S', E, hPO, rfl, hsN, hsub, hS', hsd', hs4⟩)
    · try simp only [fx, Nat.reduceAdd, forall_const]
      refine wNote (line := line) (gone := gone) (acc := []) (rej := []) (Xs := rows (rVec 32) xi ids :: rows (rInt .i64) yh hs :: (toH g gt gm gs ov p t N c S ++ As)) (Sep.pick hs4 [7, 10, 11, 8, 9, 0, 1, 2, 3, 4] 12) (fun z _ => rowsNil _ _) (fun z _ => rowsNil _ _) hl1 hl2 (by simp) (by simp) fun lv' gv' z hz => ?_
      rw [List.append_nil, List.append_nil] at hz
      refine hR _ _ (.inr (.inl ⟨hpt, he, by rw [beq_eq_false_iff_ne.2 he], lv', gv', ?_⟩))
      exact Sep.pick hz [0, 3, 4, 1, 2] 5
    · have hpar := hPO.reach.parts hi.pi (pollE_ok he).1 (pollE_ok he).2
      have h3 : (ps0 t N (svM S)).N.length = N.length := kb_len (sN_kbs N)
      have h4 : (ps0 t N (svM S)).acc.length = 0 := rfl
      have h5 : (ps0 t N (svM S)).rej.length = 0 := rfl
      try simp only [fx, Nat.reduceAdd, forall_const]
      have hs5 := (Sep.pick hs4 [0, 1, 2, 3, 4, 5, 6] 7).perm (List.Perm.append_left (toH g gt gm gs' ov' p s.t N' c S' ++ [rows (rVec 32) av s.acc, rows (rVec 32) rv s.rej]) (permL E [_, _, _, _, _, _, _] As))
      refine wNote (line := line) (gone := gone) (acc := s.acc) (rej := s.rej) (e := 0) (Xs := rows (rVec 32) xi ids :: rows (rInt .i64) yh hs :: rows (rVec 32) av s.acc :: rows (rVec 32) rv s.rej :: (toH g gt gm gs' ov' p s.t N' c S' ++ (E ++ As))) (Sep.pick hs5 [9, 12, 13, 10, 11, 5, 6, 0, 1, 2, 3, 4] 14) (fun z hz => Sep.rows (Sep.p2 hz)) (fun z hz => Sep.rows (Sep.p3 hz)) hl1 hl2 (by omega) (by omega) fun lv' gv' z hz => ?_
      refine hR _ _ (.inr (.inr ⟨hpt, he, rfl, s, gs', ov', N', S', E, lv', gv', hPO, hsN, hsub, hS', ?_, ?_⟩))
      · exact hsd'
      · exact Sep.pick hz [0, 3, 4, 1, 2, 7, 8, 9, 10, 11] 12
end
end Go.Fx
set_option linter.unusedVariables false
set_option linter.unusedSimpArgs false
namespace Go.Fx
structure TwD where
  gs : Nat
  c : Nat
  ov : Value
  xi : Value
  yh : Value
  lv : Value
  gv : Value
  t : Tr
  N : List TN
  S : SV
  ids : List (Vec 32)
  hs : List Int
  line : List (Vec 32)
  gone : List (Vec 32)
  As : List Asn
abbrev TwD.L (d : TwD) (gw g gt gm : Nat) (p : Par) : List Asn := wH gw g gt gm d.gs d.ov p d.t d.N d.c d.S d.xi d.yh d.lv d.gv d.ids d.hs d.line d.gone
structure TwI (w0 : World) (gw g gt gm : Nat) (p : Par) (n : Nat) (d : TwD) (z : World) : Prop where
  sep : Sep w0 z (d.L gw g gt gm p ++ d.As)
  dat : Dat d.N d.As
  sdat : SDat d.S d.As
  tp : TpI p n d.t d.N (svM d.S)
  hl : d.hs.length = d.ids.length
  h0 : 0 < d.ids.length
  hn : d.ids.length ≤ n + 1
  pos : ∀ y ∈ d.hs, 0 ≤ y
  cnt : d.line.length + d.gone.length + d.N.length ≤ n
theorem TpI.mono {p : Par} {m m' : Nat} {t : Tr} {N : List TN} {S : SM} (h : TpI p m t N S) (hm : m ≤ m') : TpI p m' t N S := ⟨h.tm.mono hm, h.par, h.may, h.no, h.kids, h.undone⟩
/-- What an act did. -/
inductive DoesP (p : Par) (x : AC) (d d' : TwD) (r : Value) : Prop
  | add (h1 : x.poll = false) (h2 : r = .bool false) (h3 : d'.t = d.t) (h4 : d'.line = d.line) (h5 : d'.gone = d.gone) (h6 : ∀ k y, svM d.S k = some y → ∃ y', svM d'.S k = some y' ∧ prf y' = prf y) : DoesP p x d d' r
  | no (h1 : x.poll = true) (h2 : pollE p (votesM d.ids x.fs []) ≠ 0) (h3 : r = .bool false) (h4 : d'.t = d.t) (h5 : d'.S = d.S) (h6 : d'.line = d.line) (h7 : d'.gone = d.gone) (h8 : d'.N = d.N) : DoesP p x d d' r
  | poll (h1 : x.poll = true) (h2 : pollE p (votesM d.ids x.fs []) = 0) (h3 : r = .bool true) (s : PS) (h4 : PollOut p (votesM d.ids x.fs []) d.t d.N (svM d.S) s) (h5 : d'.t = s.t) (h6 : s.N = sN d'.N) (h7 : svM d'.S = failS p s.t s.N s.S s.pol) (h8 : d'.line = d.line ++ s.acc) (h9 : d'.gone = d.gone ++ s.rej) : DoesP p x d d' r
section
variable {w0 z : World} {gw g gt gm n : Nat} {p : Par} {d : TwD} {x : AC}
theorem TwI.to (h : TwI w0 gw g gt gm p n d z) : ToR z.heap g gt gm d.gs d.ov p d.t d.N d.c d.S := by
  have h1 := Sep.pick h.sep [5, 6, 7, 8, 9] 10
  exact toH_rd h1 h.dat h.sdat
theorem TwI.nm (h : TwI w0 gw g gt gm p n d z) : NmR z.heap gw 1 d.ids d.hs := ⟨_, _, _, d.xi, d.yh, Sep.blk h.sep, rfl, rfl, Sep.rows h.sep.tail, Sep.rows h.sep.tail.tail⟩
theorem TwI.ldt (h : TwI w0 gw g gt gm p n d z) (K : Value → Prop) : ld1 (.pointer (some ⟨gw, 0, none⟩)) z.heap K = K (ptr g) := L_flurrylaw19_world__t (Sep.blk h.sep) K
theorem TwI.ldx (h : TwI w0 gw g gt gm p n d z) (K : Value → Prop) : ld1 (.pointer (some ⟨gw, 1, none⟩)) z.heap K = K d.xi := L_flurrylaw19_world__n_ids (Sep.blk h.sep) K
theorem TwI.ldl (h : TwI w0 gw g gt gm p n d z) (K : Value → Prop) : ld1 (.pointer (some ⟨gw, 3, none⟩)) z.heap K = K d.lv := L_flurrylaw19_world__line (Sep.blk h.sep) K
theorem TwI.rids (h : TwI w0 gw g gt gm p n d z) : Rows' (rVec 32) z.heap d.xi d.ids := Sep.rows h.sep.tail
theorem TwI.rline (h : TwI w0 gw g gt gm p n d z) : Rows' (rVec 32) z.heap d.lv d.line := Sep.rows (Sep.pick h.sep [3] 4)
/-- More stands beside it. -/
theorem TwI.more {z' : World} {Bs : List Asn} (h : TwI w0 gw g gt gm p n d z) (hs : Sep w0 z' (Bs ++ (d.L gw g gt gm p ++ d.As))) : TwI w0 gw g gt gm p n { d with As := Bs ++ d.As } z' :=
  ⟨hs.perm (permL Bs [_, _, _, _, _, _, _, _, _, _] d.As), h.dat.sub fun A hA => List.mem_append_right _ hA, h.sdat.sub fun A hA => List.mem_append_right _ hA, h.tp, h.hl, h.h0, h.hn, h.pos, h.cnt⟩
theorem TwI.at (h : TwI w0 gw g gt gm p n d z) {z' : World} (hs : Sep w0 z' (d.L gw g gt gm p ++ d.As)) : TwI w0 gw g gt gm p n d z' := ⟨hs, h.dat, h.sdat, h.tp, h.hl, h.h0, h.hn, h.pos, h.cnt⟩
theorem TwI.fr {z' : World} (h : TwI w0 gw g gt gm p n d z) (hf : Fr [] z z') : TwI w0 gw g gt gm p n d z' := h.at (h.sep.old hf)
theorem TwI.mono {n' : Nat} (h : TwI w0 gw g gt gm p n d z) (hn : n ≤ n') : TwI w0 gw g gt gm p n' d z := ⟨h.sep, h.dat, h.sdat, h.tp.mono hn, h.hl, h.h0, Nat.le_trans h.hn (by omega), h.pos, Nat.le_trans h.cnt hn⟩
theorem addTE_h {t : Tr} {N : List TN} {S : SM} {b : Blk} (h : addTE t N S b = 0) : 0 ≤ b.h := by
  obtain ⟨h1, _⟩ := addTE_ok h
  obtain ⟨a1, _⟩ := addE_ok h1
  exact (Blk.chk_ok a1).1
theorem TwI.does (h : TwI w0 gw g gt gm p n d z) (hC : Cub w0) (hx : ARd w0.heap x) (hk : AOk1 x) (hfs : x.fs.length ≤ 1000) (hn : n ≤ 1000) :
    cal P f_law19_world_does [ptr gw, acV x] z fun r z' => ∃ d', TwI w0 gw g gt gm p (n + 1) d' z' ∧ (∃ E, d'.As = E ++ d.As) ∧ DoesP p x d d' r := by
  have hcnt := h.cnt
  have hidn := h.hn
  refine cal_i (wDoes_spec h.sep h.dat h.sdat h.tp hC hx hk h.hl h.h0 (by omega) h.pos hfs (by omega) (by omega) (by omega)) ?_
  rintro r z' (⟨hp, rfl, N', ov', c', S', E, xi', yh', hA, hs⟩ | ⟨hp, he, rfl, lv', gv', hs⟩ | ⟨hp, he, rfl, s, gs', ov', N', S', E, lv', gv', hPO, hsN, hsub, hS', hsd, hs⟩)
  · obtain ⟨b, hb⟩ : ∃ b, b = bN d.ids d.hs x := ⟨_, rfl⟩
    rw [← hb] at hs hA
    have hbm : b.h ≤ maxI := by rw [hb]; exact bN_h
    obtain ⟨hd2, hsd2⟩ := hA.dat h.dat h.sdat
    by_cases he : addTE d.t d.N (svM d.S) b = 0
    · rw [if_pos he, if_pos he] at hs
      obtain ⟨vd, cc, v, y, hN', _, hSM, _⟩ := hA.yes he
      refine ⟨⟨d.gs, c', ov', xi', yh', d.lv, d.gv, d.t, N', S', d.ids ++ [b.id], d.hs ++ [b.h], d.line, d.gone, E ++ d.As⟩, ⟨hs, hd2, hsd2, ?_, by simp [h.hl], by simp, by simp; omega, fun y hy => ?_, by rw [hN']; simp; omega⟩, ⟨E, rfl⟩, .add hp rfl rfl rfl rfl fun k y hy => ?_⟩
      · show TpI p (n + 1) d.t N' (svM S')
        rw [hSM, hN']
        exact h.tp.addx he hbm
      · rcases List.mem_append.1 hy with hy | hy
        · exact h.pos y hy
        · have : y = b.h := by simpa using hy
          rw [this]
          exact addTE_h he
      · show ∃ y', svM S' k = some y' ∧ _
        rw [hSM]
        exact add_prf hy
    · rw [if_neg he, if_neg he] at hs
      obtain ⟨rfl, rfl, rfl⟩ := hA.no he
      refine ⟨⟨d.gs, c', ov', xi', yh', d.lv, d.gv, d.t, d.N, d.S, d.ids, d.hs, d.line, d.gone, [] ++ d.As⟩, ⟨hs, hd2, hsd2, h.tp.mono (by omega), h.hl, h.h0, by show d.ids.length ≤ _; omega, h.pos, by show d.line.length + d.gone.length + d.N.length ≤ _; omega⟩, ⟨[], rfl⟩, .add hp rfl rfl rfl rfl fun k y hy => ⟨y, hy, rfl⟩⟩
  · exact ⟨⟨d.gs, d.c, d.ov, d.xi, d.yh, lv', gv', d.t, d.N, d.S, d.ids, d.hs, d.line, d.gone, d.As⟩, ⟨hs, h.dat, h.sdat, h.tp.mono (by omega), h.hl, h.h0, by show d.ids.length ≤ _; omega, h.pos, by show d.line.length + d.gone.length + d.N.length ≤ _; omega⟩, ⟨[], rfl⟩, .no hp he rfl rfl rfl rfl rfl rfl⟩
  · obtain ⟨hb, hsum⟩ := pollE_ok he
    have hpi := hPO.reach.pi h.tp.pi hb hsum
    have hpar := hPO.reach.parts h.tp.pi hb hsum
    have h3 : (ps0 d.t d.N (svM d.S)).N.length = d.N.length := kb_len (sN_kbs d.N)
    have h4 : (ps0 d.t d.N (svM d.S)).acc.length = 0 := rfl
    have h5 : (ps0 d.t d.N (svM d.S)).rej.length = 0 := rfl
    have h6 : N'.length = s.N.length := by rw [hsN]; exact (kb_len (sN_kbs N')).symm
    have hrd := end_und (hPO.reach.rd (ps0_rd h.tp)) hPO.fin
    refine ⟨⟨gs', d.c, ov', d.xi, d.yh, lv', gv', s.t, N', S', d.ids, d.hs, d.line ++ s.acc, d.gone ++ s.rej, E ++ d.As⟩, ⟨hs, fun y hy => List.mem_append_right _ (h.dat y (hsub y hy)), hsd, ?_, h.hl, h.h0, by show d.ids.length ≤ _; omega, h.pos, ?_⟩, ⟨E, rfl⟩, .poll hp he rfl s hPO rfl hsN hS' rfl rfl⟩
    · show TpI p (n + 1) s.t N' (svM S')
      rw [hS']
      exact (hpi.fails _ hPO.fin hrd hsN).mono (by omega)
    · show (d.line ++ s.acc).length + (d.gone ++ s.rej).length + N'.length ≤ n + 1
      rw [List.length_append, List.length_append]
      omega
end
end Go.Fx
set_option linter.unusedVariables false
set_option linter.unusedSimpArgs false
namespace Go.Fx
theorem Reach.root {p : Par} {V : List Vt} {a s : PS} (h : Reach p V a s) : s.t.root = a.t.root ∨ s.t.root ∈ s.acc := by
  induction h with
  | refl => exact .inl rfl
  | step h1 h2 ih =>
    rename_i b c
    unfold pstep at h2
    cases hx : b.S b.pos with
    | none => rw [hx] at h2; cases h2
    | some x =>
      rw [hx] at h2
      simp only at h2
      split at h2
      · simp only [Option.some.injEq] at h2
        subst h2
        right
        show prf x ∈ b.acc ++ [prf x]
        simp
      · split at h2
        · cases h2
        · simp only [Option.some.injEq] at h2
          subst h2
          exact ih
section
variable {p : Par} {V : List Vt} {m : Nat} {t : Tr} {N : List TN} {S : SM}
/-- What is asked of the votes, at what leads to a block. -/
theorem cond_of {b : Vec 32} (hb : has t N b = true) (h : ∀ a ∈ t.root :: pathOf t N b, ∀ k ∈ kidsT t N a, ¬ (a ≠ b ∧ under t N b k = false ∧ p.2.1 ≤ cntT t N V k)) : Cond p V t N b := by
  intro q k hq hqb hk hbk
  have hm : q ∈ t.root :: pathOf t N b := by
    rw [under_path hb (under_has hq).2] at hq
    simp only [Bool.or_eq_true, decide_eq_true_eq] at hq
    exact List.mem_cons.2 hq
  have := h q hm k hk
  rcases Int.lt_or_le (cntT t N V k) p.2.1 with h1 | h1
  · exact h1
  · exact absurd ⟨hqb, hbk, h1⟩ this
/-- A poll whose votes are for it keeps a preferred block, or takes it. -/
theorem poll_stay {b : Vec 32} {s : PS} (h : TpI p m t N S) (hb : PrefTo S t.root b) (hr : b ≠ t.root) (hV : bagOk V) (hs : sumV V ≤ p.1) (hc : Cond p V t N b) (ho : PollOut p V t N S s) :
    b ∈ s.acc ∨ (b ≠ s.t.root ∧ PrefTo (failS p s.t s.N s.S s.pol) s.t.root b) := by
  have hpi := h.pi
  have hst : StI p V b (ps0 t N S) := by
    refine ⟨hb, hr, .inl ?_, ?_⟩
    · show under t (sN N) b t.root = true
      rw [kb_under (sN_kbs N)]
      exact under_top h.tm.w (h.pref_has hb)
    · intro q k hq hqb hk hbk
      have hq : under t (sN N) b q = true := hq
      have hk : k ∈ kidsT t (sN N) q := hk
      have hbk : under t (sN N) b k = false := hbk
      rw [kb_under (sN_kbs N)] at hq hbk
      rw [kb_kidsT (sN_kbs N)] at hk
      show cntT t (sN N) V k < _
      rw [kb_cntT (sN_kbs N)]
      exact hc q k hq hqb hk hbk
  rcases ho.reach.stay hpi hV hs hst with h1 | h1
  · exact .inl h1
  · right
    have hq := ho.reach.pi hpi hV hs
    refine ⟨h1.nr, PrefTo.mono (S := s.S) (fun k x hk hx => fail_prf hq.may (hq.pref_has has_root hk).1 hx) h1.pref⟩
end
section
variable {w w0 : World} {g gm c : Nat} {ov : Value} {t : Tr} {N : List TN}
theorem nilFn11 {f : FuncId} {cap : Array Value} {w : World} (K : Value → Prop) : rdP P (eqS .eql T_iter_Seq_api_ID (.tmp 11) (.const Value.nilFunc) (.func (.func f) #[] cap) Value.nilFunc) w K = K (.bool false) := rdP_eq (by kernel_rfl) K
theorem kids19_spec (hr : TrR w.heap g gm ov t N c) (hn : N.length ≤ 1000000) (hu : (nms N).Nodup) (k : Vec 32) : cal P f_law19_kids [.pointer (some ⟨g, 0, none⟩), kv k] w fun r w' => Sep w w' [rows (rVec 32) r (kidsT t N k)] := by
  refine s_law19_kids fun R hR => ?_
  unfold c_law19_kids
  refine bxQ (Sep.start w) fun g3 w1 hs1 => ?_
  refine alloc_s hs1 (al_slD w1) fun g5 w2 hs2 => ?_
  simp only [L_api_ID (Sep.blk hs2.p1)]
  refine cal_i (Kids_spec (hs2.tr hr) hn hu k) ?_
  rintro r w3 hg
  change Goes w2 w3 r (kidsT t N k) at hg
  have hl : (kidsT t N k).length ≤ 1000000 := by
    unfold kidsT
    split
    · have := List.length_filter_le (fun x : TN => decide (x.2.1.p = k)) N
      simp only [nms, List.length_map]
      omega
    · simp
  obtain ⟨xs, hxs⟩ : ∃ xs, xs = kidsT t N k := ⟨_, rfl⟩
  rw [← hxs] at hg hR hl
  obtain ⟨g1, v1, rfl, hs3⟩ := hg
  replace hs3 := hs2.join hs3
  rw [nilFn11, cnd_false]
  have hs4 := Sep.pick (Sep.nilR (q := rVec 32) hs3) [3, 0, 1, 2] 5
  refine rng_s hs4 (told1_iter (v := v1) (g1 := g1) hl) (fun i z args ⟨x, _, h⟩ => by rw [h]; rfl) (fun i Bs => ∃ v, Bs = [blk g5 #[v] T_sl_api_ID, rows (rVec 32) v (xs.take i), blk g1 #[v1] T_sl_api_ID, rows (rVec 32) v1 xs])
    (fun c Bs => False) ⟨_, rfl⟩ (fun i Bs Ls z hJ hz => ?_) ?_ ?_ ?_
  · obtain ⟨v, rfl⟩ := hJ
    exact ⟨⟨_, _, Sep.blk (Sep.p2 hz)⟩, Sep.rows (Sep.p3 hz)⟩
  · rintro i _ z _ LR LB bg fin hi ⟨v, rfl⟩ ⟨x, hx, rfl⟩ hz hbg hfn hfx
    refine alloc_s hz (A_api_ID z) fun g6 za hza => ?_
    simp only [List.getD_cons_zero]
    refine St_api_ID (b := x) hza fun zb hzb => ?_
    refine hbg zb [_, _, _, _, _] _ hzb fun z1 hz1 => ?_
    simp only [List.cons_append, List.nil_append] at hz1
    have htl : (xs.take i).length = i := by rw [List.length_take]; omega
    refine ld1_i (v := v) (Sep.blk hz1.p1) rfl ?_
    simp only [L_api_ID hz1.blk]
    refine bldI hz1 fun a z2 hz2 => ?_
    refine appI hz2.p3 (Sep.rows hz2) (by omega) fun v' z3 hz3 => ?_
    have hz4 := Sep.pick hz3 [3, 0, 4, 5] 6
    refine st1_s hz4 (by simp) (Sep.oneR hz3) fun z5 hz5 => ?_
    refine hfn z5 _ ⟨v', rfl⟩ ?_
    have e : xs.take (i + 1) = xs.take i ++ [x] := by rw [List.take_add_one, hx]; rfl
    rw [e]
    exact hz5
  · rintro D _ z ⟨v, rfl⟩ hz
    refine .inl ⟨rfl, ?_⟩
    refine ld1_i (v := v) (Sep.blk hz.p1) rfl ?_
    refine takeD_s hz fun w' hw' => hR _ _ ?_
    rw [List.take_of_length_le (Nat.le_refl _)] at hw'
    exact Sep.pick hw' [1] 4
  · rintro D _ _ z hf
    exact hf.elim
end
end Go.Fx
set_option linter.unusedVariables false
set_option linter.unusedSimpArgs false
namespace Go.Fx
def tlI0 : Vec 32 := ⟨[135, 143, 50, 247, 107, 21, 148, 148, 245, 163, 159, 147, 33, 97, 108, 96, 104, 205, 184, 46, 136, 223, 137, 188, 199, 57, 187, 193, 234, 120, 225, 249], by decide⟩
def tlIA : Vec 32 := ⟨[62, 253, 43, 128, 233, 213, 25, 64, 19, 138, 112, 192, 69, 117, 141, 110, 224, 187, 73, 199, 3, 47, 27, 66, 188, 217, 192, 69, 156, 95, 161, 204], by decide⟩
def tlIB : Vec 32 := ⟨[14, 29, 244, 54, 134, 100, 220, 212, 83, 189, 125, 81, 230, 184, 242, 135, 211, 169, 170, 163, 239, 228, 185, 3, 98, 215, 115, 60, 241, 136, 174, 250], by decide⟩
def tl0 : Blk := ⟨vz 32, 0, []⟩
def tlA : Blk := ⟨tlI0, 1, [97]⟩
def tlB : Blk := ⟨tlIA, 2, [98]⟩
set_option maxRecDepth 1000000 in
theorem tl0_id : tl0.id = tlI0 := by
  apply Subtype.ext
  show (shaL tl0.bytes).flatMap wOut = _
  rw [sha_one _ (by decide +kernel)]
  decide +kernel
set_option maxRecDepth 1000000 in
theorem tlA_id : tlA.id = tlIA := by
  apply Subtype.ext
  show (shaL tlA.bytes).flatMap wOut = _
  rw [sha_one _ (by decide +kernel)]
  decide +kernel
set_option maxRecDepth 1000000 in
theorem tlB_id : tlB.id = tlIB := by
  apply Subtype.ext
  show (shaL tlB.bytes).flatMap wOut = _
  rw [sha_one _ (by decide +kernel)]
  decide +kernel
theorem tl0_chk : tl0.chk = 0 := by decide +kernel
theorem tlA_chk : tlA.chk = 0 := by decide +kernel
def tlP : Par := (1, 1, 1, 1)
def tlT : Tr := ⟨tlI0, 0, 9⟩
def tAddV (t : Tr) (N : List TN) (b : Blk) (k : Vec 32) : Int :=
  if b.chk ≠ 0 then b.chk else if has t N k = true then 110 else if has t N b.p = false ∨ b.h < 1 ∨ b.h - 1 ≠ levH t N b.p then 31 else if t.most ≤ N.length then 6 else 0
def tAddVE (t : Tr) (N : List TN) (S : SM) (b : Blk) (k : Vec 32) : Int := if tAddV t N b k ≠ 0 then tAddV t N b k else match S b.p with
  | some x => if 32 ≤ x.l.length then 6 else 0
  | none => 0
theorem tAddVE_eq {t : Tr} {N : List TN} {S : SM} {b : Blk} {k : Vec 32} (h : b.id = k) : addTE t N S b = tAddVE t N S b k := by subst h; rfl
def tlS0 : SM := fun _ => none
def tlSA : SM := addTS tlP tlS0 tlA tlIA
def tlS : SM := addTS tlP tlSA tlB tlIB
abbrev tlN (v1 v2 : Value) (c1 c2 : Nat) : List TN := [(tlIA, tlA, v1, c1), (tlIB, tlB, v2, c2)]
theorem tlE1 : tAddVE tlT [] tlS0 tlA tlIA = 0 := by kernel_rfl
theorem tlE2 (v1 : Value) (c1 : Nat) : tAddVE tlT [(tlIA, tlA, v1, c1)] tlSA tlB tlIB = 0 := by kernel_rfl
def tlx (k : Vec 32) : Sn := ⟨[(k, 0)], k, k, 0, false⟩
def tly (k : Vec 32) : Sn := ⟨[(k, 1)], k, k, 1, true⟩
theorem tlS_0 : tlS tlI0 = some (tlx tlIA) := by kernel_rfl
theorem tlS_A : tlS tlIA = some (tlx tlIB) := by kernel_rfl
theorem tlS_B : tlS tlIB = none := by kernel_rfl
abbrev tlV : List Vt := [(tlIB, 1)]
theorem tlV_ok : bagOk tlV := fun j v hv => by
  rcases j with _ | j
  · simp only [List.getElem?_cons_zero, Option.some.injEq] at hv
    subst hv
    exact ⟨fun u h => absurd h (by omega), by decide, by decide⟩
  · simp at hv
theorem tl_poll {k : Vec 32} (hm : May tlP (tlx k)) : (pollM tlP (tlx k) k 1).1 = tly k := by
  rw [pollM_up (k := 0) (c := (k, 0)) (may_iff.2 hm) (by decide) (plc_at rfl rfl fun j d hj => absurd hj (by omega)) rfl rfl (by decide)]
  have e : cfM tlP (tlx k) k 1 = 1 := by
    unfold cfM
    rw [if_neg (by decide), if_pos (show k = (tlx k).flake from rfl)]
    rfl
  show ({ updM (tlx k) k 0 (k, 0) with conf := cfM tlP (tlx k) k 1, dn := decide (cfM tlP (tlx k) k 1 = 1) } : Sn) = tly k
  rw [e]
  unfold updM
  show (⟨[(k, 1)], if _ then k else k, k, 1, true⟩ : Sn) = _
  rw [ite_self]
  rfl
/-! The poll. -/
def tl1 : PS := ⟨tlT, tlN undef undef 0 0, updS tlS tlI0 (tly tlIA), tlI0, [], [], [tlI0]⟩
def tl2 : PS := ⟨⟨tlIA, 1, 9⟩, [(tlIB, tlB, undef, 0)], updS tlS tlI0 (tly tlIA), tlIA, [tlIA], [], [tlI0]⟩
def tl3 : PS := ⟨⟨tlIA, 1, 9⟩, [(tlIB, tlB, undef, 0)], updS (updS tlS tlI0 (tly tlIA)) tlIA (tly tlIB), tlIA, [tlIA], [], [tlIA, tlI0]⟩
def tl4 : PS := ⟨⟨tlIB, 2, 9⟩, [], updS (updS tlS tlI0 (tly tlIA)) tlIA (tly tlIB), tlIB, [tlIA, tlIB], [], [tlIA, tlI0]⟩
theorem tlb0 : (⟨tlT, tlN undef undef 0 0, tlS, tlI0, [], [], []⟩ : PS).best tlV = (tlIA, 1) := by kernel_rfl
theorem tlb2 : tl2.best tlV = (tlIB, 1) := by kernel_rfl
theorem tlq1 (v1 v2 : Value) (c1 c2 : Nat) (h : ∀ k x, tlS k = some x → May tlP x) : pstep tlP tlV (ps0 tlT (tlN v1 v2 c1 c2) tlS) = some tl1 := by
  show pstep tlP tlV ⟨tlT, tlN undef undef 0 0, tlS, tlI0, [], [], []⟩ = some tl1
  unfold pstep
  simp only [tlS_0, tlb0, tl_poll (h _ _ tlS_0)]
  rw [if_neg (by simp [tlx]), if_neg (by decide)]
  show some (⟨tlT, tlN undef undef 0 0, updS tlS tlI0 (tly tlIA), if tlI0 ≠ tlI0 ∨ (tly tlIA).dn = false then tlIA else tlI0, [], [], [tlI0]⟩ : PS) = some tl1
  rw [if_neg (by simp [tly])]
  rfl
theorem tlq2 : pstep tlP tlV tl1 = some tl2 := by
  have e : tl1.S tl1.pos = some (tly tlIA) := by kernel_rfl
  unfold pstep
  simp only [e]
  rw [if_pos ⟨rfl, rfl⟩]
  show some (⟨mvT tlT (tlN undef undef 0 0) tlIA, mvN tlT (tlN undef undef 0 0) tlIA, updS tlS tlI0 (tly tlIA), tlIA, [] ++ [tlIA], [] ++ mvGone tlT (tlN undef undef 0 0) tlIA, [tlI0]⟩ : PS) = some tl2
  have e1 : mvT tlT (tlN undef undef 0 0) tlIA = ⟨tlIA, 1, 9⟩ := by kernel_rfl
  have e2 : mvN tlT (tlN undef undef 0 0) tlIA = [(tlIB, tlB, undef, 0)] := by kernel_rfl
  have e3 : mvGone tlT (tlN undef undef 0 0) tlIA = [] := by kernel_rfl
  rw [e1, e2, e3]
  rfl
theorem tlq3 (h : ∀ k x, tlS k = some x → May tlP x) : pstep tlP tlV tl2 = some tl3 := by
  have e : tl2.S tl2.pos = some (tlx tlIB) := by kernel_rfl
  unfold pstep
  simp only [e, tlb2, tl_poll (h _ _ tlS_A)]
  rw [if_neg (by simp [tlx]), if_neg (by decide)]
  show some (⟨⟨tlIA, 1, 9⟩, [(tlIB, tlB, undef, 0)], updS (updS tlS tlI0 (tly tlIA)) tlIA (tly tlIB), if tlIA ≠ tlIA ∨ (tly tlIB).dn = false then tlIB else tlIA, [tlIA], [], [tlIA, tlI0]⟩ : PS) = some tl3
  rw [if_neg (by simp [tly])]
  rfl
theorem tlq4 : pstep tlP tlV tl3 = some tl4 := by
  have e : tl3.S tl3.pos = some (tly tlIB) := by kernel_rfl
  unfold pstep
  simp only [e]
  rw [if_pos ⟨rfl, rfl⟩]
  show some (⟨mvT ⟨tlIA, 1, 9⟩ [(tlIB, tlB, undef, 0)] tlIB, mvN ⟨tlIA, 1, 9⟩ [(tlIB, tlB, undef, 0)] tlIB, updS (updS tlS tlI0 (tly tlIA)) tlIA (tly tlIB), tlIB, [tlIA] ++ [tlIB], [] ++ mvGone ⟨tlIA, 1, 9⟩ [(tlIB, tlB, undef, 0)] tlIB, [tlIA, tlI0]⟩ : PS) = some tl4
  have e1 : mvT ⟨tlIA, 1, 9⟩ [(tlIB, tlB, undef, 0)] tlIB = ⟨tlIB, 2, 9⟩ := by kernel_rfl
  have e2 : mvN ⟨tlIA, 1, 9⟩ [(tlIB, tlB, undef, 0)] tlIB = [] := by kernel_rfl
  have e3 : mvGone ⟨tlIA, 1, 9⟩ [(tlIB, tlB, undef, 0)] tlIB = [] := by kernel_rfl
  rw [e1, e2, e3]
  rfl
theorem tl4_S : tl4.S tlIB = none := by kernel_rfl
theorem tlq5 : pstep tlP tlV tl4 = none := by
  have e : tl4.S tl4.pos = none := tl4_S
  unfold pstep
  simp only [e]
theorem tl_out {v1 v2 : Value} {c1 c2 : Nat} {s : PS} (h : ∀ k x, tlS k = some x → May tlP x) (ho : PollOut tlP tlV tlT (tlN v1 v2 c1 c2) tlS s) : s = tl4 :=
  Reach.one ho.reach ((((Reach.step (.refl _) (tlq1 v1 v2 c1 c2 h)).step tlq2).step (tlq3 h)).step tlq4) ho.fin tlq5
theorem tl_pref : IsPref tlT tlS tlIB := by
  have h1 : PrefTo tlS tlI0 (prf (tlx tlIA)) := (PrefTo.refl _).step tlS_0
  have h2 : PrefTo tlS tlI0 (prf (tlx tlIB)) := PrefTo.step (b := tlIA) h1 tlS_A
  exact ⟨h2, tlS_B⟩
theorem TpI.start {p : Par} {t : Tr} (hp : parE p = 0) (ht : 0 ≤ t.ht) : TpI p 0 t [] fun _ => none :=
  ⟨TM.nil ht, hp, fun _ _ h => (by cases h), fun k hk _ => (by unfold kidsT; rw [if_pos hk]; rfl), fun _ _ h => (by cases h), fun _ h => (by cases h)⟩
theorem one19_spec {w : World} : cal P f_law19_one [] w fun r w' => r = pav tlP ∧ Fr [] w w' := by
  refine s_law19_one fun R hR => ?_
  unfold c_law19_one
  refine alloc_s (Sep.start w) (A_api_Params w) fun g w1 hs1 => ?_
  rw [B_api_Params_0_1_2_3]
  refine St_api_Params hs1 one_api_Params fun w2 hs2 => ?_
  simp only [L_api_Params hs2.blk, L_api_Params__K hs2.blk, L_api_Params__AlphaPref hs2.blk, L_api_Params__AlphaConf hs2.blk, L_api_Params__Beta hs2.blk]
  exact hR _ _ ⟨rfl, hs2.fr0⟩
set_option maxHeartbeats 1000000 in
theorem live19_spec {w : World} (hC : Cub w) : cal P f_law19_live [] w fun r w' => r = .bool true ∧ Fr [] w w' := by
  refine s_law19_live fun R hR => ?_
  unfold c_law19_live
  refine cal_i (First_spec (RdB.nil _ 0)) ?_
  rintro _ w1 ⟨v1, rfl, hs1⟩
  have eg : (Blk.first []).mk' = tl0 := by
    show (if tl0.chk = 0 then tl0 else Blk.none) = tl0
    rw [if_pos tl0_chk]
  have ec : (Blk.first []).chk = 0 := tl0_chk
  rw [eg] at hs1
  rw [eg, ec]
  simp only [fx, Nat.reduceAdd, forall_const]
  refine alloc_s hs1 (A_api_Block w1) fun g2 w2 hs2 => ?_
  refine St_api_Block hs2 (one_api_Block (Sep.one hs2.p1)) fun w3 hs3 => ?_
  simp only [L_api_Block hs3.blk, L_api_Block__Parent hs3.blk, L_api_Block__Height hs3.blk, L_api_Block__Data hs3.blk]
  refine cal_i (bkID_spec (b := tl0) (hC.fr hs3.fr0) (Sep.rd hs3.p1) (by decide +kernel)) ?_
  rintro _ w4 ⟨rfl, hf4⟩
  have hs4 := hs3.old hf4
  have en : tl0.name = tlI0 := by rw [Blk.name, if_pos tl0_chk, tl0_id]
  rw [en, tl0_chk]
  try simp only [fx, Nat.reduceAdd, forall_const]
  refine alloc_s hs4 (A_api_ID w4) fun g5 w5 hs5 => ?_
  refine St_api_ID hs5 fun w6 hs6 => ?_
  refine drH_S hs6 fun w7 hs7 _ => ?_
  refine ⟨kv tlI0, fun u hu => (L_api_ID (Sep.blk hu) _).mpr rfl, ?_⟩
  refine efS_i (cal_i one19_spec ?_)
  rintro _ w8 ⟨rfl, hf8⟩
  have hs8 := hs7.old hf8
  refine ⟨hs8, ?_⟩
  refine efC_cal (cal_i (oNew_spec tlP tlI0 0 9) ?_)
  rintro _ w9 (⟨e, he, _, hno, _⟩ | ⟨_, g, gt, gm, gs, rfl, hs9⟩)
  · exact absurd hno (by decide)
  replace hs9 := hs8.join hs9
  change Sep w w9 (toH g gt gm gs (.slice none 0 0) tlP tlT [] 0 (fun _ => none) ++ _) at hs9
  try simp only [fx, Nat.reduceAdd, forall_const, Option.isNone_some, show ((0 : Int) != 0) = false from rfl]
  have hb : ∀ (x : UInt8) (w : World), (Instr.buildSlice T_sl_uint8 1 #[(0, bv x)]).run P w = .ok (.slice (some ⟨w.heap.size, 0, none⟩) 1 1) (w.alloc (.cells (bvs [x]).toArray T_uint8)) := fun x w => by kernel_rfl
  have hs9' := Sep.pick hs9 [6, 5, 7, 0, 1, 2, 3, 4] 8
  simp only [L_api_Block hs9'.blk, L_api_Block__Parent hs9'.blk, L_api_Block__Height hs9'.blk, L_api_Block__Data hs9'.blk]
  refine lit_s (l := [97]) hs9' U_sl_uint8 U_uint8 rfl (hb 97 w9) fun ga w10 hs10 => ?_
  refine cal_i (Child_spec (b := tl0) (d := [97]) (hC.fr hs10.fr0) (Sep.rd (Sep.p3 hs10)) (Sep.rda hs10) (by decide +kernel)) ?_
  rintro _ w11 ⟨va, rfl, hs11⟩
  have hkA : tl0.kidOk [97] := ⟨tl0_chk, by decide +kernel, by decide⟩
  have ekA : tl0.child [97] = tlA := by rw [Blk.child, if_pos hkA, Blk.kid, tl0_id]; rfl
  have eeA : tl0.childE [97] = 0 := by rw [Blk.childE, if_pos hkA]
  rw [ekA] at hs11
  rw [ekA, eeA]
  replace hs11 := hs10.join hs11
  try simp only [fx, Nat.reduceAdd, forall_const]
  refine alloc_s hs11 (A_api_Block w11) fun g7 w12 hs12 => ?_
  refine St_api_Block hs12 (one_api_Block (Sep.one hs12.p1)) fun w13 hs13 => ?_
  simp only [L_api_Block hs13.blk, L_api_Block__Parent hs13.blk, L_api_Block__Height hs13.blk, L_api_Block__Data hs13.blk]
  refine lit_s (l := [98]) hs13 U_sl_uint8 U_uint8 rfl (hb 98 w13) fun gb w14 hs14 => ?_
  refine cal_i (Child_spec (b := tlA) (d := [98]) (hC.fr hs14.fr0) (Sep.rd (Sep.p2 hs14)) (Sep.rda hs14) (by decide +kernel)) ?_
  rintro _ w15 ⟨vb, rfl, hs15⟩
  have hkB : tlA.kidOk [98] := ⟨tlA_chk, by decide +kernel, by decide⟩
  have ekB : tlA.child [98] = tlB := by rw [Blk.child, if_pos hkB, Blk.kid, tlA_id]; rfl
  have eeB : tlA.childE [98] = 0 := by rw [Blk.childE, if_pos hkB]
  rw [ekB] at hs15
  rw [ekB, eeB]
  replace hs15 := hs14.join hs15
  try simp only [fx, Nat.reduceAdd, forall_const]
  refine alloc_s hs15 (A_api_Block w15) fun g8 w16 hs16 => ?_
  refine St_api_Block hs16 (one_api_Block (Sep.one hs16.p1)) fun w17 hs17 => ?_
  have hs18 : Sep w w17 (toH g gt gm gs (.slice none 0 0) tlP tlT [] 0 (fun _ => none) ++ [blk g8 (Rdr.cells Q_api_Block (tlB.p, tlB.h, vb)).toArray T_api_Block, ownB vb tlB.d, blk g7 (Rdr.cells Q_api_Block (tlA.p, tlA.h, va)).toArray T_api_Block, ownB va tlA.d]) := Sep.pick hs17 [9, 10, 11, 12, 13, 0, 1, 3, 4] 14
  have hd0 : Dat ([] : List TN) [blk g8 (Rdr.cells Q_api_Block (tlB.p, tlB.h, vb)).toArray T_api_Block, ownB vb tlB.d, blk g7 (Rdr.cells Q_api_Block (tlA.p, tlA.h, va)).toArray T_api_Block, ownB va tlA.d] := fun x hx => by cases hx
  have hsd0 : SDat (fun _ => none) [blk g8 (Rdr.cells Q_api_Block (tlB.p, tlB.h, vb)).toArray T_api_Block, ownB vb tlB.d, blk g7 (Rdr.cells Q_api_Block (tlA.p, tlA.h, va)).toArray T_api_Block, ownB va tlA.d] := fun k q h => by cases h
  have hi0 : TpI tlP 0 tlT [] (svM fun _ => none) := TpI.start (by decide) (by decide)
  simp only [L_api_Block (Sep.blk (Sep.pick hs18 [7] 8)), L_api_Block__Parent (Sep.blk (Sep.pick hs18 [7] 8)), L_api_Block__Height (Sep.blk (Sep.pick hs18 [7] 8)), L_api_Block__Data (Sep.blk (Sep.pick hs18 [7] 8))]
  refine cal_i (oAdd_spec hs18 hd0 hsd0 hi0 hC (fun z hz => Sep.rd (Sep.p3 hz)) (by decide +kernel) (by simp)) ?_
  rintro _ w19 ⟨N1, ov1, c1, S1, E1, rfl, hA1, hs19⟩
  obtain ⟨hd1, hsd1⟩ := hA1.dat hd0 hsd0
  have e1 : addTE tlT [] (svM fun _ => none) tlA = 0 := (tAddVE_eq tlA_id).trans tlE1
  obtain ⟨vd1, cc1, vx1, x1, rfl, _, hS1, rfl⟩ := hA1.yes e1
  have hi1 := hi0.addx (b := tlA) (vd := vd1) (c := cc1) e1 (by decide +kernel)
  rw [← hS1] at hi1
  rw [addTId, if_pos e1, e1, tlA_id]
  simp only [tlA_id] at hs19 hd1 hi1 hS1
  try simp only [fx, Nat.reduceAdd, forall_const]
  refine alloc_s hs19 (A_api_ID w19) fun g9 w20 hs20 => ?_
  refine St_api_ID hs20 fun w21 hs21 => ?_
  have hs22 : Sep w w21 (toH g gt gm gs ov1 tlP tlT ([] ++ [(tlIA, tlA, vd1, cc1)]) c1 S1 ++ (blk g9 (Rdr.cells (rVec 32) tlIA).toArray T_api_ID :: ([rows Q_api_Choice vx1 x1.l, ownB vd1 tlA.d] ++ [blk g8 (Rdr.cells Q_api_Block (tlB.p, tlB.h, vb)).toArray T_api_Block, ownB vb tlB.d, blk g7 (Rdr.cells Q_api_Block (tlA.p, tlA.h, va)).toArray T_api_Block, ownB va tlA.d]))) := Sep.pick hs21 [1, 2, 3, 4, 5, 0, 6, 7, 8, 9, 10, 11] 12
  simp only [L_api_Block (Sep.blk (Sep.pick hs22 [8] 9)), L_api_Block__Parent (Sep.blk (Sep.pick hs22 [8] 9)), L_api_Block__Height (Sep.blk (Sep.pick hs22 [8] 9)), L_api_Block__Data (Sep.blk (Sep.pick hs22 [8] 9))]
  have e2 : addTE tlT ([] ++ [(tlIA, tlA, vd1, cc1)]) (svM S1) tlB = 0 := by rw [hS1]; exact (tAddVE_eq tlB_id).trans (tlE2 vd1 cc1)
  refine cal_i (oAdd_spec (m := 1) hs22 (hd1.sub fun A hA => List.mem_cons_of_mem _ hA) (hsd1.sub fun A hA => List.mem_cons_of_mem _ hA) hi1 hC (fun z hz => Sep.rd (Sep.pick hz [4] 5)) (by decide +kernel) (by simp)) ?_
  rintro _ w23 ⟨N2, ov2, c2, S2, E2, rfl, hA2, hs23⟩
  have hd12 := hd1.sub fun A hA => List.mem_cons_of_mem (blk g9 (Rdr.cells (rVec 32) tlIA).toArray T_api_ID) hA
  have hsd12 := hsd1.sub fun A hA => List.mem_cons_of_mem (blk g9 (Rdr.cells (rVec 32) tlIA).toArray T_api_ID) hA
  obtain ⟨hd2, hsd2⟩ := hA2.dat hd12 hsd12
  obtain ⟨vd2, cc2, vx2, x2, rfl, _, hS2, rfl⟩ := hA2.yes e2
  have hi2 := hi1.addx (b := tlB) (vd := vd2) (c := cc2) e2 (by decide +kernel)
  rw [← hS2] at hi2
  rw [addTId, if_pos e2, e2, tlB_id]
  simp only [tlB_id] at hs23 hd2 hi2 hS2
  rw [hS1] at hS2
  change svM S2 = tlS at hS2
  change Sep w w23 (toH g gt gm gs ov2 tlP tlT (tlN vd1 vd2 cc1 cc2) c2 S2 ++ _) at hs23
  change TpI tlP 2 tlT (tlN vd1 vd2 cc1 cc2) (svM S2) at hi2
  try simp only [fx, Nat.reduceAdd, forall_const]
  refine alloc_s hs23 (A_api_ID w23) fun g11 w24 hs24 => ?_
  refine St_api_ID hs24 fun w25 hs25 => ?_
  have hs25' : Sep w w25 (toH g gt gm gs ov2 tlP tlT (tlN vd1 vd2 cc1 cc2) c2 S2 ++ (blk g11 (Rdr.cells (rVec 32) tlIB).toArray T_api_ID :: ([rows Q_api_Choice vx2 x2.l, ownB vd2 tlB.d] ++ (blk g9 (Rdr.cells (rVec 32) tlIA).toArray T_api_ID :: ([rows Q_api_Choice vx1 x1.l, ownB vd1 tlA.d] ++ [blk g8 (Rdr.cells Q_api_Block (tlB.p, tlB.h, vb)).toArray T_api_Block, ownB vb tlB.d, blk g7 (Rdr.cells Q_api_Block (tlA.p, tlA.h, va)).toArray T_api_Block, ownB va tlA.d]))))) := Sep.pick hs25 [1, 2, 3, 4, 5, 0, 6, 7, 8, 9, 10, 11, 12, 13, 14] 15
  have hd3 : Dat (tlN vd1 vd2 cc1 cc2) (blk g11 (Rdr.cells (rVec 32) tlIB).toArray T_api_ID :: ([rows Q_api_Choice vx2 x2.l, ownB vd2 tlB.d] ++ (blk g9 (Rdr.cells (rVec 32) tlIA).toArray T_api_ID :: ([rows Q_api_Choice vx1 x1.l, ownB vd1 tlA.d] ++ [blk g8 (Rdr.cells Q_api_Block (tlB.p, tlB.h, vb)).toArray T_api_Block, ownB vb tlB.d, blk g7 (Rdr.cells Q_api_Block (tlA.p, tlA.h, va)).toArray T_api_Block, ownB va tlA.d])))) := Dat.sub hd2 fun A hA => List.mem_cons_of_mem _ hA
  have hsd3 : SDat S2 (blk g11 (Rdr.cells (rVec 32) tlIB).toArray T_api_ID :: ([rows Q_api_Choice vx2 x2.l, ownB vd2 tlB.d] ++ (blk g9 (Rdr.cells (rVec 32) tlIA).toArray T_api_ID :: ([rows Q_api_Choice vx1 x1.l, ownB vd1 tlA.d] ++ [blk g8 (Rdr.cells Q_api_Block (tlB.p, tlB.h, vb)).toArray T_api_Block, ownB vb tlB.d, blk g7 (Rdr.cells Q_api_Block (tlA.p, tlA.h, va)).toArray T_api_Block, ownB va tlA.d])))) := SDat.sub hsd2 fun A hA => List.mem_cons_of_mem _ hA
  obtain ⟨As, hAs⟩ : ∃ As, As = blk g11 (Rdr.cells (rVec 32) tlIB).toArray T_api_ID :: ([rows Q_api_Choice vx2 x2.l, ownB vd2 tlB.d] ++ (blk g9 (Rdr.cells (rVec 32) tlIA).toArray T_api_ID :: ([rows Q_api_Choice vx1 x1.l, ownB vd1 tlA.d] ++ [blk g8 (Rdr.cells Q_api_Block (tlB.p, tlB.h, vb)).toArray T_api_Block, ownB vb tlB.d, blk g7 (Rdr.cells Q_api_Block (tlA.p, tlA.h, va)).toArray T_api_Block, ownB va tlA.d]))) := ⟨_, rfl⟩
  rw [← hAs] at hs25' hd3 hsd3
  have r9 : ∀ {z : World} {Xs : List Asn}, Sep w z (Xs ++ As) → z.heap[g9]? = some (.cells (Rdr.cells (rVec 32) tlIA).toArray T_api_ID (0, 0)) := fun h => by
    have h := Sep.dropL h
    rw [hAs] at h
    exact Sep.blk (Sep.p3 h)
  have r11 : ∀ {z : World} {Xs : List Asn}, Sep w z (Xs ++ As) → z.heap[g11]? = some (.cells (Rdr.cells (rVec 32) tlIB).toArray T_api_ID (0, 0)) := fun h => by
    have h := Sep.dropL h
    rw [hAs] at h
    exact Sep.blk h
  refine drH_S hs25' fun w26 hs26 _ => ?_
  try simp only [fx, Nat.reduceAdd, forall_const, show ((0 : Int) != 0) = false from rfl]
  refine jn1_dup ?_
  refine ⟨kv tlIB, fun u hu => (L_api_ID (r11 hu) _).mpr rfl, ?_⟩
  refine efS_i (cal_i (oPref_spec hi2 (toH_rd hs26 hd3 hsd3)) ?_)
  rintro _ w27 ⟨k, hk, rfl, hf27⟩
  rw [hS2] at hk
  obtain rfl : k = tlIB := hk.one tl_pref
  have hs27 := hs26.old hf27
  refine ⟨hs27, ?_⟩
  refine ⟨.bool (!decide (tlIB = tlIB)), fun u hu => (ne_api_ID _).mpr rfl, ?_⟩
  simp only [fx, Nat.reduceAdd, forall_const, L_api_ID (r11 hs27), decide_true, Bool.not_true]
  rw [B_api_Vote_0_1]
  refine rows_lit (q := Q_api_Vote) hs27 S_sl_api_Vote (l := tlV) (V := fun a => .agg (Rdr.cells Q_api_Vote a).toArray) (fun a => rfl) rfl rfl (by decide) (by decide) fun gv w28 hs28 => ?_
  have hs28' : Sep w w28 (toH g gt gm gs ov2 tlP tlT (tlN vd1 vd2 cc1 cc2) c2 S2 ++ (rows Q_api_Vote (.slice (some ⟨gv, 0, none⟩) 1 1) tlV :: As)) := Sep.pick hs28 [1, 2, 3, 4, 5, 0] 6
  refine cal_i (oPoll_spec (V := tlV) hs28' (hd3.sub fun A hA => List.mem_cons_of_mem _ hA) hsd3 (fun A hA => List.mem_cons_of_mem _ hA) hi2 (fun z hz => Sep.rows hz) (by decide) (by simp)) ?_
  have e0 : pollE tlP tlV = 0 := by rw [pollE, if_neg (by simpa using tlV_ok), if_neg (by decide)]
  rintro _ w30 (⟨he, _⟩ | ⟨_, s, av, rv, gs', ov', N', S', E, hPO, rfl, hsN, _, hS', hsd', hs30⟩)
  · exact absurd e0 he
  rw [hS2] at hPO
  have hPI := hPO.reach.pi (hS2 ▸ hi2.pi) tlV_ok (by decide)
  have hfin := hPO.fin
  obtain rfl : s = tl4 := tl_out (fun k x hx => hi2.may k x (by rw [hS2]; exact hx)) hPO
  have hN' : N' = [] := by
    cases N' with
    | nil => rfl
    | cons a l => cases hsN
  subst hN'
  have hi3 := hPI.fails tlV hfin (fun x hx => by
    have : tl4.S tl4.t.root = none := tl4_S
    rw [this] at hx; cases hx) hsN
  rw [← hS'] at hi3
  have hp3 : IsPref tl4.t (svM S') tlIB := by
    refine ⟨.refl _, ?_⟩
    rw [hS']
    unfold failS
    split
    · rw [tl4_S]; rfl
    · rfl
  have hs31 : Sep w w30 (toH g gt gm gs' ov' tlP tl4.t [] c2 S' ++ (rows (rVec 32) av [tlIA, tlIB] :: rows (rVec 32) rv [] :: (E ++ (rows Q_api_Vote (.slice (some ⟨gv, 0, none⟩) 1 1) tlV :: As)))) := hs30
  try simp only [fx, Nat.reduceAdd, forall_const]
  refine drH_S hs31 fun w32 hs32 _ => ?_
  try simp only [fx, Nat.reduceAdd, forall_const, show ((0 : Int) == 0) = true from rfl]
  refine jn1_dup ?_
  have hAs2 : ∀ {z : World} {Xs : List Asn}, Sep w z (Xs ++ (toH g gt gm gs' ov' tlP tl4.t [] c2 S' ++ (rows (rVec 32) av [tlIA, tlIB] :: rows (rVec 32) rv [] :: (E ++ (rows Q_api_Vote (.slice (some ⟨gv, 0, none⟩) 1 1) tlV :: As))))) → Sep w z As := fun {z Xs} h =>
    (Sep.dropL (As := E) (Sep.dropL (As := toH g gt gm gs' ov' tlP tl4.t [] c2 S') (Sep.dropL (As := Xs) h)).tail.tail).tail
  refine ⟨kv tlIA, fun u hu => (L_api_ID (r9 (Xs := []) (hAs2 (Xs := []) hu)) _).mpr rfl, ?_⟩
  refine ⟨kv tlIB, fun u hu => (L_api_ID (r11 (Xs := []) (hAs2 (Xs := []) hu)) _).mpr rfl, ?_⟩
  refine efS_i (rows_lit hs32 S_sl_api_ID (l := [tlIA, tlIB]) (V := fun a => .agg (Rdr.cells (rVec 32) a).toArray) (fun a => rfl) rfl rfl (by decide) (by decide) fun g33 w33 hs33 => ?_)
  refine ⟨hs33.tail, ?_⟩
  refine efS_i (cal_i (idsEqual_spec (Sep.rows (Sep.pick hs33 [6] 7)) (Sep.rows hs33) (by simp)) ?_)
  rintro _ w34 ⟨rfl, hf34⟩
  have hs34 := hs33.tail.old hf34
  refine ⟨hs34, ?_⟩
  have hto : ToR w34.heap g gt gm gs' ov' tlP tl4.t [] c2 S' := toH_rd hs34 (fun x hx => by cases hx) (hsd'.sub fun A hA => by
    rcases List.mem_append.1 hA with h | h
    · exact List.mem_cons_of_mem _ (List.mem_cons_of_mem _ (List.mem_append_left _ h))
    · exact List.mem_cons_of_mem _ (List.mem_cons_of_mem _ (List.mem_append_right _ (List.mem_cons_of_mem _ h))))
  have hglen : lenS rv = fun K => K (.int .i64 0) := by
    funext K
    have := (Sep.rows (Sep.pick hs34 [6] 7)).len K
    simpa using this
  simp only [fx, Nat.reduceAdd, forall_const, decide_true, hglen, show ((0 : Int) == 0) = true from rfl]
  refine jn1_dup ?_
  refine ⟨kv tlIB, fun u hu => (L_api_ID (r11 (Xs := []) (hAs2 (Xs := []) hu)) _).mpr rfl, ?_⟩
  refine efS_i (cal_i (oPref_spec hi3 hto) ?_)
  rintro _ w35 ⟨k, hk, rfl, hf35⟩
  obtain rfl : k = tlIB := hk.one hp3
  have hs35 := hs34.old hf35
  refine ⟨hs35, ?_⟩
  refine ⟨.bool (decide (tlIB = tlIB)), fun u hu => (eq_api_ID _).mpr rfl, ?_⟩
  simp only [fx, Nat.reduceAdd, forall_const, decide_true]
  refine jn1_dup ?_
  have hto2 : ToR w35.heap g gt gm gs' ov' tlP tl4.t [] c2 S' := toH_rd hs35 (fun x hx => by cases hx) (hsd'.sub fun A hA => by
    rcases List.mem_append.1 hA with h | h
    · exact List.mem_cons_of_mem _ (List.mem_cons_of_mem _ (List.mem_append_left _ h))
    · exact List.mem_cons_of_mem _ (List.mem_cons_of_mem _ (List.mem_append_right _ (List.mem_cons_of_mem _ h))))
  refine efS_i (cal_i (oLen_spec hto2 (by simp)) ?_)
  rintro _ _ ⟨rfl, rfl⟩
  refine ⟨hs35, ?_⟩
  simp only [fx, Nat.reduceAdd, forall_const, List.length_nil]
  exact hR _ _ ⟨rfl, hs35.fr0⟩

end Go.Fx
set_option linter.unusedVariables false
set_option linter.unusedSimpArgs false
namespace Go.Fx
/-- What stays true of a block that was preferred. -/
def StayP (r0 b : Vec 32) (d : TwD) : Prop := b ∈ d.line ∨ b = r0 ∨ (b ≠ d.t.root ∧ PrefTo (svM d.S) d.t.root b)
def RootP (r0 : Vec 32) (d : TwD) : Prop := d.t.root = r0 ∨ d.t.root ∈ d.line
theorem DoesP.root {p : Par} {x : AC} {d d' : TwD} {r : Value} {r0 : Vec 32} (h : DoesP p x d d' r) (hr : RootP r0 d) : RootP r0 d' := by
  unfold RootP at hr ⊢
  cases h with
  | add h1 h2 h3 h4 h5 h6 => rw [h3, h4]; exact hr
  | no h1 h2 h3 h4 h5 h6 h7 h8 => rw [h4, h6]; exact hr
  | poll h1 h2 h3 s h4 h5 h6 h7 h8 h9 =>
    rw [h5, h8]
    rcases h4.reach.root with h | h
    · have h : s.t.root = d.t.root := h
      rw [h]
      exact hr.imp id fun h => List.mem_append_left _ h
    · exact .inr (List.mem_append_right _ h)
theorem DoesP.stay {p : Par} {n : Nat} {x : AC} {d d' : TwD} {r : Value} {r0 b : Vec 32} (h : DoesP p x d d' r) (hi : TpI p n d.t d.N (svM d.S)) (hs : StayP r0 b d)
    (hc : x.poll = true → has d.t d.N b = true → bagOk (votesM d.ids x.fs []) → Cond p (votesM d.ids x.fs []) d.t d.N b) : StayP r0 b d' := by
  unfold StayP at hs ⊢
  rcases hs with hs | hs | ⟨hb, hs⟩
  · left
    cases h with
    | add h1 h2 h3 h4 h5 h6 => rw [h4]; exact hs
    | no h1 h2 h3 h4 h5 h6 h7 h8 => rw [h6]; exact hs
    | poll h1 h2 h3 s h4 h5 h6 h7 h8 h9 => rw [h8]; exact List.mem_append_left _ hs
  · exact .inr (.inl hs)
  · cases h with
    | add h1 h2 h3 h4 h5 h6 => rw [h3]; exact .inr (.inr ⟨hb, PrefTo.mono (fun k x _ hx => h6 k x hx) hs⟩)
    | no h1 h2 h3 h4 h5 h6 h7 h8 => rw [h4, h5]; exact .inr (.inr ⟨hb, hs⟩)
    | poll h1 h2 h3 s h4 h5 h6 h7 h8 h9 =>
      rw [h5, h7, h8]
      obtain ⟨hbag, hsum⟩ := pollE_ok h2
      rcases poll_stay hi hs hb hbag hsum (hc h1 (hi.pref_has hs) hbag) h4 with h | h
      · exact .inl (List.mem_append_right _ h)
      · exact .inr (.inr h)
section
variable {w : World}
set_option maxHeartbeats 1000000 in
theorem wStays {q : Par × Vec 32 × Int × Int} {s : Sl (Bool × Nat × Sl UInt8 × Sl (Nat × Int))} {kk : Nat} (hc : Cub w) (hs0 : (rSl R_flurrylaw19_Act).ok w.heap s) (hkk : kk < 256) :
    cal P f_law19_TopoStays [.agg (Rdr.cells Q_flurrylaw19_Start q).toArray, s.v, .int .u8 kk] w fun r w' => r = .bool true ∧ Fr [] w w' := by
  obtain ⟨l, hr, hcap, hl63, hok⟩ := acts_arg hs0
  generalize s.v = v at *
  clear hs0
  refine s_law19_TopoStays fun R hR => ?_
  unfold c_law19_TopoStays
  refine bxQ (Sep.start w) fun g2 w0 hs0 => ?_
  have lv : ∀ {z : World}, Fr [] w z → cal P f_law19_live [] z R := fun {z} hf => cal_i (live19_spec (hc.fr hf)) fun r w' hr => hR _ _ ⟨hr.1, hf.trans hr.2 (by simp) (by simp)⟩
  refine cal_i (live19_spec (hc.fr hs0.fr0)) ?_
  rintro _ w1 ⟨rfl, hf1⟩
  have hs1 := hs0.old hf1
  simp only [fx, Nat.reduceAdd, forall_const]
  refine jn1_dup ?_
  simp only [L_flurrylaw19_Start (Sep.blk hs1), L_flurrylaw19_Start__P (Sep.blk hs1), L_flurrylaw19_Start__P_K (Sep.blk hs1), L_flurrylaw19_Start__P_AlphaPref (Sep.blk hs1), L_flurrylaw19_Start__P_AlphaConf (Sep.blk hs1), L_flurrylaw19_Start__P_Beta (Sep.blk hs1), L_flurrylaw19_Start__Root (Sep.blk hs1), L_flurrylaw19_Start__Height (Sep.blk hs1), L_flurrylaw19_Start__Most (Sep.blk hs1)]
  refine cal_i (few19_spec (hr.fr hs1.fr0) hcap hl63 hok) ?_
  rintro _ w2 ⟨hf2, b, rfl, hb⟩
  have hs2 := hs1.old hf2
  cases b with
  | false => simp only [fx, Nat.reduceAdd, forall_const]; exact lv hs2.fr0
  | true =>
  obtain ⟨hl, hsm⟩ := hb rfl
  simp only [fx, Nat.reduceAdd, forall_const, L_flurrylaw19_Start (Sep.blk hs2), L_flurrylaw19_Start__P (Sep.blk hs2), L_flurrylaw19_Start__P_K (Sep.blk hs2), L_flurrylaw19_Start__P_AlphaPref (Sep.blk hs2), L_flurrylaw19_Start__P_AlphaConf (Sep.blk hs2), L_flurrylaw19_Start__P_Beta (Sep.blk hs2), L_flurrylaw19_Start__Root (Sep.blk hs2), L_flurrylaw19_Start__Height (Sep.blk hs2), L_flurrylaw19_Start__Most (Sep.blk hs2)]
  have hstart : ∀ {z : World}, Fr [] w2 z → z.heap[g2]? = some (.cells (Rdr.cells Q_flurrylaw19_Start q).toArray T_flurrylaw19_Start (0, 0)) := fun hf => hf.blk (Sep.blk hs2) (by simp)
  have hC : Cub w2 := hc.fr hs2.fr0
  have hrw : ARows w2.heap v l := hr.fr hs2.fr0
  have hout : ∀ {z : World}, Fr [] w2 z → R (.bool true) z := fun hf => hR _ _ ⟨rfl, hs2.fr0.trans hf (by simp) (by simp)⟩
  refine cal_i (fresh_spec q) ?_
  rintro _ w3 (⟨rfl, hf3⟩ | ⟨⟨hpar, hht⟩, gw, g, gt, gm, gs0, xi0, yh0, rfl, hs3⟩)
  · simp only [fx, Nat.reduceAdd, forall_const, Option.isNone_none]
    exact hout hf3
  simp only [fx, Nat.reduceAdd, forall_const, Option.isNone_some, hr.len]
  have hI0 : TwI w2 gw g gt gm q.1 0 ⟨gs0, 0, .slice none 0 0, xi0, yh0, .slice none 0 0, .slice none 0 0, ⟨q.2.1, q.2.2.1, q.2.2.2⟩, [], fun _ => none, [q.2.1], [q.2.2.1], [], [], []⟩ w3 := by
    refine ⟨hs3.perm (by simp), fun x hx => (by cases hx), fun k x hx => (by cases hx), TpI.start (t := ⟨q.2.1, q.2.2.1, q.2.2.2⟩) hpar hht, rfl, Nat.one_pos, Nat.le_refl _, fun y hy => ?_, Nat.le_refl _⟩
    have : y = q.2.2.1 := by simpa using hy
    rw [this]
    exact hht
  obtain ⟨a0, cp, hv, hcp⟩ : ∃ a c, v = .slice a l.length c ∧ l.length ≤ c := by
    obtain ⟨a, c, hv, _⟩ := hr.rw
    rw [List.length_map] at hv
    exact ⟨a, c, hv, hcap _ _ _ hv⟩
  obtain ⟨j, hj⟩ : ∃ j, j = l.length / 2 := ⟨_, rfl⟩
  have hjl : j ≤ l.length := by omega
  rw [bi_quo _ _ _ _ (by decide), show (2 : Int) = ((2 : Nat) : Int) from rfl, tdivn, wi64 (by omega) (by omega), ← hj]
  have hr1 : ARows w2.heap (.slice a0 j cp) (l.take j) := by
    refine ⟨?_, fun x hx => hrw.d x (List.mem_of_mem_take hx)⟩
    have := hrw.rw
    rw [hv] at this
    have h2 := Rows'.take this (k := j) (by simpa using hjl) cp
    rwa [← List.map_take] at h2
  have hr2 : ARows w2.heap (.slice (if cp = j then a0 else a0.map (·.add (j * 4))) (l.length - j) (cp - j)) (l.drop j) := by
    refine ⟨?_, fun x hx => hrw.d x (List.mem_of_mem_drop hx)⟩
    have := hrw.rw
    rw [hv] at this
    have h2 := Rows'.drop this (k := j) (by simpa using hjl) (by simpa using hcp) (cp - j)
    rw [← List.map_drop] at h2
    exact h2
  have el1 : (l.take j).length = j := by rw [List.length_take]; omega
  have el2 : (l.drop j).length = l.length - j := by rw [List.length_drop]
  obtain ⟨v1, hv1⟩ : ∃ v1, v1 = Value.slice a0 j cp := ⟨_, rfl⟩
  obtain ⟨v2, hv2⟩ : ∃ v2, v2 = Value.slice (if cp = j then a0 else a0.map (·.add (j * 4))) (l.length - j) (cp - j) := ⟨_, rfl⟩
  have s1 : ∀ K, slc 4 v none (some (.int .i64 (j : Int))) K = K v1 := fun K => by rw [hv, hv1]; exact slc_to (by omega) K
  have s2 : ∀ K, slc 4 v (some (.int .i64 (j : Int))) none K = K v2 := fun K => by rw [hv, hv2]; exact slc_from (by omega) K
  rw [← hv1] at hr1
  rw [← hv2] at hr2
  rw [s1]
  have hok1 : ∀ x ∈ l.take j, AOk1 x ∧ x.fs.length ≤ 1000 := fun x hx => ⟨hok x (List.mem_of_mem_take hx), by have := (hsm x (List.mem_of_mem_take hx)).2; omega⟩
  have hok2 : ∀ x ∈ l.drop j, AOk1 x ∧ x.fs.length ≤ 1000 := fun x hx => ⟨hok x (List.mem_of_mem_drop hx), by have := (hsm x (List.mem_of_mem_drop hx)).2; omega⟩
  generalize l.take j = l1 at *
  generalize l.drop j = l2 at *
  have hl1 : l1.length ≤ 50 := by omega
  have hl2 : l1.length + l2.length ≤ 50 := by omega
  clear hv1 hv2 hv
  rw [hr1.len]
  refine ⟨fun a z => ∃ i : Nat, a = .int .i64 i ∧ i ≤ l1.length ∧ ∃ d, TwI w2 gw g gt gm q.1 i d z ∧ RootP q.2.1 d, fun a _ => (l1.length - RowKit.intOf a).toNat, ⟨0, rfl, by omega, _, hI0, .inl rfl⟩, ?_⟩
  clear hI0 hs3
  rintro _ z ⟨i, rfl, hi, d, H, hrp⟩ -
  have Hf := H.sep.fr0
  simp only [fx, Nat.reduceAdd, forall_const]
  rw [cnd_bool]
  refine ⟨fun h => ?_, fun h => ?_⟩
  · have hlt : i < l1.length := by simp at h; omega
    obtain ⟨a, ha⟩ : ∃ a, l1[i]? = some a := ⟨_, List.getElem?_eq_getElem hlt⟩
    have ham := List.mem_of_getElem? ha
    have ha' : (l1.map AC.t)[i]? = some a.t := by rw [List.getElem?_map, ha]; rfl
    have had : ARd w2.heap a := hr1.d a ham
    change ixs 4 _ _ _
    refine Rows'.ldN (q := Q_flurrylaw19_Act) (by decide) (hr1.rw.fr Hf) ha' .i64 ?_
    refine alloc_s H.sep (A_flurrylaw19_Act z) fun g10 z1 hz1 => ?_
    refine St_flurrylaw19_Act (b := a.t) hz1 (one_flurrylaw19_Act had.d.one had.f.one1) fun z2 hz2 => ?_
    simp only [L_flurrylaw19_Act (Sep.blk hz2), L_flurrylaw19_Act__Poll (Sep.blk hz2), L_flurrylaw19_Act__K (Sep.blk hz2), L_flurrylaw19_Act__Data (Sep.blk hz2), L_flurrylaw19_Act__Votes (Sep.blk hz2)]
    have H2 := H.more (Bs := [_]) hz2
    refine cal_i (H2.does hC had (hok1 a ham).1 (hok1 a ham).2 (by omega)) ?_
    rintro r z3 ⟨d', H', _, hdo⟩
    have hrp' := hdo.root (r0 := q.2.1) hrp
    rw [wi64 (by omega) (by omega)]
    exact ⟨⟨i + 1, by simp, by omega, d', H', hrp'⟩, by simp [RowKit.intOf]; omega⟩
  have hie : i = l1.length := by simp at h; omega
  subst hie
  clear h hi
  have hidl : d.ids.length ≤ 1000000 := by have := H.hn; omega
  refine drH_S H.sep fun z1 hz1 _ => ?_
  refine rdS_ld (v := d.xi) (fun u hu K hk => ((H.at hu).ldx K).mpr hk) ?_
  try simp only [fx, Nat.reduceAdd, forall_const]
  rw [wi64 (by omega) (by omega)]
  refine rdS_ld (v := d.xi) (fun u hu K hk => ((H.at hu).ldx K).mpr hk) ?_
  have h0 := H.h0
  rw [(H.at hz1).rids.len, bi_rem _ _ _ _ (by omega), tmodn]
  have hmod := Nat.mod_lt kk h0
  obtain ⟨b, hb⟩ : ∃ b, d.ids[kk % d.ids.length]? = some b := ⟨_, List.getElem?_eq_getElem hmod⟩
  change ixs 32 _ _ _
  refine rdS_rowV (q := rVec 32) (by decide) hz1 (fun u hu => (H.at hu).rids) hb .i64 ?_
  refine efS_i (alloc_s hz1 (A_api_ID z1) fun g11 z2 hz2 => ⟨hz2.tail, ?_⟩)
  refine efC_stN (St_api_ID (b := b) hz2 fun z3 hz3 => ?_)
  refine drH_S hz3 fun z4 hz4 _ => ?_
  have H4 := H.more (Bs := [_]) hz4
  refine rdS_ld (v := ptr g) (fun u hu K hk => ((H4.at (z' := u) (hu.perm (permL [_] [_, _, _, _, _, _, _, _, _, _] d.As))).ldt K).mpr hk) ?_
  refine ⟨kv b, fun u hu => (L_api_ID (Sep.blk hu) _).mpr rfl, ?_⟩
  refine efC_cal (cal_i (oPreferred_spec H.tp H4.to b) ?_)
  rintro _ z5 ⟨kp, hkp, rfl, hf5⟩
  have hz5 := hz4.old hf5
  simp only [fx, Nat.reduceAdd, forall_const]
  rw [cnd_bool]
  refine ⟨fun h => hout hz5.fr0, fun h => ?_⟩
  have hpb : PrefTo (svM d.S) d.t.root b := (H.tp.preferred hkp).1 (by simpa using h)
  rw [s2]
  have H5 := H.more (Bs := [_]) hz5
  have hst0 : StayP q.2.1 b d := by
    by_cases hbr : b = d.t.root
    · rcases hrp with h1 | h1
      · exact .inr (.inl (hbr.trans h1))
      · exact .inl (hbr ▸ h1)
    · exact .inr (.inr ⟨hbr, hpb⟩)
  rw [hr2.len]
  refine ⟨fun a z => ∃ i : Nat, a = .int .i64 i ∧ i ≤ l2.length ∧ ∃ d, TwI w2 gw g gt gm q.1 (l1.length + i) d z ∧ blk g11 (Rdr.cells (rVec 32) b).toArray T_api_ID ∈ d.As ∧ StayP q.2.1 b d, fun a _ => (l2.length - RowKit.intOf a).toNat, ⟨0, rfl, by omega, _, H5, List.mem_cons_self .., hst0⟩, ?_⟩
  clear hz5 H5 hz4 H4 hz3 hz2 hz1 hst0 hpb hkp hrp Hf H hf5 h hb hmod h0 hidl
  clear d
  rintro _ z ⟨i, rfl, hi, d, H, h11, hsp⟩ -
  have Hf := H.sep.fr0
  simp only [fx, Nat.reduceAdd, forall_const]
  rw [cnd_bool]
  refine ⟨fun h => ?_, fun h => hout Hf⟩
  have hlt : i < l2.length := by simp at h; omega
  obtain ⟨a, ha⟩ : ∃ a, l2[i]? = some a := ⟨_, List.getElem?_eq_getElem hlt⟩
  have ham := List.mem_of_getElem? ha
  have ha' : (l2.map AC.t)[i]? = some a.t := by rw [List.getElem?_map, ha]; rfl
  have had : ARd w2.heap a := hr2.d a ham
  obtain ⟨hak, hafs⟩ := hok2 a ham
  have hNl : d.N.length ≤ 1000000 := by have := H.cnt; omega
  have hidl : d.ids.length ≤ 1000000 := by have := H.hn; omega
  obtain ⟨V, hV⟩ : ∃ V, V = votesM d.ids a.fs [] := ⟨_, rfl⟩
  have hVl : V.length ≤ 1000000 := by have := votesM_len d.ids a.fs []; rw [hV]; simp at this; omega
  have Hm : ∀ {z : World} {Bs : List Asn}, Sep w2 z (Bs ++ (d.L gw g gt gm q.1 ++ d.As)) → TwI w2 gw g gt gm q.1 (l1.length + i) { d with As := Bs ++ d.As } z := fun h => H.more h
  have r11 : ∀ {z : World} {Bs : List Asn}, Sep w2 z (Bs ++ (d.L gw g gt gm q.1 ++ d.As)) → z.heap[g11]? = some (.cells (Rdr.cells (rVec 32) b).toArray T_api_ID (0, 0)) := fun h => Sep.memB (Sep.dropL (As := d.L gw g gt gm q.1) (Sep.dropL h)) h11
  change ixs 4 _ _ _
  refine Rows'.ldN (q := Q_flurrylaw19_Act) (by decide) (hr2.rw.fr Hf) ha' .i64 ?_
  refine alloc_s H.sep (A_flurrylaw19_Act z) fun g13 z1 hz1 => ?_
  refine St_flurrylaw19_Act (b := a.t) hz1 (one_flurrylaw19_Act had.d.one had.f.one1) fun z2 hz2 => ?_
  refine ((Hm (Bs := [_]) hz2).ldt _).mpr ?_
  refine cal_i (oTree_spec (Hm (Bs := [_]) hz2).to hNl) ?_
  rintro _ z3 ⟨g', gm', ov', c', rfl, hz3⟩
  replace hz3 : Sep w2 z3 ((trH g' gm' ov' d.t d.N c' ++ [blk g13 (Rdr.cells Q_flurrylaw19_Act a.t).toArray T_flurrylaw19_Act]) ++ (d.L gw g gt gm q.1 ++ d.As)) := hz2.join hz3
  have rT : ∀ {z : World} {Bs : List Asn}, Sep w2 z (Bs ++ ((trH g' gm' ov' d.t d.N c' ++ [blk g13 (Rdr.cells Q_flurrylaw19_Act a.t).toArray T_flurrylaw19_Act]) ++ (d.L gw g gt gm q.1 ++ d.As))) → TrR z.heap g' gm' ov' d.t d.N c' := fun h =>
    trH_rd (As := [blk g13 (Rdr.cells Q_flurrylaw19_Act a.t).toArray T_flurrylaw19_Act] ++ (d.L gw g gt gm q.1 ++ d.As)) (Sep.dropL h) (H.dat.sub fun A hA => List.mem_append_right _ (List.mem_append_right _ hA))
  have r13 : ∀ {z : World} {Bs : List Asn}, Sep w2 z (Bs ++ ((trH g' gm' ov' d.t d.N c' ++ [blk g13 (Rdr.cells Q_flurrylaw19_Act a.t).toArray T_flurrylaw19_Act]) ++ (d.L gw g gt gm q.1 ++ d.As))) → z.heap[g13]? = some (.cells (Rdr.cells Q_flurrylaw19_Act a.t).toArray T_flurrylaw19_Act (0, 0)) := fun h =>
    Sep.blk (Sep.dropL (As := trH g' gm' ov' d.t d.N c') (Sep.dropL h))
  obtain ⟨Bs, hBs⟩ : ∃ Bs, Bs = trH g' gm' ov' d.t d.N c' ++ [blk g13 (Rdr.cells Q_flurrylaw19_Act a.t).toArray T_flurrylaw19_Act] := ⟨_, rfl⟩
  rw [← hBs] at hz3 rT r13
  clear hBs
  have epoll : (AC.t a).1 = a.poll := rfl
  simp only [fx, Nat.reduceAdd, forall_const, Option.isNone_some]
  refine ⟨fun z => Sep w2 z (Bs ++ (d.L gw g gt gm q.1 ++ d.As)) ∧ (a.poll = true → has d.t d.N b = true → bagOk V → Cond q.1 V d.t d.N b), ?_, ?_⟩
  · refine (L_flurrylaw19_Act__Poll (r13 (Bs := []) hz3) _).mpr ?_
    rw [epoll]
    refine jn1_gif (a.poll && has d.t d.N b) (fun u => Sep w2 u (Bs ++ (d.L gw g gt gm q.1 ++ d.As))) (fun hp => ?_) (fun hp => ⟨by rw [hp]; rfl, hz3⟩) fun y z4 hy hz4 _ => ?_
    · simp only [L_api_ID (r11 hz3)]
      refine cal_i (Has_spec (rT (Bs := []) hz3) b) ?_
      rintro _ z4 ⟨rfl, hf4⟩
      exact ⟨by rw [hp]; rfl, hz3.old hf4⟩
    rw [hy, cnd_bool]
    refine ⟨fun h2 => ?_, fun h2 => ⟨hz4, fun h3 h4 => by rw [h3, h4] at h2; cases h2⟩⟩
    have hbh : has d.t d.N b = true := by
      cases hq : has d.t d.N b with
      | true => rfl
      | false => rw [hq] at h2; simp at h2
    refine drH_S hz4 fun z5 hz5 _ => ?_
    refine ⟨acV a, fun u hu => (L_flurrylaw19_Act (r13 (Bs := []) hu) _).mpr rfl, ?_⟩
    refine efC_cal (cal_i (nVotes_spec (Hm hz5).nm H.h0 hidl (had.fr hz5.fr0) hak hafs) ?_)
    rintro vv z6 hz6
    replace hz6 := hz5.join hz6
    have hz6 : Sep w2 z6 (rows Q_api_Vote vv V :: (Bs ++ (d.L gw g gt gm q.1 ++ d.As))) := by rw [hV]; exact hz6
    refine cal_i (Root_spec (rT (Bs := [_]) hz6)) ?_
    rintro _ z7 ⟨rfl, hf7⟩
    have hz7 := hz6.old hf7
    simp only [fx, Nat.reduceAdd, forall_const]
    refine alloc_s hz7 (A_api_ID z7) fun g16 z8 hz8 => ?_
    refine St_api_ID (b := d.t.root) hz8 fun z9 hz9 => ?_
    refine drH_S hz9 fun z10 hz10 _ => ?_
    have hhb : hgt d.t d.N b ≤ 1000000 := by have := H.tp.tm.hb b hbh; omega
    have hpl : (pathOf d.t d.N b).length ≤ 1000000 := by
      unfold pathOf
      rw [if_pos hbh, List.length_reverse]
      have := wayUp_len d.t d.N (hgt d.t d.N b) b
      omega
    obtain ⟨W, hW⟩ : ∃ W, W = d.t.root :: pathOf d.t d.N b := ⟨_, rfl⟩
    have hWl : W.length ≤ 1000001 := by rw [hW]; simp; omega
    refine ⟨fun x y z0 z => ∃ pv, x = pv ∧ y = .int .i64 W.length ∧ z0 = .int .i64 0 ∧ Sep w2 z (rows (rVec 32) pv W :: rows Q_api_Vote vv V :: (Bs ++ (d.L gw g gt gm q.1 ++ d.As))), ?_, ?_⟩
    · refine ⟨kv d.t.root, fun u hu => (L_api_ID (Sep.blk hu) _).mpr rfl, ?_⟩
      refine ⟨kv b, fun u hu => (L_api_ID (r11 (Bs := _ :: _ :: Bs) hu) _).mpr rfl, ?_⟩
      refine ⟨?_, ?_, trivial⟩
      · refine efS_i (bldI hz10 fun u1 z11 hz11 => ⟨hz11.tail, ?_⟩)
        refine efS_i (cal_i (Path_spec (rT (Bs := [_, _, _]) hz11) H.tp.tm.w b hhb) ?_)
        rintro u2 z12 hz12
        replace hz12 := hz11.join hz12
        refine ⟨Sep.tail (Sep.tail hz12), ?_⟩
        refine efC_efP (app_ids hz12.p1 (Sep.rows hz12) (by simp) hpl fun pv z13 hz13 => ?_)
        have hz14 : Sep w2 z13 (rows (rVec 32) pv W :: rows Q_api_Vote vv V :: (Bs ++ (d.L gw g gt gm q.1 ++ d.As))) := by rw [hW]; exact hz13.d1.d1
        rw [(Sep.rows hz14).len]
        exact ⟨pv, rfl, rfl, rfl, hz14⟩
      · refine efS_i (cal_i (Path_spec (rT (Bs := [_, _]) hz10) H.tp.tm.w b hhb) ?_)
        rintro u2 z11 hz11
        replace hz11 := hz10.join hz11
        refine ⟨Sep.tail hz11, ?_⟩
        refine efS_i (bldI hz11 fun u1 z12 hz12 => ⟨Sep.tail (Sep.tail hz12), ?_⟩)
        refine efC_efP (app_ids hz12 (Sep.rows hz12.p1) (by simp) hpl fun pv z13 hz13 => ?_)
        have hz14 : Sep w2 z13 (rows (rVec 32) pv W :: rows Q_api_Vote vv V :: (Bs ++ (d.L gw g gt gm q.1 ++ d.As))) := by rw [hW]; exact hz13.d1.d1
        rw [(Sep.rows hz14).len]
        exact ⟨pv, rfl, rfl, rfl, hz14⟩
    rintro pv _ _ z11 ⟨pv', rfl, rfl, rfl, hz11⟩ _
    let F : Vec 32 → Vec 32 → Prop := fun at' k => ¬ (at' ≠ b ∧ under d.t d.N b k = false ∧ q.1.2.1 ≤ cntB d.t d.N V k)
    refine ⟨fun v z => ∃ n : Nat, v = .int .i64 n ∧ n ≤ W.length ∧ Sep w2 z (rows (rVec 32) pv W :: rows Q_api_Vote vv V :: (Bs ++ (d.L gw g gt gm q.1 ++ d.As))) ∧ ∀ at' ∈ W.take n, ∀ k ∈ kidsT d.t d.N at', F at' k, fun v _ => (W.length - RowKit.intOf v).toNat, ⟨0, rfl, by omega, hz11, fun at' h => by simp at h⟩, ?_⟩
    rintro _ z12 ⟨n, rfl, hn, hz12, hF⟩ -
    simp only [fx, Nat.reduceAdd, forall_const]
    rw [cnd_bool]
    refine ⟨fun h3 => ?_, fun h3 => ?_⟩
    case refine_2 =>
      have hnW : n = W.length := by simp at h3; omega
      refine ⟨hz12.tail.tail, fun _ _ hbag => cond_of hbh fun at' hat k hk => ?_⟩
      rw [hnW, List.take_length, hW] at hF
      have := hF at' hat k hk
      show ¬ (at' ≠ b ∧ _ ∧ q.1.2.1 ≤ cntT d.t d.N V k)
      have e : cntB d.t d.N V k = cntT d.t d.N V k := if_pos hbag
      rw [← e]
      exact this
    have hnl : n < W.length := by simp at h3; omega
    obtain ⟨at', hat⟩ : ∃ at', W[n]? = some at' := ⟨_, List.getElem?_eq_getElem hnl⟩
    change ixs 32 _ _ _
    refine Rows'.ldN (q := rVec 32) (by decide) (Sep.rows hz12) hat .i64 ?_
    refine alloc_s hz12 (A_api_ID z12) fun g19 z13 hz13 => ?_
    refine St_api_ID (b := at') hz13 fun z14 hz14 => ?_
    simp only [L_api_ID (Sep.blk hz14)]
    refine cal_i (kids19_spec (rT (Bs := [_, _, _]) hz14) hNl H.tp.tm.nd at') ?_
    rintro kv' z15 hz15
    replace hz15 := hz14.join hz15
    obtain ⟨Kd, hKd⟩ : ∃ Kd, Kd = kidsT d.t d.N at' := ⟨_, rfl⟩
    have hKl : Kd.length ≤ 1000000 := by
      rw [hKd]
      unfold kidsT
      split
      · have := List.length_filter_le (fun x : TN => decide (x.2.1.p = at')) d.N
        simp only [nms, List.length_map]
        omega
      · simp
    have hz15 : Sep w2 z15 (rows (rVec 32) kv' Kd :: blk g19 (Rdr.cells (rVec 32) at').toArray T_api_ID :: rows (rVec 32) pv W :: rows Q_api_Vote vv V :: (Bs ++ (d.L gw g gt gm q.1 ++ d.As))) := by rw [hKd]; exact hz15
    rw [(Sep.rows hz15).len]
    refine ⟨fun v z => ∃ m : Nat, v = .int .i64 m ∧ m ≤ Kd.length ∧ Sep w2 z (rows (rVec 32) kv' Kd :: blk g19 (Rdr.cells (rVec 32) at').toArray T_api_ID :: rows (rVec 32) pv W :: rows Q_api_Vote vv V :: (Bs ++ (d.L gw g gt gm q.1 ++ d.As))) ∧ ∀ k ∈ Kd.take m, F at' k, fun v _ => (Kd.length - RowKit.intOf v).toNat, ⟨0, rfl, by omega, hz15, fun k h => by simp at h⟩, ?_⟩
    rintro _ z16 ⟨m, rfl, hm, hz16, hG⟩ -
    simp only [fx, Nat.reduceAdd, forall_const]
    rw [cnd_bool]
    refine ⟨fun h4 => ?_, fun h4 => ?_⟩
    case refine_2 =>
      have hmK : m = Kd.length := by simp at h4; omega
      rw [hmK, List.take_length, hKd] at hG
      rw [wi64 (by omega) (by omega)]
      refine ⟨⟨n + 1, by simp, by omega, hz16.tail.tail, fun x hx k hk => ?_⟩, by simp [RowKit.intOf]; omega⟩
      rw [List.take_add_one, hat] at hx
      rcases List.mem_append.1 hx with hx | hx
      · exact hF x hx k hk
      · have : x = at' := by simpa using hx
        subst this
        exact hG k hk
    have hml : m < Kd.length := by simp at h4; omega
    obtain ⟨kd, hkd⟩ : ∃ kd, Kd[m]? = some kd := ⟨_, List.getElem?_eq_getElem hml⟩
    change ixs 32 _ _ _
    refine Rows'.ldN (q := rVec 32) (by decide) (Sep.rows hz16) hkd .i64 ?_
    refine alloc_s hz16 (A_api_ID z16) fun g21 z17 hz17 => ?_
    refine St_api_ID (b := kd) hz17 fun z18 hz18 => ?_
    refine drH_S hz18 fun z19 hz19 _ => ?_
    refine ⟨kv at', fun u hu => (L_api_ID (Sep.blk (Sep.p2 hu)) _).mpr rfl, ?_⟩
    refine ⟨kv b, fun u hu => (L_api_ID (r11 (Bs := _ :: _ :: _ :: _ :: _ :: Bs) hu) _).mpr rfl, ?_⟩
    refine ⟨.bool (!decide (at' = b)), fun u hu => (ne_api_ID _).mpr rfl, ?_⟩
    refine jn1_gif (!decide (at' = b) && !under d.t d.N b kd) (fun u => Sep w2 u (blk g21 (Rdr.cells (rVec 32) kd).toArray T_api_ID :: rows (rVec 32) kv' Kd :: blk g19 (Rdr.cells (rVec 32) at').toArray T_api_ID :: rows (rVec 32) pv W :: rows Q_api_Vote vv V :: (Bs ++ (d.L gw g gt gm q.1 ++ d.As)))) (fun hp => ?_) (fun hp => ⟨by rw [hp]; rfl, hz19⟩) fun y z20 hy hz20 _ => ?_
    · refine ⟨kv b, fun u hu => (L_api_ID (r11 (Bs := _ :: _ :: _ :: _ :: _ :: Bs) hu) _).mpr rfl, ?_⟩
      refine ⟨kv kd, fun u hu => (L_api_ID (Sep.blk hu) _).mpr rfl, ?_⟩
      refine efS_i (cal_i (Within_spec (rT (Bs := [_, _, _, _, _]) hz19) H.tp.tm.w b kd) ?_)
      rintro _ z20 ⟨rfl, hf20⟩
      have hz20 := hz19.old hf20
      refine ⟨hz20, ?_⟩
      simp only [fx, Nat.reduceAdd, forall_const]
      exact ⟨by rw [hp]; rfl, hz20⟩
    rw [hy]
    refine jn1_gif (!decide (at' = b) && !under d.t d.N b kd && decide (q.1.2.1 ≤ cntB d.t d.N V kd)) (fun u => Sep w2 u (blk g21 (Rdr.cells (rVec 32) kd).toArray T_api_ID :: rows (rVec 32) kv' Kd :: blk g19 (Rdr.cells (rVec 32) at').toArray T_api_ID :: rows (rVec 32) pv W :: rows Q_api_Vote vv V :: (Bs ++ (d.L gw g gt gm q.1 ++ d.As)))) (fun hp => ?_) (fun hp => ⟨by rw [hp]; rfl, hz20⟩) fun y2 z21 hy2 hz21 _ => ?_
    · refine rdS_ld (v := ptr g) (fun u hu K hk => ((Hm (Bs := _ :: _ :: _ :: _ :: _ :: Bs) hu).ldt K).mpr hk) ?_
      refine ⟨kv kd, fun u hu => (L_api_ID (Sep.blk hu) _).mpr rfl, ?_⟩
      try simp only [fx, Nat.reduceAdd, forall_const]
      refine rdS_ld (v := .int .i64 q.1.2.1) (fun u hu K hk => (L_flurrylaw19_Start__P_AlphaPref (hstart hu.fr0) K).mpr hk) ?_
      refine efS_i (cal_i (oCount_spec H.tp.tm (Hm (Bs := _ :: _ :: _ :: _ :: _ :: Bs) hz20).to (V := V) (Sep.rows (Sep.pick hz20 [4] 5)) hVl hNl kd) ?_)
      rintro _ z21 ⟨rfl, hf21⟩
      have hz21 := hz20.old hf21
      refine ⟨hz21, ?_⟩
      simp only [fx, Nat.reduceAdd, forall_const]
      exact ⟨by rw [hp]; rfl, hz21⟩
    rw [hy2, cnd_bool]
    refine ⟨fun h5 => hout hz21.fr0, fun h5 => ?_⟩
    rw [wi64 (by omega) (by omega)]
    refine ⟨⟨m + 1, by simp, by omega, hz21.tail, fun x hx => ?_⟩, by simp [RowKit.intOf]; omega⟩
    rw [List.take_add_one, hkd] at hx
    rcases List.mem_append.1 hx with hx | hx
    · exact hG x hx
    · have hxk : x = kd := by simpa using hx
      subst hxk
      rintro ⟨e1, e2, e3⟩
      rw [decide_eq_false e1, e2, decide_eq_true e3] at h5
      cases h5
  rintro z4 ⟨hz4, hcond⟩ _
  simp only [L_flurrylaw19_Act (r13 (Bs := []) hz4), L_flurrylaw19_Act__Poll (r13 (Bs := []) hz4), L_flurrylaw19_Act__K (r13 (Bs := []) hz4), L_flurrylaw19_Act__Data (r13 (Bs := []) hz4), L_flurrylaw19_Act__Votes (r13 (Bs := []) hz4)]
  refine cal_i ((Hm hz4).does hC had hak hafs (by omega)) ?_
  rintro r z5 ⟨d', H', ⟨E, hE⟩, hdo⟩
  have hE : d'.As = E ++ (Bs ++ d.As) := hE
  have h11' : blk g11 (Rdr.cells (rVec 32) b).toArray T_api_ID ∈ d'.As := by
    rw [hE]
    exact List.mem_append_right _ (List.mem_append_right _ h11)
  have hsp' : StayP q.2.1 b d' := hdo.stay H.tp hsp (by rw [← hV]; exact hcond)
  have r11' : ∀ {z : World}, Sep w2 z (d'.L gw g gt gm q.1 ++ d'.As) → z.heap[g11]? = some (.cells (Rdr.cells (rVec 32) b).toArray T_api_ID (0, 0)) := fun h => Sep.memB (Sep.dropL (As := d'.L gw g gt gm q.1) h) h11'
  have hll : d'.line.length ≤ 1000000 := by have := H'.cnt; omega
  refine drH_S H'.sep fun z6 hz6 _ => ?_
  refine rdS_ld (v := ptr g) (fun u hu K hk => ((H'.at hu).ldt K).mpr hk) ?_
  refine ⟨kv b, fun u hu => (L_api_ID (r11' hu) _).mpr rfl, ?_⟩
  refine efC_cut (cal_i (oPreferred_spec H'.tp (H'.at hz6).to b) ?_)
  rintro _ z7 ⟨kq, hkq, rfl, hf7⟩
  have hz7 := hz6.old hf7
  refine ⟨fun u => Sep w2 u _, hz7, ?_⟩
  simp only [fx, Nat.reduceAdd, forall_const]
  refine jn1_gif (!under d'.t d'.N kq b && !decide (b ∈ d'.line)) (fun u => Sep w2 u (d'.L gw g gt gm q.1 ++ d'.As)) (fun hp => ?_) (fun hp => ⟨by rw [hp]; rfl, hz7⟩) fun y z8 hy hz8 _ => ?_
  · refine rdS_ld (v := d'.lv) (fun u hu K hk => ((H'.at hu).ldl K).mpr hk) ?_
    refine ⟨kv b, fun u hu => (L_api_ID (r11' hu) _).mpr rfl, ?_⟩
    refine efS_i (cal_i (idsContains_spec (H'.at hz7).rline hll b) ?_)
    rintro _ z8 ⟨rfl, hf8⟩
    have hz8 := hz7.old hf8
    refine ⟨hz8, ?_⟩
    simp only [fx, Nat.reduceAdd, forall_const]
    exact ⟨by rw [hp]; rfl, hz8⟩
  rw [hy]
  refine jn1_gif (!under d'.t d'.N kq b && !decide (b ∈ d'.line) && !decide (b = q.2.1)) (fun u => Sep w2 u (d'.L gw g gt gm q.1 ++ d'.As)) (fun hp => ?_) (fun hp => ⟨by rw [hp]; rfl, hz8⟩) fun y2 z9 hy2 hz9 _ => ?_
  · refine ⟨kv b, fun u hu => (L_api_ID (r11' hu) _).mpr rfl, ?_⟩
    try simp only [fx, Nat.reduceAdd, forall_const]
    refine ⟨kv q.2.1, fun u hu => (L_flurrylaw19_Start__Root (hstart hu.fr0) _).mpr rfl, ?_⟩
    refine ⟨.bool (!decide (b = q.2.1)), fun u hu => (ne_api_ID _).mpr rfl, ?_⟩
    exact ⟨by rw [hp]; rfl, hz8⟩
  rw [hy2]
  have hfin : (!under d'.t d'.N kq b && !decide (b ∈ d'.line) && !decide (b = q.2.1)) = false := by
    rcases hsp' with h1 | h1 | ⟨_, h1⟩
    · rw [decide_eq_true h1]; simp
    · rw [decide_eq_true h1]; simp
    · rw [(H'.tp.preferred hkq).2 h1]; rfl
  rw [hfin]
  simp only [fx, Nat.reduceAdd, forall_const]
  rw [wi64 (by omega) (by omega)]
  exact ⟨⟨i + 1, by simp, by omega, d', H'.at hz9, h11', hsp'⟩, by simp [RowKit.intOf]; omega⟩
end
end Go.Fx
namespace Go.Fx
end Go.Fx
namespace Go.Proofs.YtpdnddcodnpmeaaGreatDoor
open Go.ChangeShapes Go.WideShapes Go.ChangeAt Go.RowKit
theorem own : ownKnob Tryz.prog.godebug = none := by kernel_rfl
theorem laidOut : laidOutB Tryz.prog = true := by kernel_rfl
end Go.Proofs.YtpdnddcodnpmeaaGreatDoor
namespace Go.Proofs.YtpdnddcodnpmeaaGreatDoor
open Go.ChangeShapes Go.WideShapes Go.ChangeAt Go.RowKit
abbrev laidL : List (String × DataW Unit) := [("flurry/sha.cubes", Rows.laid_flurry_sha_cubes)]
theorem gCubes : Tryz.prog.globalNamed "flurry/sha.cubes" = some 0 := by kernel_rfl
theorem tCubes : (Tryz.prog.globals[0]?).map (·.type) = some Go.Fx.T_a64_uint32 := by kernel_rfl
theorem door_met (os : Os) (args : Array Value) : laidMetH Tryz.prog laidL ((World.doorLaid Tryz.prog 400 os).forCall (fun _ _ => 0) ⟨#[], args, []⟩).memory :=
  laidMetH_of_parts3 (fuel := 8) (laidMet_of_run' 8 (by kernel_rfl) (by kernel_rfl)) (by kernel_rfl) (by kernel_rfl)
theorem cub_of_laid {W : World} (h : laidMetH Tryz.prog laidL W) : Go.Fx.Cub W := by
  rw [MakeChecks.laidMetH_plain _ _ _ (by kernel_rfl)] at h
  obtain ⟨ps, ⟨g0, t0, cs0, f0, p0, q0, hg0, ht0, hv0, hd0, _, _⟩, _, _⟩ := h
  obtain rfl := Option.some.inj (gCubes.symm.trans hg0)
  obtain rfl := Option.some.inj (tCubes.symm.trans ht0)
  have hcs : cs0.toList = Go.Fx.wvs Go.Fx.cubesL := by
    obtain ⟨xs, m1, _, hx1, hlen, hn3, hel⟩ := DataW.trod_array Go.Fx.U_a64_uint32 hd0
    have c1 : Tryz.prog.cellsOf Go.Fx.T_uint32 = 1 := by kernel_rfl
    have c64 : Tryz.prog.cellsOf Go.Fx.T_a64_uint32 = 64 := by kernel_rfl
    rw [c64] at hlen
    rw [c1] at hel
    have hd : (Rows.laid_flurry_sha_cubes : DataW Unit) = .agg (Go.Fx.cubesL.map fun x => .lit (.int .u32 x.toNat)) := by kernel_rfl
    rw [hd] at hx1
    simp only [Prod.mk.injEq, DataW.agg.injEq] at hx1
    apply List.ext_getElem?
    intro i
    by_cases hi : i < 64
    · have h1 := hel i hi
      have hx : xs[i]? = some (xs[i]'(by omega)) := List.getElem?_eq_getElem _
      rw [hx] at h1
      generalize xs[i]'(by omega) = y at *
      obtain ⟨k, e1, e2, _⟩ := DataW.trod_int Go.Fx.U_uint32 h1
      have h2 := congrArg (·[i]?) hx1.1
      simp only [List.getElem?_map, hx, e2, Option.map_some] at h2
      have h3 : cs0.toList[i]? = some (.int .u32 k) := by
        have : ((cs0.toList.drop (i * 1)).take 1)[0]? = some (.int .u32 k) := by rw [e1]; rfl
        rw [List.getElem?_take_of_lt (by omega), List.getElem?_drop, Nat.mul_one, Nat.add_zero] at this
        exact this
      rw [h3, Go.Fx.wvs, List.getElem?_map]
      cases hc : Go.Fx.cubesL[i]? with
      | none => rw [hc] at h2; cases h2
      | some z =>
        rw [hc] at h2
        simp only [Option.map_some, Option.some.injEq, DataW.lit.injEq, Lit.int.injEq, true_and] at h2
        rw [Option.map_some, ← h2]
        rfl
    · rw [List.getElem?_eq_none (by omega), List.getElem?_eq_none (by rw [Go.Fx.wvs, List.length_map]; show 64 ≤ i; omega)]
  have hv1 := hv0
  unfold World.var? at hv1
  rw [hg0] at hv1
  simp only [Option.bind_some] at hv1
  cases hh : W.heap[0]? with
  | none => rw [hh] at hv1; cases hv1
  | some o =>
    rw [hh] at hv1
    cases o with
    | cells cs t fr =>
      simp only [Option.some.injEq] at hv1
      subst hv1
      refine ⟨t, fr, ?_⟩
      rw [hh]
      have : cs = (Go.Fx.wvs Go.Fx.cubesL).toArray := by apply Array.ext'; simpa using hcs
      rw [this]
    | _ => cases hv1
end Go.Proofs.YtpdnddcodnpmeaaGreatDoor
set_option linter.unusedVariables false
set_option linter.unusedSimpArgs false
namespace Go.Proofs.YtpdnddcodnpmeaaGreatDoor
open Go.ChangeShapes Go.WideShapes Go.ChangeAt Go.RowKit
set_option maxRecDepth 100000 in
theorem liftedTopoStays (os : Os) (started : os.Started) (H : Type) (enc : TypeId × Value → H) :
    ReturnsInHanded {} Tryz.checked os 5 .any (fun w args => (Rows.topoStaysSpec.pre enc Tryz.prog Tryz.f5 [] false w args ∧ laidMetH Tryz.prog laidL w) ∧ sizedMet enc Tryz.prog Tryz.f5 (OpenSpec.ofChange Rows.topoStaysSpec) false w args) (Rows.topoStaysSpec.post enc Tryz.prog Tryz.f5 false true false false) := by
  refine returnsInHanded_of_change_and (C := Tryz.checked) (X := fun w _ => laidMetH Tryz.prog laidL w) (fun _ _ _ hh h => h.of_heap hh) own started (by kernel_rfl) Tryz.func5
    (ChangeSpec.witness_shaped (enc := enc) (C := Tryz.checked) (os := os) (X := fun w _ => laidMetH Tryz.prog laidL w) false (World.doorLaid Tryz.prog 400 os) #[((Value.agg ((List.replicate 4 (Value.int IntKind.i64 0) ++ List.replicate 32 (Value.int IntKind.u8 0) ++ List.replicate 2 (Value.int IntKind.i64 0) : List Value).toArray))), .slice none 0 0, .int .u8 0] 8 rfl (World.shaped_of_RefB (by kernel_rfl) (by kernel_rfl)) (by kernel_rfl) (by kernel_rfl) (by kernel_rfl) (door_met os _)) ?_
  intro W base args ds gs before hval0 hW _ _ hL _
  have hcub : Go.Fx.Cub W := cub_of_laid hL
  have hval : ∀ (j : Nat) t v, Tryz.f5.params[j]? = some t → args[j]? = some v → Value.okWide Tryz.prog W .any base t v := hval0
  have hW' := hW
  obtain ⟨p, q, hA0, hV, rfl, hfz, hnd⟩ := hW
  have hA : DataW.TrodAll enc Tryz.prog W 0 (fun _ => true) true Tryz.f5.params.toList args.toList ds p := hA0
  rw [Tryz.params5] at hA hval
  obtain ⟨v0, vs0, d0, ds0, p0, q0, hargs, rfl, rfl, h0, r0⟩ := trodAll_cons hA
  obtain ⟨v1, vs1, d1, ds1, p1, q1, rfl, rfl, rfl, h1, r1⟩ := trodAll_cons r0
  obtain ⟨v2, vs2, d2, ds2, p2, q2, rfl, rfl, rfl, h2, r2⟩ := trodAll_cons r1
  obtain ⟨rfl, rfl, rfl⟩ := trodAll_nil r2
  obtain rfl : args = #[v0, v1, v2] := by cases args; simp_all
  obtain ⟨rfl, rfl⟩ := trodVars_none hV
  obtain ⟨cs0, rfl, sz0⟩ := okWide_struct Tryz.underlying27 (hval 0 27 v0 rfl rfl)
  have k0 := h0
  have lt0 : ∀ x ∈ p0, x.block < W.heap.size := by obtain ⟨m, hm⟩ := k0; exact DataW.trod_lt m _ _ _ hm
  obtain ⟨f0, hf0⟩ := h0
  have hx0 := Go.Fx.O_flurrylaw19_Start hf0
  obtain ⟨x0, rfl, rd0⟩ := hx0
  obtain ⟨a1, len1, cap1, rfl⟩ := okWide_slice Tryz.underlying28 (hval 1 28 v1 rfl rfl)
  have k1 := h1
  have lt1 : ∀ x ∈ p1, x.block < W.heap.size := by obtain ⟨m, hm⟩ := k1; exact DataW.trod_lt m _ _ _ hm
  obtain ⟨f1, hf1⟩ := h1
  have hx1 := Go.Fx.O_sl_flurrylaw19_Act hf1
  obtain ⟨l1, rd1⟩ := hx1
  obtain ⟨a2, rfl, rfl, rfl, w2⟩ := open_int Tryz.underlying5 (hval 2 5 v2 rfl rfl) h2
  have b2 := bounds_u8 w2
  obtain ⟨n2, rfl⟩ := Int.eq_ofNat_of_zero_le b2.1
  have b2 : n2 < 256 := by omega
  clear hA0 hval0
  have hcal := Go.Fx.wStays (q := x0) hcub rd1 b2
  refine Calls.mono hcal fun e W' ⟨v, he, hv, hf⟩ => ?_
  subst hv
  subst he
  have bel : Below W.heap.size W W' := hf.below (by simp)
  exact ⟨_, rfl, _, _, _, [], _, [], hW', trodAll_mk1 (shut_bool Tryz.underlying4 _), (trodAll_cons_mk (Below.trod laidOut (by kernel_rfl) (of_decide_eq_true (by kernel_rfl)) k0 bel lt0) (trodAll_cons_mk (Below.trod laidOut (by kernel_rfl) (of_decide_eq_true (by kernel_rfl)) k1 bel lt1) (trodAll_cons_mk (shut_int Tryz.underlying5 w2) trodAll_mk0))), rfl, bel.frame _, fun h => by cases h⟩
theorem topoStays : Rows.TopoStaysSaid :=
  OpenClaim.holds_of_wide 5 Tryz.f5 rfl rfl rfl rfl rfl rfl rfl ⟨rfl, rfl, rfl, rfl, rfl⟩ rfl rfl rfl rfl rfl (by kernel_rfl) Tryz.func5 (by kernel_rfl)
    (of_decide_eq_true (by kernel_rfl)) (by unfold Func.isWrapper; first | (rw [if_pos (by decide +kernel)]; kernel_rfl) | (rw [if_neg (by decide +kernel)]; exact ⟨rfl, rfl⟩))
    (fun os started H enc _ => liftedTopoStays os started H enc)
theorem topoStaysCard : Rows.TopoStaysCardSaid :=
  Claim7.holds_tied_plain_at .later [] [.data] true (true, "31b91c773755166b2259662efe0290c201ce4ed0645ef922d45d50ed6dd0d4b1") false
    topoStays (fun _ h => by cases h) (by kernel_rfl) (fun _ h => by cases h) topoStays_row_tie rfl ⟨rfl, rfl⟩ (by kernel_rfl) rfl
    (fun f fn hf hfn => by
      obtain rfl : f = 5 := Option.some.inj ((show Tryz.prog.funcNamed "flurry/flurrylaw19.TopoStays" = some 5 by kernel_rfl).symm.trans hf) |>.symm
      obtain rfl : fn = Tryz.f5 := (Option.some.inj (Tryz.func5.symm.trans hfn)).symm
      exact ⟨by kernel_rfl, fun j t ht => by
        rw [Tryz.params5] at ht
        have hm : t ∈ [27, 28, 5] := by simpa using Array.mem_of_getElem? ht
        have hall : ([27, 28, 5].all fun u => !Tryz.prog.wantsStandIn u) = true := by kernel_rfl
        exact (show Tryz.prog.wantsStandIn t = false by simpa using List.all_eq_true.1 hall t hm)⟩)
    (by kernel_rfl)
#print axioms topoStaysCard
end Go.Proofs.YtpdnddcodnpmeaaGreatDoor
