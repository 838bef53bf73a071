/-
  The example of the statements on Topo.
-/
import Derived.KernelRfl
import Derived.Test.YtpdnddcodnpmeaaDoorQdc0ec371
import Derived.Test.YtpdnddcodnpmeaaDoorQ3a432b15
import Derived.Test.YtpdnddcodnpmeaaDoorQf27925b2
set_option linter.unusedVariables false
set_option linter.unusedSimpArgs false
namespace Go.Fx
theorem beq_dec (a b : Int) : (a == b) = decide (a = b) := by by_cases h : a = b <;> simp [h]
theorem bne_dec (a b : Int) : (a != b) = !decide (a = b) := by by_cases h : a = b <;> simp [h]
theorem bad_or (b1 b2 b3 b4 : Bool) : (((!b1 || b2) || b3) || b4) = !(b1 && (!b2 && (!b3 && !b4))) := by cases b1 <;> cases b2 <;> cases b3 <;> cases b4 <;> rfl
def bestS (x : Sn) : Int := ((x.l[(plc x.l x.pref).toNat]?).map (·.2)).getD 0
def goodAt (x : Sn) (c : Cho) (i : Nat) : Bool := decide (plc x.l c.1 = (i : Int)) && (!decide (c.2 < 0) && (!decide (1073741824 < c.2) && !decide (bestS x < c.2)))
def headBad (p : Par) (x : Sn) : Prop := x.l.length < 1 ∨ 32 < x.l.length ∨ plc x.l x.pref < 0 ∨ plc x.l x.flake < 0 ∨ x.conf < 0 ∨ p.2.2.2 < x.conf ∨ x.dn ≠ decide (x.conf = p.2.2.2)
open Classical in
noncomputable def snE (p : Par) (x : Sn) : Int := if parE p ≠ 0 then parE p else if headBad p x then 171 else if ∀ i c, x.l[i]? = some c → goodAt x c i = true then 0 else 171
theorem snE_par {p : Par} {x : Sn} (h : parE p ≠ 0) : snE p x = parE p := by rw [snE, if_pos h]
theorem snE_head {p : Par} {x : Sn} (h : parE p = 0) (hb : headBad p x) : snE p x = 171 := by rw [snE, if_neg (by simpa using h), if_pos hb]
theorem snE_bad {p : Par} {x : Sn} (h : parE p = 0) {i : Nat} {c : Cho} (hc : x.l[i]? = some c) (hg : goodAt x c i = false) : snE p x = 171 := by
  rw [snE, if_neg (by simpa using h)]
  split
  · rfl
  · rw [if_neg]
    intro hall
    rw [hall i c hc] at hg
    cases hg
theorem snE_ok {p : Par} {x : Sn} (h : parE p = 0) (hb : ¬ headBad p x) (hg : ∀ i c, x.l[i]? = some c → goodAt x c i = true) : snE p x = 0 := by rw [snE, if_neg (by simpa using h), if_neg hb, if_pos hg]
section
variable {w : World} {v : Value} {x : Sn} {p : Par}
theorem snCheck_spec (hr : Rows' Q_api_Choice w.heap v x.l) (hl : x.l.length ≤ 9223372036854775807) : cal P f_snow_Check [pav p, snv v x] w fun r w' => r = .int .i64 (snE p x) ∧ Fr [] w w' := by
  refine s_snow_Check fun R hR => ?_
  unfold c_snow_Check
  refine bx_s (Sep.start w) fun g w1 hs => ?_
  refine bx_s hs fun g2 w2 hs => ?_
  simp only [Value.cells] at hs
  simp only [fx, Nat.reduceAdd, forall_const, L_api_Params hs.p1.blk, L_api_Params__K hs.p1.blk, L_api_Params__AlphaPref hs.p1.blk, L_api_Params__AlphaConf hs.p1.blk, L_api_Params__Beta hs.p1.blk]
  refine cal_i snParams_spec ?_
  rintro _ w3 ⟨rfl, hf3⟩
  replace hs := hs.old hf3
  simp only [fx, Nat.reduceAdd, forall_const]
  rw [cnd_bool]
  refine ⟨fun h => ?_, fun h => ?_⟩
  · exact hR _ _ ⟨by rw [snE_par (by simpa using h)], hs.fr0⟩
  have hpar : parE p = 0 := by simpa using h
  simp only [L_api_Snow hs.blk, L_api_Snow__List hs.blk, L_api_Snow__Pref hs.blk, L_api_Snow__Flake hs.blk, L_api_Snow__Conf hs.blk, L_api_Snow__Done hs.blk]
  refine cal_i (snPlace_spec (hr.fr hs.fr0) hl) ?_
  rintro _ w4 ⟨rfl, hf4⟩
  replace hs := hs.old hf4
  simp only [fx, Nat.reduceAdd, forall_const, L_api_Snow hs.blk, L_api_Snow__List hs.blk, L_api_Snow__Pref hs.blk, L_api_Snow__Flake hs.blk, L_api_Snow__Conf hs.blk, L_api_Snow__Done hs.blk, (hr.fr hs.fr0).len]
  have hbad : headBad p x → ∀ w', Fr [] w w' → R (.int .i64 171) w' := fun h w' hf => hR _ _ ⟨by rw [snE_head hpar h], hf⟩
  cases hA : ((decide ((x.l.length : Int) < 1) || decide (32 < (x.l.length : Int))) || decide (plc x.l x.pref < 0)) with
  | true =>
    simp only [fx, Nat.reduceAdd, forall_const]
    refine hbad ?_ _ hs.fr0
    simp at hA
    unfold headBad
    omega
  | false =>
    simp only [fx, Nat.reduceAdd, forall_const]
    refine jn1_dup (cal_i (snPlace_spec (hr.fr hs.fr0) hl) ?_)
    rintro _ w5 ⟨rfl, hf5⟩
    replace hs := hs.old hf5
    simp only [fx, Nat.reduceAdd, forall_const, L_api_Snow hs.blk, L_api_Snow__List hs.blk, L_api_Snow__Pref hs.blk, L_api_Snow__Flake hs.blk, L_api_Snow__Conf hs.blk, L_api_Snow__Done hs.blk, L_api_Params hs.p1.blk, L_api_Params__K hs.p1.blk, L_api_Params__AlphaPref hs.p1.blk, L_api_Params__AlphaConf hs.p1.blk, L_api_Params__Beta hs.p1.blk, neS_bool _ _ U_bool, (hr.fr hs.fr0).len, beq_dec]
    simp at hA
    rw [cnd_bool]
    refine ⟨fun h => ?_, fun h => ?_⟩
    · refine hbad ?_ _ hs.fr0
      simp at h
      unfold headBad
      by_cases h1 : plc x.l x.flake < 0
      · exact .inr (.inr (.inr (.inl h1)))
      by_cases h2 : x.conf < 0
      · exact .inr (.inr (.inr (.inr (.inl h2))))
      by_cases h3 : p.2.2.2 < x.conf
      · exact .inr (.inr (.inr (.inr (.inr (.inl h3)))))
      · refine .inr (.inr (.inr (.inr (.inr (.inr fun he => ?_)))))
        simp [h1, h2, h3, he] at h
    · simp at h
      have hnb : ¬ headBad p x := by
        unfold headBad
        rintro (h1 | h1 | h1 | h1 | h1 | h1 | h1)
        · omega
        · omega
        · omega
        · omega
        · omega
        · omega
        · exact h1 h.2
      obtain ⟨i0, c0, hpl, hc0, hcid, _⟩ : ∃ i c, plc x.l x.pref = ((i : Nat) : Int) ∧ x.l[i]? = some c ∧ c.1 = x.pref ∧ ∀ (j : Nat) (d : Cho), j < i → x.l[j]? = some d → d.1 ≠ x.pref := by
        rcases plc_cases x.l x.pref with ⟨h1, _⟩ | h1
        · omega
        · exact h1
      have hbest : bestS x = c0.2 := by rw [bestS, hpl, Int.toNat_natCast, hc0]; rfl
      refine ⟨fun y w' => ∃ i : Nat, i ≤ x.l.length ∧ y = .int .i64 i ∧ (∀ (j : Nat) (d : Cho), j < i → x.l[j]? = some d → goodAt x d j = true) ∧ Sep w w' [blk g2 (Rdr.cells Q_api_Snow (snr v x)).toArray T_api_Snow], fun y _ => (x.l.length - RowKit.intOf y).toNat,
        ⟨0, by omega, rfl, by simp, hs.d1⟩, ?_⟩
      rintro _ w6 ⟨i, hi, rfl, hgood, hs6⟩ -
      simp only [fx, Nat.reduceAdd, forall_const]
      rw [cnd_bool]
      refine ⟨fun h => ?_, fun h => ?_⟩
      · have hlt : i < x.l.length := by simpa using h
        obtain ⟨c, hc⟩ : ∃ c, x.l[i]? = some c := ⟨_, List.getElem?_eq_getElem hlt⟩
        refine (hr.fr hs6.fr0).ldN (by decide) hc _ ?_
        refine alloc_s hs6 (A_api_Choice w6) fun g7 w7 hs7 => ?_
        refine St_api_Choice hs7 one_api_Choice fun w8 hs8 => ?_
        refine drH_s hs8 fun w9 hs9 _ => ?_
        simp only [fx, Nat.reduceAdd, forall_const, rdS_ld1, rdS_ldN, L_api_Snow hs9.p1.blk, L_api_Snow__List hs9.p1.blk, L_api_Snow__Pref hs9.p1.blk, L_api_Snow__Flake hs9.p1.blk, L_api_Snow__Conf hs9.p1.blk, L_api_Snow__Done hs9.p1.blk, L_api_Choice hs9.blk, L_api_Choice__ID hs9.blk, L_api_Choice__Strength hs9.blk]
        refine efC_cal (cal_i (snPlace_spec (hr.fr hs9.fr0) hl) ?_)
        rintro _ w10 ⟨rfl, hf10⟩
        have hs10 := hs9.old hf10
        obtain ⟨g5, o5, hat, hix⟩ := (hr.fr hs10.fr0).ix (by decide) hc0
        have hix' : ∀ K, ixs 33 v (.int .i64 (i0 : Int)) K = K (.pointer (some ⟨g5, o5, none⟩)) := hix .i64
        simp only [fx, Nat.reduceAdd, forall_const, rdS_ld1, rdS_ldN, L_api_Snow hs10.p1.blk, L_api_Snow__List hs10.p1.blk, L_api_Snow__Pref hs10.p1.blk, L_api_Snow__Flake hs10.p1.blk, L_api_Snow__Conf hs10.p1.blk, L_api_Snow__Done hs10.p1.blk, L_api_Choice hs10.blk, L_api_Choice__ID hs10.blk, L_api_Choice__Strength hs10.blk, hpl, hix', LA_api_Choice__Strength hat, bne_dec]
        have hgd : goodAt x c i = (decide (plc x.l c.1 = (i : Int)) && (!decide (c.2 < 0) && (!decide (1073741824 < c.2) && !decide (c0.2 < c.2)))) := by rw [goodAt, hbest]
        rw [bad_or, ← hgd, cnd_bool]
        refine ⟨fun h => ?_, fun h => ?_⟩
        · exact hR _ _ ⟨by rw [snE_bad hpar hc (by simpa using h)], hs10.fr0⟩
        · have hgt : goodAt x c i = true := by simpa using h
          rw [wi64 (by omega) (by omega)]
          refine ⟨⟨i + 1, by omega, by simp, fun j d hj hd => ?_, hs10.tail⟩, by simp [RowKit.intOf]; omega⟩
          by_cases hji : j = i
          · subst hji; rw [hc] at hd; cases hd; exact hgt
          · exact hgood j d (by omega) hd
      · have hge : i = x.l.length := by simp at h; omega
        exact hR _ _ ⟨by rw [snE_ok hpar hnb fun j d hd => hgood j d (by have := (List.getElem?_eq_some_iff.1 hd).1; omega) hd], hs6.fr0⟩
end
end Go.Fx
set_option linter.unusedVariables false
set_option linter.unusedSimpArgs false
namespace Go.Fx
section
variable {w : World} {v : Value} {x : Sn} {p : Par}
end
end Go.Fx
set_option linter.unusedVariables false
set_option linter.unusedSimpArgs false
namespace Go.Fx
abbrev tupS (x : Sn) : Id × Id × Int × Bool × List Cho := (x.pref, x.flake, x.conf, x.dn, x.l)
noncomputable def sameS (x y : Sn) : Bool := @decide (tupS x = tupS y) (Classical.propDecidable _)
theorem sameS_ne {x y : Sn} (h : tupS x ≠ tupS y) : sameS x y = false := by simp [sameS, h]
theorem sameS_eq {x y : Sn} (h : tupS x = tupS y) : sameS x y = true := by simp [sameS, h]
section
variable {w : World} {v u : Value} {x y : Sn} {p : Par} {id : Id}
theorem sameS_rows {x y : Sn} (h1 : x.pref = y.pref) (h2 : x.flake = y.flake) (h3 : x.conf = y.conf) (h4 : x.dn = y.dn) (hl : x.l.length = y.l.length) (h5 : ∀ (j : Nat) (c d : Cho), x.l[j]? = some c → y.l[j]? = some d → c = d) : tupS x = tupS y := by
  have : x.l = y.l := by
    apply List.ext_getElem hl
    intro j a b
    exact h5 j _ _ (List.getElem?_eq_getElem a) (List.getElem?_eq_getElem b)
  simp [tupS, h1, h2, h3, h4, this]
theorem rsSame_spec (hr : Rows' Q_api_Choice w.heap v x.l) (hs' : Rows' Q_api_Choice w.heap u y.l) (hl : x.l.length ≤ 9223372036854775807) (hl' : y.l.length ≤ 9223372036854775807) : cal P f_ref17_Same [snv v x, snv u y] w fun r w' => r = .bool (sameS x y) ∧ Fr [] w w' := by
  refine s_ref17_Same fun R hR => ?_
  unfold c_ref17_Same
  refine bx_s (Sep.start w) fun g w1 hs => ?_
  refine bx_s hs fun g2 w2 hs => ?_
  simp only [Value.cells] at hs
  simp only [fx, Nat.reduceAdd, forall_const, L_api_Snow hs.blk, L_api_Snow__List hs.blk, L_api_Snow__Pref hs.blk, L_api_Snow__Flake hs.blk, L_api_Snow__Conf hs.blk, L_api_Snow__Done hs.blk, L_api_Snow hs.p1.blk, L_api_Snow__List hs.p1.blk, L_api_Snow__Pref hs.p1.blk, L_api_Snow__Flake hs.p1.blk, L_api_Snow__Conf hs.p1.blk, L_api_Snow__Done hs.p1.blk, ne_api_ID, bne_dec, neS_bool _ _ U_bool, (hr.fr hs.fr0).len, (hs'.fr hs.fr0).len]
  rw [cnd_bool]
  refine ⟨fun h => ?_, fun h => ?_⟩
  · have hne : tupS x ≠ tupS y := by
      intro he
      simp only [tupS, Prod.mk.injEq] at he
      obtain ⟨e1, e2, e3, e4, e5⟩ := he
      simp [e1, e2, e3, e4, e5] at h
    exact hR _ _ ⟨by rw [sameS_ne hne], hs.fr0⟩
  · simp at h
    obtain ⟨⟨⟨⟨e5, e1⟩, e2⟩, e3⟩, e4⟩ := h
    refine ⟨fun z w' => ∃ i : Nat, i ≤ x.l.length ∧ z = .int .i64 i ∧ (∀ (j : Nat) (c d : Cho), j < i → x.l[j]? = some c → y.l[j]? = some d → c = d) ∧ Sep w w' [blk g2 (Rdr.cells Q_api_Snow (snr u y)).toArray T_api_Snow, blk g (Rdr.cells Q_api_Snow (snr v x)).toArray T_api_Snow],
      fun z _ => (x.l.length - RowKit.intOf z).toNat, ⟨0, by omega, rfl, by simp, hs⟩, ?_⟩
    rintro _ w3 ⟨i, hi, rfl, hall, hs3⟩ -
    simp only [fx, Nat.reduceAdd, forall_const, L_api_Snow hs3.blk, L_api_Snow__List hs3.blk, L_api_Snow__Pref hs3.blk, L_api_Snow__Flake hs3.blk, L_api_Snow__Conf hs3.blk, L_api_Snow__Done hs3.blk, L_api_Snow hs3.p1.blk, L_api_Snow__List hs3.p1.blk, L_api_Snow__Pref hs3.p1.blk, L_api_Snow__Flake hs3.p1.blk, L_api_Snow__Conf hs3.p1.blk, L_api_Snow__Done hs3.p1.blk, (hr.fr hs3.fr0).len]
    rw [cnd_bool]
    refine ⟨fun h => ?_, fun h => ?_⟩
    · have hlt : i < x.l.length := by simpa using h
      obtain ⟨c, hc⟩ : ∃ c, x.l[i]? = some c := ⟨_, List.getElem?_eq_getElem hlt⟩
      obtain ⟨d, hd⟩ : ∃ d, y.l[i]? = some d := ⟨_, List.getElem?_eq_getElem (by omega)⟩
      refine drw_s hs3 fun w4 hs4 _ => ?_
      simp only [fx, Nat.reduceAdd, forall_const, L_api_Snow hs4.blk, L_api_Snow__List hs4.blk, L_api_Snow__Pref hs4.blk, L_api_Snow__Flake hs4.blk, L_api_Snow__Conf hs4.blk, L_api_Snow__Done hs4.blk, L_api_Snow hs4.p1.blk, L_api_Snow__List hs4.p1.blk, L_api_Snow__Pref hs4.p1.blk, L_api_Snow__Flake hs4.p1.blk, L_api_Snow__Conf hs4.p1.blk, L_api_Snow__Done hs4.p1.blk]
      refine (hr.fr hs4.fr0).ldN (by decide) hc _ ?_
      refine (hs'.fr hs4.fr0).ldN (by decide) hd _ ?_
      rw [ne_api_Choice, cnd_bool]
      refine ⟨fun h => ?_, fun hne => ?_⟩
      · have hne : tupS x ≠ tupS y := by
          intro he
          simp only [tupS, Prod.mk.injEq] at he
          rw [he.2.2.2.2, hd] at hc
          cases hc
          simp at h
        exact hR _ _ ⟨by rw [sameS_ne hne], hs4.fr0⟩
      · rw [wi64 (by omega) (by omega)]
        refine ⟨⟨i + 1, by omega, by simp, fun j c' d' hj hc' hd' => ?_, hs4⟩, by simp [RowKit.intOf]; omega⟩
        by_cases hji : j = i
        · subst hji
          rw [hc] at hc'
          rw [hd] at hd'
          cases hc'; cases hd'
          simpa using hne
        · exact hall j c' d' (by omega) hc' hd'
    · have hge : i = x.l.length := by simp at h; omega
      exact hR _ _ ⟨by rw [sameS_eq (sameS_rows e1 e2 e3 e4 (by omega) fun j c d hc hd => hall j c d (by have := (List.getElem?_eq_some_iff.1 hc).1; omega) hc hd)], hs3.fr0⟩
theorem choOne (l : List Cho) : ∀ u ∈ l.flatMap (Rdr.cells Q_api_Choice), u.oneCell' = true := by
  intro u hu
  obtain ⟨a, _, ha⟩ := List.mem_flatMap.1 hu
  exact one_api_Choice u ha
theorem sClone_spec {l : List Cho} (hr : Rows' Q_api_Choice w.heap v l) (hl : l.length ≤ 1000000) : cal P f_slices_Clone_api_Choice_api_Choice [v] w fun r w' => Sep w w' [rows Q_api_Choice r l] := by
  refine s_slices_Clone_api_Choice_api_Choice fun R hR => ?_
  unfold c_slices_Clone_api_Choice_api_Choice
  obtain ⟨a, c, hv, hl', hh⟩ := id hr
  subst hv
  cases a with
  | none =>
    have h0 : l = [] := by
      rcases hh with h0 | ⟨_, _, _, _, _, h, _⟩
      · have hsz : Rdr.size Q_api_Choice = 33 := rfl
        rw [hsz] at h0
        exact List.eq_nil_of_length_eq_zero (by omega)
      · cases h
    subst h0
    simp only [fx, Nat.reduceAdd, forall_const]
    exact hR _ _ (Sep.start w).nilR
  | some a =>
    simp only [fx, Nat.reduceAdd, forall_const]
    have hb1 : ∀ w : World, (Instr.buildSlice T_sl_api_Choice 0 #[]).run P w = .ok (.slice (some ⟨w.heap.size, 0, none⟩) 0 0) (w.alloc (.cells (([] : List Cho).flatMap (Rdr.cells Q_api_Choice)).toArray T_api_Choice)) := fun w => by kernel_rfl
    refine rows_build (q := Q_api_Choice) (l := []) (Sep.start w) rfl (hb1 _) fun g w1 hs => ?_
    refine rows_app S_sl_api_Choice U_sl_api_Choice (by simp) hs (hr.fr hs.fr0) (choOne l) (by simp; omega) (by simp; omega) fun v' w2 hs => ?_
    exact hR _ _ hs
theorem snOwn_spec (hr : Rows' Q_api_Choice w.heap v x.l) (hl : x.l.length ≤ 1000000) (h1 : v.oneCell' = true) : cal P f_snow_own [snv v x] w fun r w' => ∃ v', r = snv v' x ∧ Sep w w' [rows Q_api_Choice v' x.l] := by
  refine s_snow_own fun R hR => ?_
  unfold c_snow_own
  refine bx_s (Sep.start w) fun g w1 hs => ?_
  simp only [Value.cells] at hs
  refine alloc_s hs (A_api_Snow w1) fun g2 w2 hs => ?_
  simp only [fx, Nat.reduceAdd, forall_const, L_api_Snow hs.p1.blk, L_api_Snow__List hs.p1.blk, L_api_Snow__Pref hs.p1.blk, L_api_Snow__Flake hs.p1.blk, L_api_Snow__Conf hs.p1.blk, L_api_Snow__Done hs.p1.blk]
  refine cal_i (sClone_spec (hr.fr hs.fr0) hl) ?_
  rintro v' w3 hs3
  replace hs := hs.join hs3
  clear hs3
  refine St_api_Snow__List (Sep.p2 hs) (Sep.oneR hs) fun w4 hs4 => ?_
  simp only [L_api_Snow hs4.blk, L_api_Snow__List hs4.blk, L_api_Snow__Pref hs4.blk, L_api_Snow__Flake hs4.blk, L_api_Snow__Conf hs4.blk, L_api_Snow__Done hs4.blk]
  refine St_api_Snow hs4.p2 (one_api_Snow (Sep.oneR hs)) fun w5 hs5 => ?_
  simp only [L_api_Snow hs5.blk, L_api_Snow__List hs5.blk, L_api_Snow__Pref hs5.blk, L_api_Snow__Flake hs5.blk, L_api_Snow__Conf hs5.blk, L_api_Snow__Done hs5.blk]
  exact hR _ _ ⟨v', rfl, hs5.p2.d2.d1⟩
theorem snPrefers_spec : cal P f_snow_Prefers [snv v x] w fun r w' => r = idv (bif x.dn then x.flake else x.pref) ∧ Fr [] w w' := by
  refine s_snow_Prefers fun R hR => ?_
  unfold c_snow_Prefers
  refine bx_s (Sep.start w) fun g w1 hs => ?_
  simp only [Value.cells] at hs
  refine alloc_s hs (A_api_ID w1) fun g2 w2 hs => ?_
  simp only [fx, Nat.reduceAdd, forall_const, L_api_Snow hs.p1.blk, L_api_Snow__List hs.p1.blk, L_api_Snow__Pref hs.p1.blk, L_api_Snow__Flake hs.p1.blk, L_api_Snow__Conf hs.p1.blk, L_api_Snow__Done hs.p1.blk]
  rw [cnd_bool]
  refine ⟨fun h => ?_, fun h => ?_⟩
  · refine St_api_ID hs fun w3 hs => ?_
    simp only [L_api_ID hs.blk]
    exact hR _ _ ⟨by rw [h]; rfl, hs.fr0⟩
  · refine St_api_ID hs fun w3 hs => ?_
    simp only [L_api_ID hs.blk]
    exact hR _ _ ⟨by rw [h]; rfl, hs.fr0⟩
theorem snHas_spec (hr : Rows' Q_api_Choice w.heap v x.l) (hl : x.l.length ≤ 9223372036854775807) : cal P f_snow_Has [snv v x, idv id] w fun r w' => r = .bool (decide (0 ≤ plc x.l id)) ∧ Fr [] w w' := by
  refine s_snow_Has fun R hR => ?_
  unfold c_snow_Has
  refine bx_s (Sep.start w) fun g w1 hs => ?_
  refine bx_s hs fun g2 w2 hs => ?_
  simp only [Value.cells] at hs
  simp only [fx, Nat.reduceAdd, forall_const, L_api_Snow hs.p1.blk, L_api_Snow__List hs.p1.blk, L_api_Snow__Pref hs.p1.blk, L_api_Snow__Flake hs.p1.blk, L_api_Snow__Conf hs.p1.blk, L_api_Snow__Done hs.p1.blk, L_api_ID hs.blk]
  refine cal_i (snPlace_spec (hr.fr hs.fr0) hl) ?_
  rintro _ w3 ⟨rfl, hf3⟩
  simp only [fx, Nat.reduceAdd, forall_const]
  exact hR _ _ ⟨rfl, (hs.old hf3).fr0⟩
end
end Go.Fx
set_option linter.unusedVariables false
set_option linter.unusedSimpArgs false
namespace Go.Fx
def snZ : Sn := ⟨[], vz 32, vz 32, 0, false⟩
noncomputable def addM (p : Par) (x : Sn) (id : Id) : Sn × Int :=
  if snE p x ≠ 0 then (snZ, snE p x) else if 0 ≤ plc x.l id then (snZ, 110) else if 32 ≤ x.l.length then (snZ, 6) else ({ x with l := x.l ++ [(id, 0)] }, 0)
noncomputable def failM (p : Par) (x : Sn) : Sn × Int := if snE p x ≠ 0 then (snZ, snE p x) else (if x.dn then x else { x with conf := 0 }, 0)
def newM (p : Par) (id : Id) : Sn × Int := if parE p ≠ 0 then (snZ, parE p) else (⟨[(id, 0)], id, id, 0, false⟩, 0)
/-- What a call gives: an instance in memory of its own, and an error. -/
def SnQ (m : Sn × Int) (w : World) (r : Value) (w' : World) : Prop := ∃ v, r = .tuple #[snv v m.1, .int .i64 m.2] ∧ Sep w w' [rows Q_api_Choice v m.1.l]
theorem snE_len {p : Par} {x : Sn} (h : snE p x = 0) : 1 ≤ x.l.length ∧ x.l.length ≤ 32 := by
  unfold snE at h
  split at h
  · rename_i h1; exact absurd h h1
  · split at h
    · cases h
    · rename_i h2
      unfold headBad at h2
      omega
section
variable {w : World} {v u : Value} {x y : Sn} {p : Par} {id : Id}
theorem snNew_spec : cal P f_snow_New [pav p, idv id] w fun r w' => SnQ (newM p id) w r w' := by
  refine s_snow_New fun R hR => ?_
  unfold c_snow_New
  refine bx_s (Sep.start w) fun g w1 hs => ?_
  refine bx_s hs fun g2 w2 hs => ?_
  simp only [Value.cells] at hs
  refine alloc_s hs (A_api_Snow w2) fun g3 w3 hs => ?_
  simp only [fx, Nat.reduceAdd, forall_const, L_api_Params hs.p2.blk, L_api_Params__K hs.p2.blk, L_api_Params__AlphaPref hs.p2.blk, L_api_Params__AlphaConf hs.p2.blk, L_api_Params__Beta hs.p2.blk]
  refine cal_i snParams_spec ?_
  rintro _ w4 ⟨rfl, hf4⟩
  replace hs := hs.old hf4
  simp only [fx, Nat.reduceAdd, forall_const]
  rw [cnd_bool]
  refine ⟨fun h => ?_, fun h => ?_⟩
  · have h : parE p ≠ 0 := by simpa using h
    rw [B_api_Snow]
    refine St_api_Snow hs (one_api_Snow rfl) fun w5 hs => ?_
    simp only [L_api_Snow hs.blk, L_api_Snow__List hs.blk, L_api_Snow__Pref hs.blk, L_api_Snow__Flake hs.blk, L_api_Snow__Conf hs.blk, L_api_Snow__Done hs.blk]
    refine hR _ _ ⟨.slice none 0 0, ?_, ?_⟩
    · rw [newM, if_pos h]; rfl
    · rw [newM, if_pos h]; exact (Sep.nilR (hs.d1.d1)).d1
  · have h : ¬ parE p ≠ 0 := by simpa using h
    simp only [L_api_ID hs.p1.blk, B_api_Choice_0]
    refine rows_lit (q := Q_api_Choice) (l := [((id, 0) : Cho)]) (V := fun c => .agg (Rdr.cells Q_api_Choice c).toArray) hs S_sl_api_Choice (fun a => rfl) rfl rfl (by decide) (by decide) fun g5 w5 hs5 => ?_
    simp only [L_api_ID hs5.p2.blk]
    rw [B_api_Snow_0_1_2 rfl]
    refine St_api_Snow hs5.p1 (one_api_Snow rfl) fun w6 hs6 => ?_
    simp only [L_api_Snow hs6.blk, L_api_Snow__List hs6.blk, L_api_Snow__Pref hs6.blk, L_api_Snow__Flake hs6.blk, L_api_Snow__Conf hs6.blk, L_api_Snow__Done hs6.blk]
    refine hR _ _ ⟨.slice (some ⟨g5, 0, none⟩) 1 1, ?_, ?_⟩
    · rw [newM, if_neg h]
    · rw [newM, if_neg h]; exact hs6.tail.d1.d1
theorem snAdd_spec (hr : Rows' Q_api_Choice w.heap v x.l) (hl : x.l.length ≤ 1000000) (h1 : v.oneCell' = true) : cal P f_snow_Add [pav p, snv v x, idv id] w fun r w' => SnQ (addM p x id) w r w' := by
  refine s_snow_Add fun R hR => ?_
  unfold c_snow_Add
  refine bx_s (Sep.start w) fun g w1 hs => ?_
  refine bx_s hs fun g2 w2 hs => ?_
  refine bx_s hs fun g3 w3 hs => ?_
  simp only [Value.cells] at hs
  refine alloc_s hs (A_api_Snow w3) fun g4 w4 hs => ?_
  simp only [fx, Nat.reduceAdd, forall_const, L_api_Params hs.p3.blk, L_api_Params__K hs.p3.blk, L_api_Params__AlphaPref hs.p3.blk, L_api_Params__AlphaConf hs.p3.blk, L_api_Params__Beta hs.p3.blk, L_api_Snow hs.p2.blk, L_api_Snow__List hs.p2.blk, L_api_Snow__Pref hs.p2.blk, L_api_Snow__Flake hs.p2.blk, L_api_Snow__Conf hs.p2.blk, L_api_Snow__Done hs.p2.blk]
  refine cal_i (snCheck_spec (hr.fr hs.fr0) (by omega)) ?_
  rintro _ w5 ⟨rfl, hf5⟩
  replace hs := hs.old hf5
  have hzero : ∀ {w' : World} {e : Int}, (addM p x id) = (snZ, e) → Sep w w' [blk g4 (Rdr.cells Q_api_Snow (.slice none 0 0, vz 32, vz 32, 0, false)).toArray T_api_Snow] → R (.tuple #[snv (.slice none 0 0) snZ, .int .i64 e]) w' := fun he hs' =>
    hR _ _ ⟨.slice none 0 0, by rw [he], by rw [he]; exact (Sep.nilR hs').d1⟩
  simp only [fx, Nat.reduceAdd, forall_const]
  rw [cnd_bool]
  refine ⟨fun h => ?_, fun h => ?_⟩
  · have h : snE p x ≠ 0 := by simpa using h
    rw [B_api_Snow]
    refine St_api_Snow hs (one_api_Snow rfl) fun w5 hs => ?_
    simp only [L_api_Snow hs.blk, L_api_Snow__List hs.blk, L_api_Snow__Pref hs.blk, L_api_Snow__Flake hs.blk, L_api_Snow__Conf hs.blk, L_api_Snow__Done hs.blk]
    exact hzero (by rw [addM, if_pos h]) hs.d1.d1.d1
  have hE : ¬ snE p x ≠ 0 := by simpa using h
  simp only [L_api_Snow hs.p2.blk, L_api_Snow__List hs.p2.blk, L_api_Snow__Pref hs.p2.blk, L_api_Snow__Flake hs.p2.blk, L_api_Snow__Conf hs.p2.blk, L_api_Snow__Done hs.p2.blk, L_api_ID hs.p1.blk]
  refine cal_i (snHas_spec (hr.fr hs.fr0) (by omega)) ?_
  rintro _ w6 ⟨rfl, hf6⟩
  replace hs := hs.old hf6
  rw [cnd_bool]
  refine ⟨fun h => ?_, fun h => ?_⟩
  · have h : 0 ≤ plc x.l id := by simpa using h
    rw [B_api_Snow]
    refine St_api_Snow hs (one_api_Snow rfl) fun w5 hs => ?_
    simp only [L_api_Snow hs.blk, L_api_Snow__List hs.blk, L_api_Snow__Pref hs.blk, L_api_Snow__Flake hs.blk, L_api_Snow__Conf hs.blk, L_api_Snow__Done hs.blk]
    exact hzero (by rw [addM, if_neg hE, if_pos h]) hs.d1.d1.d1
  have hpl : ¬ 0 ≤ plc x.l id := by simpa using h
  obtain ⟨hn1, hn2⟩ := snE_len (p := p) (x := x) (by simpa using hE)
  simp only [fx, Nat.reduceAdd, forall_const, L_api_Snow hs.p2.blk, L_api_Snow__List hs.p2.blk, L_api_Snow__Pref hs.p2.blk, L_api_Snow__Flake hs.p2.blk, L_api_Snow__Conf hs.p2.blk, L_api_Snow__Done hs.p2.blk, (hr.fr hs.fr0).len]
  rw [cnd_bool]
  refine ⟨fun h => ?_, fun h => ?_⟩
  · have h : 32 ≤ x.l.length := by simp at h; omega
    rw [B_api_Snow]
    refine St_api_Snow hs (one_api_Snow rfl) fun w5 hs => ?_
    simp only [L_api_Snow hs.blk, L_api_Snow__List hs.blk, L_api_Snow__Pref hs.blk, L_api_Snow__Flake hs.blk, L_api_Snow__Conf hs.blk, L_api_Snow__Done hs.blk]
    exact hzero (by rw [addM, if_neg hE, if_neg hpl, if_pos h]) hs.d1.d1.d1
  have h32 : ¬ 32 ≤ x.l.length := by simp at h; omega
  refine cal_i (snOwn_spec (hr.fr hs.fr0) hl h1) ?_
  rintro _ w7 ⟨v', rfl, hs7⟩
  replace hs7 := hs.join hs7
  refine St_api_Snow (Sep.p3 hs7) (one_api_Snow (Sep.oneR hs7)) fun w8 hs8 => ?_
  simp only [fx, Nat.reduceAdd, forall_const, L_api_Snow hs8.blk, L_api_Snow__List hs8.blk, L_api_Snow__Pref hs8.blk, L_api_Snow__Flake hs8.blk, L_api_Snow__Conf hs8.blk, L_api_Snow__Done hs8.blk, L_api_ID hs8.p3.blk, B_api_Choice_0]
  refine rows_lit (q := Q_api_Choice) (l := [((id, 0) : Cho)]) (V := fun c => .agg (Rdr.cells Q_api_Choice c).toArray) hs8 S_sl_api_Choice (fun a => rfl) rfl rfl (by decide) (by decide) fun g9 w9 hs9 => ?_
  refine rows_app (q := Q_api_Choice) S_sl_api_Choice U_sl_api_Choice (by simp) hs9.p2 (Sep.rows hs9) (choOne _) (by simp; omega) (by simp; omega) fun v'' w10 hs10 => ?_
  refine St_api_Snow__List hs10.p2 hs10.oneR fun w11 hs11 => ?_
  simp only [L_api_Snow hs11.blk, L_api_Snow__List hs11.blk, L_api_Snow__Pref hs11.blk, L_api_Snow__Flake hs11.blk, L_api_Snow__Conf hs11.blk, L_api_Snow__Done hs11.blk]
  refine St_api_Snow hs11.p3 (one_api_Snow hs10.oneR) fun w12 hs12 => ?_
  simp only [L_api_Snow hs12.blk, L_api_Snow__List hs12.blk, L_api_Snow__Pref hs12.blk, L_api_Snow__Flake hs12.blk, L_api_Snow__Conf hs12.blk, L_api_Snow__Done hs12.blk]
  have ha : addM p x id = ({ x with l := x.l ++ [(id, 0)] }, 0) := by rw [addM, if_neg hE, if_neg hpl, if_neg h32]
  exact hR _ _ ⟨v'', by rw [ha], by rw [ha]; exact hs12.p2.d1.d1.d1.d1.d1⟩
theorem snFail_spec (hr : Rows' Q_api_Choice w.heap v x.l) (hl : x.l.length ≤ 1000000) (h1 : v.oneCell' = true) : cal P f_snow_Fail [pav p, snv v x] w fun r w' => SnQ (failM p x) w r w' := by
  refine s_snow_Fail fun R hR => ?_
  unfold c_snow_Fail
  refine bx_s (Sep.start w) fun g w1 hs => ?_
  refine bx_s hs fun g2 w2 hs => ?_
  simp only [Value.cells] at hs
  refine alloc_s hs (A_api_Snow w2) fun g4 w4 hs => ?_
  simp only [fx, Nat.reduceAdd, forall_const, L_api_Params hs.p2.blk, L_api_Params__K hs.p2.blk, L_api_Params__AlphaPref hs.p2.blk, L_api_Params__AlphaConf hs.p2.blk, L_api_Params__Beta hs.p2.blk, L_api_Snow hs.p1.blk, L_api_Snow__List hs.p1.blk, L_api_Snow__Pref hs.p1.blk, L_api_Snow__Flake hs.p1.blk, L_api_Snow__Conf hs.p1.blk, L_api_Snow__Done hs.p1.blk]
  refine cal_i (snCheck_spec (hr.fr hs.fr0) (by omega)) ?_
  rintro _ w5 ⟨rfl, hf5⟩
  replace hs := hs.old hf5
  simp only [fx, Nat.reduceAdd, forall_const]
  rw [cnd_bool]
  refine ⟨fun h => ?_, fun h => ?_⟩
  · have h : snE p x ≠ 0 := by simpa using h
    rw [B_api_Snow]
    refine St_api_Snow hs (one_api_Snow rfl) fun w5 hs => ?_
    simp only [L_api_Snow hs.blk, L_api_Snow__List hs.blk, L_api_Snow__Pref hs.blk, L_api_Snow__Flake hs.blk, L_api_Snow__Conf hs.blk, L_api_Snow__Done hs.blk]
    have he : failM p x = (snZ, snE p x) := by rw [failM, if_pos h]
    exact hR _ _ ⟨.slice none 0 0, by rw [he]; rfl, by rw [he]; exact (Sep.nilR hs.d1.d1).d1⟩
  have hE : ¬ snE p x ≠ 0 := by simpa using h
  simp only [L_api_Snow hs.p1.blk, L_api_Snow__List hs.p1.blk, L_api_Snow__Pref hs.p1.blk, L_api_Snow__Flake hs.p1.blk, L_api_Snow__Conf hs.p1.blk, L_api_Snow__Done hs.p1.blk]
  refine cal_i (snOwn_spec (hr.fr hs.fr0) hl h1) ?_
  rintro _ w7 ⟨v', rfl, hs7⟩
  replace hs7 := hs.join hs7
  refine St_api_Snow (Sep.p2 hs7) (one_api_Snow (Sep.oneR hs7)) fun w8 hs8 => ?_
  have ha : failM p x = (if x.dn then x else { x with conf := 0 }, 0) := by rw [failM, if_neg hE]
  refine ⟨fun w' => Sep w w' [blk g2 (Rdr.cells Q_api_Snow (snr v' (failM p x).1)).toArray T_api_Snow, rows Q_api_Choice v' x.l, blk g4 (Rdr.cells Q_api_Snow (.slice none 0 0, vz 32, vz 32, 0, false)).toArray T_api_Snow], ?_, ?_⟩
  · simp only [fx, Nat.reduceAdd, forall_const, L_api_Snow hs8.blk, L_api_Snow__List hs8.blk, L_api_Snow__Pref hs8.blk, L_api_Snow__Flake hs8.blk, L_api_Snow__Conf hs8.blk, L_api_Snow__Done hs8.blk]
    rw [cnd_bool]
    refine ⟨fun h => ?_, fun h => ?_⟩
    · have h : x.dn = false := by simpa using h
      refine St_api_Snow__Conf hs8 fun w9 hs9 => ?_
      have he : (failM p x).1 = { x with conf := 0 } := by rw [ha]; simp [h]
      rw [he]
      exact hs9.d3
    · have h : x.dn = true := by simpa using h
      have he : (failM p x).1 = x := by rw [ha]; simp [h]
      rw [he]
      exact hs8.d3
  · intro w9 hs9 _
    simp only [L_api_Snow hs9.blk, L_api_Snow__List hs9.blk, L_api_Snow__Pref hs9.blk, L_api_Snow__Flake hs9.blk, L_api_Snow__Conf hs9.blk, L_api_Snow__Done hs9.blk]
    refine St_api_Snow hs9.p2 (one_api_Snow (Sep.oneR hs9.p1)) fun w12 hs12 => ?_
    simp only [L_api_Snow hs12.blk, L_api_Snow__List hs12.blk, L_api_Snow__Pref hs12.blk, L_api_Snow__Flake hs12.blk, L_api_Snow__Conf hs12.blk, L_api_Snow__Done hs12.blk]
    have hl2 : (failM p x).1.l = x.l := by rw [ha]; cases x.dn <;> rfl
    exact hR _ _ ⟨v', by rw [ha], by rw [hl2]; exact hs12.p2.d1.d1⟩
end
end Go.Fx
set_option linter.unusedVariables false
set_option linter.unusedSimpArgs false
namespace Go.Fx
def updM (x : Sn) (id : Id) (k : Nat) (c : Cho) : Sn :=
  { x with l := x.l.set k (c.1, min (c.2 + 1) 1073741824), pref := if bestS { x with l := x.l.set k (c.1, min (c.2 + 1) 1073741824) } < min (c.2 + 1) 1073741824 then id else x.pref, flake := id }
def cfM (p : Par) (x : Sn) (id : Id) (n : Int) : Int := if n < p.2.2.1 then 0 else if id = x.flake then x.conf + 1 else 1
noncomputable def pollM (p : Par) (x : Sn) (id : Id) (n : Int) : Sn × Int :=
  if snE p x ≠ 0 then (snZ, snE p x) else if n < 0 ∨ p.1 < n then (snZ, 1) else if plc x.l id < 0 then (snZ, 4) else if x.dn then (x, 0) else if n < p.2.1 then ({ x with conf := 0 }, 0) else
  ({ updM x id (plc x.l id).toNat ((x.l[(plc x.l id).toNat]?).getD (id, 0)) with conf := cfM p x id n, dn := decide (cfM p x id n = p.2.2.2) }, 0)
theorem snE_zero {p : Par} {x : Sn} (h : snE p x = 0) : parE p = 0 ∧ ¬ headBad p x ∧ ∀ i c, x.l[i]? = some c → goodAt x c i = true := by
  by_cases h1 : parE p ≠ 0
  · rw [snE_par h1] at h; exact absurd h h1
  · have h1 : parE p = 0 := by simpa using h1
    by_cases h2 : headBad p x
    · rw [snE_head h1 h2] at h; cases h
    · refine ⟨h1, h2, fun i c hc => ?_⟩
      cases hg : goodAt x c i with
      | true => rfl
      | false => rw [snE_bad h1 hc hg] at h; cases h
theorem parE_zero {p : Par} (h : parE p = 0) : 1 ≤ p.1 ∧ p.1 ≤ 64 ∧ p.1 / 2 < p.2.1 ∧ p.2.1 ≤ p.2.2.1 ∧ p.2.2.1 ≤ p.1 ∧ 1 ≤ p.2.2.2 ∧ p.2.2.2 ≤ 1000 := by
  unfold parE at h
  split at h
  · cases h
  · omega
theorem pollM_up {p : Par} {x : Sn} {id : Id} {n : Int} {k : Nat} {c : Cho} (hE : snE p x = 0) (hn : ¬ (n < 0 ∨ p.1 < n)) (hk : plc x.l id = (k : Int)) (hc : x.l[k]? = some c) (hd : x.dn = false) (hap : ¬ n < p.2.1) :
    pollM p x id n = ({ updM x id k c with conf := cfM p x id n, dn := decide (cfM p x id n = p.2.2.2) }, 0) := by
  rw [pollM, if_neg (by simpa using hE), if_neg hn, if_neg (by omega), if_neg (by simp [hd]), if_neg hap, hk, Int.toNat_natCast, hc]
  rfl
theorem plc_set {l : List Cho} {k : Nat} {c : Cho} {s : Int} (hc : l[k]? = some c) (id : Id) : plc (l.set k (c.1, s)) id = plc l id := by
  have hlt := (List.getElem?_eq_some_iff.1 hc).1
  have hget : ∀ (j : Nat) (d : Cho), (l.set k (c.1, s))[j]? = some d → ∃ d', l[j]? = some d' ∧ d'.1 = d.1 := fun j d hd => by
    by_cases hjk : k = j
    · subst hjk
      rw [List.getElem?_set_self hlt] at hd
      cases hd
      exact ⟨c, hc, rfl⟩
    · rw [List.getElem?_set_ne hjk] at hd
      exact ⟨d, hd, rfl⟩
  have hback : ∀ (j : Nat) (d : Cho), l[j]? = some d → ∃ d', (l.set k (c.1, s))[j]? = some d' ∧ d'.1 = d.1 := fun j d hd => by
    by_cases hjk : k = j
    · subst hjk
      rw [hc] at hd
      cases hd
      exact ⟨_, List.getElem?_set_self hlt, rfl⟩
    · exact ⟨d, by rw [List.getElem?_set_ne hjk]; exact hd, rfl⟩
  rcases plc_cases l id with ⟨h1, h2⟩ | ⟨i, d, h1, h2, h3, h4⟩
  · rw [h1, plc_none fun j d hd => ?_]
    obtain ⟨d', hd', he⟩ := hget j d hd
    rw [← he]
    exact h2 j d' hd'
  · obtain ⟨d', hd', he⟩ := hback i d h2
    rw [h1, plc_at hd' (he.trans h3) fun j e hj hj' => ?_]
    obtain ⟨e', he', hee⟩ := hget j e hj'
    rw [← hee]
    exact h4 j e' hj he'
section
variable {w : World} {v u : Value} {x y : Sn} {p : Par} {id : Id} {n : Int}
theorem snReach_spec : cal P f_snow_reach [pav p, .int .i64 n] w fun r w' => r = .int .i64 (if p.2.2.1 ≤ n then 2 else if p.2.1 ≤ n then 1 else 0) ∧ Fr [] w w' := by
  refine s_snow_reach fun R hR => ?_
  unfold c_snow_reach
  refine bx_s (Sep.start w) fun g w1 hs => ?_
  simp only [Value.cells] at hs
  simp only [fx, Nat.reduceAdd, forall_const, L_api_Params hs.blk, L_api_Params__K hs.blk, L_api_Params__AlphaPref hs.blk, L_api_Params__AlphaConf hs.blk, L_api_Params__Beta hs.blk]
  rw [cnd_bool]
  refine ⟨fun h => ?_, fun h => ?_⟩
  · exact hR _ _ ⟨by rw [if_pos (by simpa using h)], hs.fr0⟩
  · rw [cnd_bool]
    refine ⟨fun h2 => ?_, fun h2 => ?_⟩
    · exact hR _ _ ⟨by rw [if_neg (by simpa using h), if_pos (by simpa using h2)], hs.fr0⟩
    · exact hR _ _ ⟨by rw [if_neg (by simpa using h), if_neg (by simpa using h2)], hs.fr0⟩
theorem snPoll_spec (hr : Rows' Q_api_Choice w.heap v x.l) (hl : x.l.length ≤ 1000000) (h1 : v.oneCell' = true) : cal P f_snow_Poll [pav p, snv v x, idv id, .int .i64 n] w fun r w' => SnQ (pollM p x id n) w r w' := by
  refine s_snow_Poll fun R hR => ?_
  unfold c_snow_Poll
  refine bx_s (Sep.start w) fun g1 w1 hs => ?_
  refine bx_s hs fun g2 w2 hs => ?_
  refine bx_s hs fun g3 w3 hs => ?_
  simp only [Value.cells] at hs
  refine alloc_s hs (A_api_Snow w3) fun g4 w4 hs => ?_
  simp only [fx, Nat.reduceAdd, forall_const, L_api_Params hs.p3.blk, L_api_Params__K hs.p3.blk, L_api_Params__AlphaPref hs.p3.blk, L_api_Params__AlphaConf hs.p3.blk, L_api_Params__Beta hs.p3.blk, L_api_Snow hs.p2.blk, L_api_Snow__List hs.p2.blk, L_api_Snow__Pref hs.p2.blk, L_api_Snow__Flake hs.p2.blk, L_api_Snow__Conf hs.p2.blk, L_api_Snow__Done hs.p2.blk]
  refine cal_i (snCheck_spec (hr.fr hs.fr0) (by omega)) ?_
  rintro _ w5 ⟨rfl, hf5⟩
  replace hs := hs.old hf5
  have hzero : ∀ {w' : World} {e : Int}, (pollM p x id n) = (snZ, e) → Sep w w' [blk g4 (Rdr.cells Q_api_Snow (.slice none 0 0, vz 32, vz 32, 0, false)).toArray T_api_Snow] → R (.tuple #[snv (.slice none 0 0) snZ, .int .i64 e]) w' := fun he hs' =>
    hR _ _ ⟨.slice none 0 0, by rw [he], by rw [he]; exact (Sep.nilR hs').d1⟩
  simp only [fx, Nat.reduceAdd, forall_const]
  rw [cnd_bool]
  refine ⟨fun h => ?_, fun h => ?_⟩
  · have h : snE p x ≠ 0 := by simpa using h
    rw [B_api_Snow]
    refine St_api_Snow hs (one_api_Snow rfl) fun w5 hs => ?_
    simp only [L_api_Snow hs.blk, L_api_Snow__List hs.blk, L_api_Snow__Pref hs.blk, L_api_Snow__Flake hs.blk, L_api_Snow__Conf hs.blk, L_api_Snow__Done hs.blk]
    exact hzero (by rw [pollM, if_pos h]) hs.d1.d1.d1
  have hE : snE p x = 0 := by simpa using h
  have hE' : ¬ snE p x ≠ 0 := by simpa using h
  simp only [fx, Nat.reduceAdd, forall_const, L_api_Params hs.p3.blk, L_api_Params__K hs.p3.blk, L_api_Params__AlphaPref hs.p3.blk, L_api_Params__AlphaConf hs.p3.blk, L_api_Params__Beta hs.p3.blk]
  rw [cnd_bool]
  refine ⟨fun h => ?_, fun h => ?_⟩
  · have h : n < 0 ∨ p.1 < n := by simpa using h
    rw [B_api_Snow]
    refine St_api_Snow hs (one_api_Snow rfl) fun w5 hs => ?_
    simp only [L_api_Snow hs.blk, L_api_Snow__List hs.blk, L_api_Snow__Pref hs.blk, L_api_Snow__Flake hs.blk, L_api_Snow__Conf hs.blk, L_api_Snow__Done hs.blk]
    exact hzero (by rw [pollM, if_neg hE', if_pos h]) hs.d1.d1.d1
  have hn : ¬ (n < 0 ∨ p.1 < n) := by simpa using h
  simp only [L_api_Snow hs.p2.blk, L_api_Snow__List hs.p2.blk, L_api_Snow__Pref hs.p2.blk, L_api_Snow__Flake hs.p2.blk, L_api_Snow__Conf hs.p2.blk, L_api_Snow__Done hs.p2.blk, L_api_ID hs.p1.blk]
  refine cal_i (snPlace_spec (hr.fr hs.fr0) (by omega)) ?_
  rintro _ w6 ⟨rfl, hf6⟩
  replace hs := hs.old hf6
  simp only [fx, Nat.reduceAdd, forall_const]
  rw [cnd_bool]
  refine ⟨fun h => ?_, fun h => ?_⟩
  · have h : plc x.l id < 0 := by simpa using h
    rw [B_api_Snow]
    refine St_api_Snow hs (one_api_Snow rfl) fun w5 hs => ?_
    simp only [L_api_Snow hs.blk, L_api_Snow__List hs.blk, L_api_Snow__Pref hs.blk, L_api_Snow__Flake hs.blk, L_api_Snow__Conf hs.blk, L_api_Snow__Done hs.blk]
    exact hzero (by rw [pollM, if_neg hE', if_neg hn, if_pos h]) hs.d1.d1.d1
  have hpl : ¬ plc x.l id < 0 := by simpa using h
  obtain ⟨k, c, hk, hc, hcid, _⟩ : ∃ i c, plc x.l id = ((i : Nat) : Int) ∧ x.l[i]? = some c ∧ c.1 = id ∧ ∀ (j : Nat) (d : Cho), j < i → x.l[j]? = some d → d.1 ≠ id := by
    rcases plc_cases x.l id with ⟨h1, _⟩ | h1
    · omega
    · exact h1
  have hklt := (List.getElem?_eq_some_iff.1 hc).1
  obtain ⟨hpar, hhead, hgood⟩ := snE_zero hE
  obtain ⟨q1, q2, q3, q4, q5, q6, q7⟩ := parE_zero hpar
  have hcg := hgood k c hc
  simp [goodAt] at hcg
  simp only [L_api_Snow hs.p2.blk, L_api_Snow__List hs.p2.blk, L_api_Snow__Pref hs.p2.blk, L_api_Snow__Flake hs.p2.blk, L_api_Snow__Conf hs.p2.blk, L_api_Snow__Done hs.p2.blk]
  refine cal_i (snOwn_spec (hr.fr hs.fr0) hl h1) ?_
  rintro _ w7 ⟨v', rfl, hs7⟩
  replace hs7 := hs.join hs7
  have hv' := Sep.oneR hs7
  refine St_api_Snow (Sep.p3 hs7) (one_api_Snow hv') fun w8 hs8 => ?_
  simp only [fx, Nat.reduceAdd, forall_const, L_api_Snow hs8.blk, L_api_Snow__List hs8.blk, L_api_Snow__Pref hs8.blk, L_api_Snow__Flake hs8.blk, L_api_Snow__Conf hs8.blk, L_api_Snow__Done hs8.blk]
  rw [cnd_bool]
  refine ⟨fun hd => ?_, fun hd => ?_⟩
  · have he : pollM p x id n = (x, 0) := by rw [pollM, if_neg hE', if_neg hn, if_neg hpl, if_pos hd]
    refine St_api_Snow hs8.p2 (one_api_Snow hv') fun w9 hs9 => ?_
    simp only [L_api_Snow hs9.blk, L_api_Snow__List hs9.blk, L_api_Snow__Pref hs9.blk, L_api_Snow__Flake hs9.blk, L_api_Snow__Conf hs9.blk, L_api_Snow__Done hs9.blk]
    exact hR _ _ ⟨v', by rw [he], by rw [he]; exact hs9.p2.d1.d1.d1.d1⟩
  have hd : x.dn = false := hd
  simp only [L_api_Params hs8.p4.blk, L_api_Params__K hs8.p4.blk, L_api_Params__AlphaPref hs8.p4.blk, L_api_Params__AlphaConf hs8.p4.blk, L_api_Params__Beta hs8.p4.blk]
  refine cal_i snReach_spec ?_
  rintro _ w9 ⟨rfl, hf9⟩
  have hs9 := hs8.old hf9
  refine ⟨fun y w' => ∃ (x' : Sn) (cf : Int), y = .int .i64 cf ∧ pollM p x id n = ({ x' with conf := cf, dn := decide (cf = p.2.2.2) }, 0) ∧
    Sep w w' [blk g2 (Rdr.cells Q_api_Snow (snr v' x')).toArray T_api_Snow, rows Q_api_Choice v' x'.l, blk g4 (Rdr.cells Q_api_Snow (.slice none 0 0, vz 32, vz 32, 0, false)).toArray T_api_Snow, blk g1 (Rdr.cells Q_api_Params p).toArray T_api_Params], ?_, ?_⟩
  · -- up to the join
    refine ⟨fun y w' => ¬ n < p.2.1 ∧ y = .int .i64 (cfM p x id n) ∧ Sep w w' [blk g2 (Rdr.cells Q_api_Snow (snr v' x)).toArray T_api_Snow, rows Q_api_Choice v' x.l, blk g4 (Rdr.cells Q_api_Snow (.slice none 0 0, vz 32, vz 32, 0, false)).toArray T_api_Snow, blk g3 (Rdr.cells (rVec 32) id).toArray T_api_ID, blk g1 (Rdr.cells Q_api_Params p).toArray T_api_Params], ?_, ?_⟩
    · simp only [fx, Nat.reduceAdd, forall_const]
      by_cases hac : p.2.2.1 ≤ n
      · rw [if_pos hac]
        simp only [fx, Nat.reduceAdd, forall_const, show ((2 : Int) == 2) = true from rfl, L_api_ID hs9.p3.blk, L_api_Snow hs9.blk, L_api_Snow__List hs9.blk, L_api_Snow__Pref hs9.blk, L_api_Snow__Flake hs9.blk, L_api_Snow__Conf hs9.blk, L_api_Snow__Done hs9.blk, eq_api_ID]
        rw [cnd_bool]
        unfold headBad at hhead
        refine ⟨fun h => ?_, fun h => ?_⟩
        · have h : id = x.flake := by simpa using h
          rw [wi64 (by omega) (by omega)]
          exact ⟨by omega, by rw [cfM, if_neg (by omega), if_pos h], hs9⟩
        · have h : ¬ id = x.flake := by simpa using h
          exact ⟨by omega, by rw [cfM, if_neg (by omega), if_neg h], hs9⟩
      · rw [if_neg hac]
        by_cases hap : p.2.1 ≤ n
        · rw [if_pos hap]
          simp only [fx, Nat.reduceAdd, forall_const, show ((1 : Int) == 2) = false from rfl, show ((1 : Int) == 1) = true from rfl]
          exact ⟨by omega, by rw [cfM, if_pos (by omega)], hs9⟩
        · rw [if_neg hap]
          simp only [fx, Nat.reduceAdd, forall_const, show ((0 : Int) == 2) = false from rfl, show ((0 : Int) == 1) = false from rfl]
          refine ⟨x, 0, rfl, ?_, hs9.d3⟩
          rw [pollM, if_neg hE', if_neg hn, if_neg hpl, if_neg (by simp [hd]), if_pos (by omega)]
          have : decide ((0 : Int) = p.2.2.2) = false := by simp; omega
          rw [this, hd]
    · rintro _ w10 ⟨hap, rfl, hs10⟩ -
      obtain ⟨a0, c0, hvf, _⟩ := (Sep.p1 hs10).formR
      obtain ⟨g, o, hao⟩ : ∃ g o, a0 = some ⟨g, o, none⟩ := by
        obtain ⟨g, o, c', hf⟩ := (Sep.rows hs10.p1).form (by decide) hc
        rw [hvf] at hf
        cases hf
        exact ⟨g, o, rfl⟩
      subst hvf; subst hao
      simp only [fx, Nat.reduceAdd, forall_const, L_api_Snow hs10.blk, L_api_Snow__List hs10.blk, L_api_Snow__Pref hs10.blk, L_api_Snow__Flake hs10.blk, L_api_Snow__Conf hs10.blk, L_api_Snow__Done hs10.blk, hk]
      rw [ixs_mk _ _ _ _ _ _ _ _ (by omega) (by omega), Int.toNat_natCast]
      have hat := At.of (q := Q_api_Choice) (by decide) (Sep.rows hs10.p1) hc
      have hat' : At w10.heap g (o + k * 33) (Rdr.cells Q_api_Choice c) := hat
      simp only [fx, Nat.reduceAdd, forall_const, LA_api_Choice__Strength hat', min_int]
      rw [wi64 (by omega) (by omega)]
      have hmin : min (c.2 + 1) 1073741824 ≤ 1073741824 := by omega
      refine rows_stV (q := Q_api_Choice) (s := rInt .i64) (b := min (c.2 + 1) 1073741824) (.snd .self) rfl hs10.p1 hc rfl rfl fun w11 hs11 => ?_
      have hset : (x.l.set k (c.1, min (c.2 + 1) 1073741824))[k]? = some (c.1, min (c.2 + 1) 1073741824) := List.getElem?_set_self hklt
      generalize hx1 : ({ x with l := x.l.set k (c.1, min (c.2 + 1) 1073741824) } : Sn) = x1 at *
      have hl1 : x1.l = x.l.set k (c.1, min (c.2 + 1) 1073741824) := by rw [← hx1]
      have hsn : ∀ z, snr z x = snr z x1 := fun z => by rw [← hx1]
      have hll : x1.l.length = x.l.length := by rw [hl1]; simp
      have hs11 : Sep w w11 [rows Q_api_Choice (.slice (some ⟨g, o, none⟩) x.l.length c0) x1.l, blk g2 (Rdr.cells Q_api_Snow (snr (.slice (some ⟨g, o, none⟩) x.l.length c0) x1)).toArray T_api_Snow, blk g4 (Rdr.cells Q_api_Snow (.slice none 0 0, vz 32, vz 32, 0, false)).toArray T_api_Snow, blk g3 (Rdr.cells (rVec 32) id).toArray T_api_ID, blk g1 (Rdr.cells Q_api_Params p).toArray T_api_Params] := by
        rw [hl1, ← hsn]; exact hs11
      have hpp : plc x1.l x1.pref = plc x.l x.pref := by rw [hl1, plc_set hc, ← hx1]
      obtain ⟨i0, d0, hpl0, hd0, _, _⟩ : ∃ i d, plc x1.l x1.pref = ((i : Nat) : Int) ∧ x1.l[i]? = some d ∧ d.1 = x1.pref ∧ ∀ (j : Nat) (d : Cho), j < i → x1.l[j]? = some d → d.1 ≠ x1.pref := by
        rcases plc_cases x1.l x1.pref with ⟨h1, _⟩ | h1
        · exfalso
          rw [hpp] at h1
          unfold headBad at hhead
          omega
        · exact h1
      have hbest : bestS x1 = d0.2 := by rw [bestS, hpl0, Int.toNat_natCast, hd0]; rfl
      refine ⟨fun w' => Sep w w' [blk g2 (Rdr.cells Q_api_Snow (snr (.slice (some ⟨g, o, none⟩) x.l.length c0) { x1 with pref := if bestS x1 < min (c.2 + 1) 1073741824 then id else x1.pref })).toArray T_api_Snow, rows Q_api_Choice (.slice (some ⟨g, o, none⟩) x.l.length c0) x1.l, blk g4 (Rdr.cells Q_api_Snow (.slice none 0 0, vz 32, vz 32, 0, false)).toArray T_api_Snow, blk g3 (Rdr.cells (rVec 32) id).toArray T_api_ID, blk g1 (Rdr.cells Q_api_Params p).toArray T_api_Params], ?_, ?_⟩
      · refine drH_S hs11 fun w12 hs12 _ => ?_
        have hatS : ∀ u, Sep w u [rows Q_api_Choice (.slice (some ⟨g, o, none⟩) x.l.length c0) x1.l, blk g2 (Rdr.cells Q_api_Snow (snr (.slice (some ⟨g, o, none⟩) x.l.length c0) x1)).toArray T_api_Snow, blk g4 (Rdr.cells Q_api_Snow (.slice none 0 0, vz 32, vz 32, 0, false)).toArray T_api_Snow, blk g3 (Rdr.cells (rVec 32) id).toArray T_api_ID, blk g1 (Rdr.cells Q_api_Params p).toArray T_api_Params] →
            At u.heap g (o + k * 33) (Rdr.cells Q_api_Choice (c.1, min (c.2 + 1) 1073741824)) := fun u hu => At.of (q := Q_api_Choice) (by decide) (Sep.rows hu) (by rw [hl1]; exact hset)
        refine ⟨.int .i64 (min (c.2 + 1) 1073741824), fun u hu => ?_, ?_⟩
        · show ld1 _ u.heap _
          rw [LA_api_Choice__Strength (hatS u hu)]
        refine ⟨.slice (some ⟨g, o, none⟩) x.l.length c0, fun u hu => ?_, ?_⟩
        · show ld1 _ u.heap _
          rw [L_api_Snow__List (Sep.p1 hu).blk]
        refine ⟨snv (.slice (some ⟨g, o, none⟩) x.l.length c0) x1, fun u hu => ?_, ?_⟩
        · show ldN 67 _ u.heap _
          rw [L_api_Snow (Sep.p1 hu).blk]
        refine ⟨idv x1.pref, fun u hu => ?_, ?_⟩
        · show ldN 32 _ u.heap _
          rw [L_api_Snow__Pref (Sep.p1 hu).blk]
        refine efS_i (cal_i (snPlace_spec (Sep.rows hs12) (by omega)) ?_)
        rintro _ w13 ⟨rfl, hf13⟩
        have hs13 := hs12.old hf13
        refine ⟨hs13, ?_⟩
        rw [hpl0]
        refine rdS_row (q := Q_api_Choice) (.snd .self) rfl (by decide) hs13 (fun u hu => Sep.rows hu) hd0 .i64 ?_
        simp only [fx, Nat.reduceAdd, forall_const]
        rw [← hbest, cnd_bool]
        refine ⟨fun h => ?_, fun h => ?_⟩
        · simp only [L_api_ID hs13.p3.blk]
          refine St_api_Snow__Pref hs13.p1 oneVec fun w14 hs14 => ?_
          rw [if_pos (by simpa using h)]
          exact hs14
        · rw [if_neg (by simpa using h)]
          exact hs13.p1
      · intro w12 hs12 _
        simp only [L_api_ID hs12.p3.blk]
        refine St_api_Snow__Flake hs12 oneVec fun w13 hs13 => ?_
        refine ⟨updM x id k c, _, rfl, ?_, ?_⟩
        · exact pollM_up hE hn hk hc hd hap
        · have hu : updM x id k c = { x1 with pref := if bestS x1 < min (c.2 + 1) 1073741824 then id else x1.pref, flake := id } := by
            unfold updM
            rw [hx1, ← hx1]
          rw [hu]
          exact hs13.d3
  · rintro _ w10 ⟨x', cf, rfl, he, hs10⟩ -
    refine St_api_Snow__Conf hs10 fun w11 hs11 => ?_
    simp only [fx, Nat.reduceAdd, forall_const, L_api_Params hs11.p3.blk, L_api_Params__K hs11.p3.blk, L_api_Params__AlphaPref hs11.p3.blk, L_api_Params__AlphaConf hs11.p3.blk, L_api_Params__Beta hs11.p3.blk]
    refine St_api_Snow__Done hs11 fun w12 hs12 => ?_
    simp only [L_api_Snow hs12.blk, L_api_Snow__List hs12.blk, L_api_Snow__Pref hs12.blk, L_api_Snow__Flake hs12.blk, L_api_Snow__Conf hs12.blk, L_api_Snow__Done hs12.blk]
    refine St_api_Snow hs12.p2 (one_api_Snow hs12.p1.oneR) fun w13 hs13 => ?_
    simp only [L_api_Snow hs13.blk, L_api_Snow__List hs13.blk, L_api_Snow__Pref hs13.blk, L_api_Snow__Flake hs13.blk, L_api_Snow__Conf hs13.blk, L_api_Snow__Done hs13.blk]
    refine hR _ _ ⟨v', ?_, ?_⟩
    · rw [he, beq_dec]
    · rw [he]; exact hs13.p2.d1.d1.d1
end
end Go.Fx
set_option linter.unusedVariables false
set_option linter.unusedSimpArgs false
namespace Go.Fx
section
variable {w : World} {v u : Value} {x y : Sn} {p : Par} {id : Id} {n : Int}
end
end Go.Fx
set_option linter.unusedVariables false
set_option linter.unusedSimpArgs false
namespace Go.Fx
theorem failM_ok {p : Par} {x : Sn} (h : snE p x = 0) : (failM p x).2 = 0 := by rw [failM, if_neg (by simpa using h)]
theorem pollM_ok {p : Par} {x : Sn} {id : Id} {n : Int} (h : snE p x = 0) (hn : 0 ≤ n) (hk : n ≤ p.1) (hid : 0 ≤ plc x.l id) : (pollM p x id n).2 = 0 := by
  rw [pollM, if_neg (by simpa using h), if_neg (by omega), if_neg (by omega)]
  repeat' split
  all_goals rfl
theorem plc_mem {l : List Cho} {i : Nat} {c : Cho} (hc : l[i]? = some c) : 0 ≤ plc l c.1 := by
  rcases plc_cases l c.1 with ⟨_, h⟩ | ⟨j, d, h, _⟩
  · exact absurd rfl (h i c hc)
  · omega
/-- What may be, in parts. -/
structure May (p : Par) (x : Sn) : Prop where
  par : parE p = 0
  n1 : 1 ≤ x.l.length
  n2 : x.l.length ≤ 32
  pref : 0 ≤ plc x.l x.pref
  flake : 0 ≤ plc x.l x.flake
  c0 : 0 ≤ x.conf
  c1 : x.conf ≤ p.2.2.2
  dn : x.dn = decide (x.conf = p.2.2.2)
  own : ∀ (i : Nat) (c : Cho), x.l[i]? = some c → plc x.l c.1 = i ∧ 0 ≤ c.2 ∧ c.2 ≤ 1073741824 ∧ c.2 ≤ bestS x
theorem may_iff {p : Par} {x : Sn} : snE p x = 0 ↔ May p x := by
  constructor
  · intro h
    obtain ⟨h1, h2, h3⟩ := snE_zero h
    unfold headBad at h2
    refine ⟨h1, by omega, by omega, by omega, by omega, by omega, by omega, Classical.not_not.1 fun hd => h2 (.inr (.inr (.inr (.inr (.inr (.inr hd)))))), fun i c hc => ?_⟩
    have := h3 i c hc
    simp [goodAt] at this
    omega
  · intro h
    refine snE_ok h.par (fun hb => ?_) fun i c hc => ?_
    · unfold headBad at hb
      have := h.n1; have := h.n2; have := h.pref; have := h.flake; have := h.c0; have := h.c1
      rcases hb with hb | hb | hb | hb | hb | hb | hb
      · omega
      · omega
      · omega
      · omega
      · omega
      · omega
      · exact hb h.dn
    · have := h.own i c hc
      simp [goodAt]
      omega
theorem plc_pos {l : List Cho} {id : Id} (h : 0 ≤ plc l id) : ∃ i c, plc l id = ((i : Nat) : Int) ∧ l[i]? = some c ∧ c.1 = id ∧ ∀ (j : Nat) (d : Cho), j < i → l[j]? = some d → d.1 ≠ id := by
  rcases plc_cases l id with ⟨h1, _⟩ | h1
  · omega
  · exact h1
theorem plc_app {l m : List Cho} {id : Id} (h : 0 ≤ plc l id) : plc (l ++ m) id = plc l id := by
  obtain ⟨i, c, h1, h2, h3, h4⟩ := plc_pos h
  have hlt := (List.getElem?_eq_some_iff.1 h2).1
  rw [h1]
  refine plc_at (c := c) (by rw [List.getElem?_append_left hlt]; exact h2) h3 fun j d hj hd => ?_
  rw [List.getElem?_append_left (by omega)] at hd
  exact h4 j d hj hd
theorem plc_last {l : List Cho} {id : Id} {s : Int} (h : plc l id < 0) : plc (l ++ [(id, s)]) id = l.length := by
  refine plc_at (c := (id, s)) (by simp) rfl fun j d hj hd => ?_
  rw [List.getElem?_append_left (by omega)] at hd
  rcases plc_cases l id with ⟨_, h2⟩ | ⟨i, c, h1, _⟩
  · exact h2 j d hd
  · omega
/-- A list that grew: old choices stay, none weaker. -/
def Grows (l m : List Cho) : Prop := ∀ (i : Nat) (c : Cho), l[i]? = some c → ∃ d, m[i]? = some d ∧ d.1 = c.1 ∧ c.2 ≤ d.2
theorem Grows.len {l m : List Cho} (h : Grows l m) : l.length ≤ m.length := by
  rcases Nat.lt_or_ge m.length l.length with hlt | h'
  · obtain ⟨d, hd, _⟩ := h m.length _ (List.getElem?_eq_getElem hlt)
    simp at hd
  · exact h'
def prf (x : Sn) : Id := bif x.dn then x.flake else x.pref
theorem best_at {x : Sn} {i : Nat} {c : Cho} (h : plc x.l x.pref = i) (hc : x.l[i]? = some c) : bestS x = c.2 := by rw [bestS, h, Int.toNat_natCast, hc]; rfl
theorem May.best {p : Par} {x : Sn} (h : May p x) : ∃ i c, plc x.l x.pref = ((i : Nat) : Int) ∧ x.l[i]? = some c ∧ bestS x = c.2 := by
  obtain ⟨i, c, h1, h2, _⟩ := plc_pos h.pref
  exact ⟨i, c, h1, h2, best_at h1 h2⟩
theorem add_may {p : Par} {x : Sn} {id : Id} (h : May p x) : ((addM p x id).2 ≠ 0) ∨ (addM p x id = ({ x with l := x.l ++ [(id, 0)] }, 0) ∧ May p { x with l := x.l ++ [(id, 0)] }) := by
  by_cases h1 : 0 ≤ plc x.l id
  · left; rw [addM, if_neg (by simpa using may_iff.2 h), if_pos h1]; decide
  by_cases h2 : 32 ≤ x.l.length
  · left; rw [addM, if_neg (by simpa using may_iff.2 h), if_neg h1, if_pos h2]; decide
  right
  refine ⟨by rw [addM, if_neg (by simpa using may_iff.2 h), if_neg h1, if_neg h2], ?_⟩
  obtain ⟨i, c, hi, hc, hb⟩ := h.best
  have hlt := (List.getElem?_eq_some_iff.1 hc).1
  have hb' : Go.Fx.bestS { x with l := x.l ++ [(id, 0)] } = c.2 := best_at (x := { x with l := x.l ++ [(id, 0)] }) (by show plc (x.l ++ _) x.pref = _; rw [plc_app h.pref]; exact hi) (by show (x.l ++ _)[i]? = _; rw [List.getElem?_append_left hlt]; exact hc)
  have hc0 := h.own i c hc
  refine ⟨h.par, by simp, by simp; omega, by show 0 ≤ plc (x.l ++ _) x.pref; rw [plc_app h.pref]; exact h.pref, by show 0 ≤ plc (x.l ++ _) x.flake; rw [plc_app h.flake]; exact h.flake, h.c0, h.c1, h.dn, fun j d hd => ?_⟩
  rw [hb']
  have hd : (x.l ++ [(id, 0)])[j]? = some d := hd
  by_cases hj : j < x.l.length
  · rw [List.getElem?_append_left hj] at hd
    obtain ⟨q1, q2, q3, q4⟩ := h.own j d hd
    refine ⟨?_, q2, q3, by rw [← hb]; exact q4⟩
    show plc (x.l ++ _) d.1 = _
    rw [plc_app (by omega)]
    exact q1
  · have hje : j = x.l.length := by have := (List.getElem?_eq_some_iff.1 hd).1; simp at this; omega
    subst hje
    simp at hd
    subst hd
    refine ⟨?_, by simp, by simp, hc0.2.1⟩
    show plc (x.l ++ _) id = _
    exact plc_last (by omega)
theorem fail_may {p : Par} {x : Sn} (h : May p x) : May p (failM p x).1 ∧ (failM p x).1.l = x.l ∧ prf (failM p x).1 = prf x ∧ (x.dn = true → (failM p x).1 = x) ∧ (failM p x).1.dn = x.dn ∧ (x.dn = false → (failM p x).1.conf = 0 ∧ (failM p x).1.flake = x.flake) := by
  have he : (failM p x).1 = if x.dn then x else { x with conf := 0 } := by rw [failM, if_neg (by simpa using may_iff.2 h)]
  rw [he]
  by_cases hd : x.dn = true
  · rw [if_pos hd]
    exact ⟨h, rfl, rfl, fun _ => rfl, rfl, fun h => by rw [hd] at h; cases h⟩
  · rw [if_neg hd]
    have hd : x.dn = false := by simpa using hd
    obtain ⟨_, _, _, _, _, q6, _⟩ := parE_zero h.par
    refine ⟨⟨h.par, h.n1, h.n2, h.pref, h.flake, by simp, by simp; omega, ?_, h.own⟩, rfl, ?_, (fun h => by rw [hd] at h; cases h), rfl, fun _ => ⟨rfl, rfl⟩⟩
    · have : decide ((0 : Int) = p.2.2.2) = false := by simp; omega
      show x.dn = decide ((0 : Int) = p.2.2.2)
      rw [this, hd]
    · show (bif x.dn then _ else _) = (bif x.dn then _ else _)
      rw [hd]
/-- Votes enough: what a poll makes. -/
theorem up_may {p : Par} {x : Sn} {k : Nat} {c : Cho} {n : Int} (h : May p x) (hc : x.l[k]? = some c) (hd : x.dn = false) {y : Sn}
    (hy : y = { updM x c.1 k c with conf := cfM p x c.1 n, dn := decide (cfM p x c.1 n = p.2.2.2) }) :
    May p y ∧ y.l = x.l.set k (c.1, min (c.2 + 1) 1073741824) ∧ y.flake = c.1 ∧ (y.pref = x.pref ∨ (y.pref = c.1 ∧ ∃ s, plc x.l x.pref = ((s : Nat) : Int) ∧ ∃ d, y.l[s]? = some d ∧ d.2 < min (c.2 + 1) 1073741824)) := by
  have hklt := (List.getElem?_eq_some_iff.1 hc).1
  obtain ⟨q1, q2, q3, q4⟩ := h.own k c hc
  obtain ⟨_, _, _, _, _, r6, _⟩ := parE_zero h.par
  obtain ⟨i, b, hi, hb, hbest⟩ := h.best
  have hilt := (List.getElem?_eq_some_iff.1 hb).1
  generalize hs : min (c.2 + 1) 1073741824 = s at *
  have hs1 : c.2 ≤ s ∧ 0 ≤ s ∧ s ≤ 1073741824 := by omega
  have hyl : y.l = x.l.set k (c.1, s) := by rw [hy, updM, hs]
  have hplc : ∀ z, plc y.l z = plc x.l z := fun z => by rw [hyl, plc_set hc]
  obtain ⟨b', hb', hbb⟩ : ∃ b', y.l[i]? = some b' ∧ b.2 ≤ b'.2 := by
    rw [hyl]
    by_cases hik : k = i
    · subst hik
      rw [hc] at hb; cases hb
      exact ⟨_, List.getElem?_set_self hklt, hs1.1⟩
    · exact ⟨b, by rw [List.getElem?_set_ne hik]; exact hb, Int.le_refl _⟩
  have hbx1 : bestS { x with l := x.l.set k (c.1, s) } = b'.2 := best_at (x := { x with l := x.l.set k (c.1, s) }) (by show plc (x.l.set _ _) x.pref = _; rw [plc_set hc]; exact hi) (by rw [← hyl]; exact hb')
  have hyp : y.pref = if b'.2 < s then c.1 else x.pref := by rw [hy, updM, hs, hbx1]
  have hyf : y.flake = c.1 := by rw [hy, updM]
  have hyc : y.conf = cfM p x c.1 n := by rw [hy]
  have hyd : y.dn = decide (cfM p x c.1 n = p.2.2.2) := by rw [hy]
  have hcf : x.conf ≠ p.2.2.2 := fun he => by have := h.dn; rw [hd, he] at this; simp at this
  have hcb : 0 ≤ cfM p x c.1 n ∧ cfM p x c.1 n ≤ p.2.2.2 := by
    have := h.c0; have := h.c1
    unfold cfM
    repeat' split
    all_goals omega
  have hky : y.l[k]? = some (c.1, s) := by rw [hyl]; exact List.getElem?_set_self hklt
  have hby : b'.2 ≤ bestS y ∧ s ≤ bestS y := by
    by_cases hlt : b'.2 < s
    · rw [if_pos hlt] at hyp
      have : bestS y = s := best_at (c := (c.1, s)) (i := k) (by rw [hplc, hyp]; exact q1) hky
      omega
    · rw [if_neg hlt] at hyp
      have : bestS y = b'.2 := best_at (i := i) (by rw [hplc, hyp]; exact hi) hb'
      omega
  refine ⟨⟨h.par, by rw [hyl]; simpa using h.n1, by rw [hyl]; simpa using h.n2, ?_, by rw [hplc, hyf]; omega, by rw [hyc]; exact hcb.1, by rw [hyc]; exact hcb.2, by rw [hyd, hyc], fun j d hj => ?_⟩, hyl, hyf, ?_⟩
  · rw [hplc, hyp]
    split
    · omega
    · exact h.pref
  · rw [hplc]
    by_cases hjk : k = j
    · subst hjk
      rw [hky] at hj
      cases hj
      exact ⟨q1, hs1.2.1, hs1.2.2, hby.2⟩
    · rw [hyl, List.getElem?_set_ne hjk] at hj
      obtain ⟨e1, e2, e3, e4⟩ := h.own j d hj
      exact ⟨e1, e2, e3, by omega⟩
  · by_cases hlt : b'.2 < s
    · right
      rw [if_pos hlt] at hyp
      exact ⟨hyp, i, hi, b', hb', hlt⟩
    · left
      rw [if_neg hlt] at hyp
      exact hyp
theorem poll_cases {p : Par} {x : Sn} {k : Nat} {c : Cho} {n : Int} (h : May p x) (hc : x.l[k]? = some c) (h0 : 0 ≤ n) (hk : n ≤ p.1) :
    (x.dn = true ∧ (pollM p x c.1 n).1 = x) ∨ (x.dn = false ∧ n < p.2.1 ∧ (pollM p x c.1 n).1 = (failM p x).1) ∨
      (x.dn = false ∧ p.2.1 ≤ n ∧ (pollM p x c.1 n).1 = { updM x c.1 k c with conf := cfM p x c.1 n, dn := decide (cfM p x c.1 n = p.2.2.2) }) := by
  have hE := may_iff.2 h
  have hpl := (h.own k c hc).1
  cases hd : x.dn with
  | true => left; exact ⟨rfl, by rw [pollM, if_neg (by simpa using hE), if_neg (by omega), if_neg (by omega), if_pos hd]⟩
  | false =>
    right
    by_cases hn : n < p.2.1
    · left
      refine ⟨rfl, hn, ?_⟩
      rw [pollM, if_neg (by simpa using hE), if_neg (by omega), if_neg (by omega), if_neg (by simp [hd]), if_pos hn, failM, if_neg (by simpa using hE), if_neg (by simp [hd])]
    · right
      refine ⟨rfl, by omega, ?_⟩
      rw [pollM_up hE (by omega) hpl hc hd hn]
theorem new_may {p : Par} {id : Id} (h : parE p = 0) : May p (newM p id).1 ∧ (newM p id).2 = 0 ∧ (newM p id).1.dn = false ∧ (newM p id).1.conf = 0 := by
  obtain ⟨r1, r2, r3, r4, r5, r6, r7⟩ := parE_zero h
  have he : newM p id = (⟨[(id, 0)], id, id, 0, false⟩, 0) := by rw [newM, if_neg (by simpa using h)]
  have hp : plc [(id, 0)] id = ((0 : Nat) : Int) := plc_at (c := (id, 0)) rfl rfl fun j d hj => by omega
  rw [he]
  refine ⟨⟨h, by simp, by simp, by show 0 ≤ plc [(id, 0)] id; omega, by show 0 ≤ plc [(id, 0)] id; omega, by simp, by show (0 : Int) ≤ _; omega, ?_, fun i c hc => ?_⟩, rfl, rfl, rfl⟩
  · have : decide ((0 : Int) = p.2.2.2) = false := by simp; omega
    exact this.symm
  · match i, hc with
    | 0, hc =>
      cases hc
      have hb : bestS ⟨[(id, 0)], id, id, 0, false⟩ = 0 := best_at (i := 0) (c := (id, 0)) hp rfl
      rw [hb]
      exact ⟨hp, by simp, by simp, by simp⟩
    | i + 1, hc => simp at hc
end Go.Fx
set_option linter.unusedVariables false
set_option linter.unusedSimpArgs false
namespace Go.Fx
abbrev Vt := Vec 32 × Int
def ltV (a b : Vec 32) : Bool := decide (ofBe a.1 < ofBe b.1)
def sumV (V : List Vt) : Int := (V.map (·.2)).sum
theorem sumV_snoc (V : List Vt) (v : Vt) : sumV (V ++ [v]) = sumV V + v.2 := by simp [sumV]
theorem sumV_take {V : List Vt} {i : Nat} {v : Vt} (h : V[i]? = some v) : sumV (V.take (i + 1)) = sumV (V.take i) + v.2 := by
  rw [List.take_add_one, h]
  exact sumV_snoc _ _
/-- What is asked of the vote at a place. -/
def VAt (V : List Vt) (j : Nat) : Prop := ∀ v, V[j]? = some v → (∀ u, 0 < j → V[j - 1]? = some u → ltV u.1 v.1 = true) ∧ 1 ≤ v.2 ∧ v.2 ≤ 1048576 - sumV (V.take j)
/-- A bag that may be. -/
def bagOk (V : List Vt) : Prop := ∀ j, VAt V j
open Classical in
noncomputable def bagE (V : List Vt) : Int := if bagOk V then 0 else 70
theorem bagE_ok {V : List Vt} (h : bagOk V) : bagE V = 0 := if_pos h
theorem bagE_no {V : List Vt} (h : ¬ bagOk V) : bagE V = 70 := if_neg h
theorem bagE_zero {V : List Vt} : bagE V = 0 ↔ bagOk V := by
  by_cases h : bagOk V
  · exact ⟨fun _ => h, fun _ => bagE_ok h⟩
  · refine ⟨fun h2 => ?_, fun h2 => absurd h2 h⟩
    rw [bagE_no h] at h2
    cases h2
theorem VAt.sum {V : List Vt} {i : Nat} (h : ∀ j, j < i → VAt V j) : 0 ≤ sumV (V.take i) ∧ sumV (V.take i) ≤ 1048576 := by
  induction i with
  | zero => simp [sumV]
  | succ i ih =>
    obtain ⟨h1, h2⟩ := ih fun j hj => h j (by omega)
    cases hv : V[i]? with
    | none =>
      have e : V.take (i + 1) = V.take i := by rw [List.take_add_one, hv]; simp
      rw [e]; exact ⟨h1, h2⟩
    | some v =>
      obtain ⟨_, h3, h4⟩ := h i (by omega) v hv
      rw [sumV_take hv]
      omega
theorem bagOk.sum {V : List Vt} (h : bagOk V) (i : Nat) : 0 ≤ sumV (V.take i) ∧ sumV (V.take i) ≤ 1048576 := VAt.sum fun j _ => h j
theorem bagOk.pos {V : List Vt} (h : bagOk V) : ∀ v ∈ V, 1 ≤ v.2 := fun v hv => by
  obtain ⟨i, hi⟩ := List.getElem?_of_mem hv
  exact (h i v hi).2.1
theorem bagOk.len {V : List Vt} (h : bagOk V) : V.length ≤ 1048576 := by
  have h1 : ∀ i, i ≤ V.length → (i : Int) ≤ sumV (V.take i) := fun i => by
    induction i with
    | zero => simp [sumV]
    | succ i ih =>
      intro hi
      obtain ⟨v, hv⟩ : ∃ v, V[i]? = some v := ⟨_, List.getElem?_eq_getElem (by omega)⟩
      have := (h i v hv).2.1
      have := ih (by omega)
      rw [sumV_take hv]
      omega
  have := h1 V.length (Nat.le_refl _)
  have := (h.sum V.length).2
  omega
def optB (c : Bool) (v : Value) : Value := bif c then v else undef
/-- The votes of a name: those of the first vote for it. -/
def cntV (V : List Vt) (k : Vec 32) : Int := match V.find? fun v => decide (v.1 = k) with | none => 0 | some v => v.2
open Classical in
noncomputable def goodV (V : List Vt) : List Vt := if bagOk V then V else []
section
variable {w0 w w' : World} {v : Value} {V : List Vt}
theorem oneVt {b : Vt} : ∀ u ∈ Rdr.cells Q_api_Vote b, u.oneCell' = true := onePair oneVec oneI
theorem cmpB_spec {x y : Value} {a b : List UInt8} (hx : RdB w.heap x a) (hy : RdB w.heap y b) :
    cal P f_bytes_Compare [x, y] w fun v w' => v = .int .i64 (Extern.BytealgCompare.cmp ⟨a.toArray⟩ ⟨b.toArray⟩) ∧ w = w' := by
  refine s_bytes_Compare fun R hR => ?_
  unfold c_bytes_Compare
  refine ⟨_, _, ?_, hR _ _ ⟨rfl, rfl⟩⟩
  have hs : (P.funcs[f_internal_bytealg_Compare]?).isSome = true := by kernel_rfl
  have hf : P.funcs[f_internal_bytealg_Compare]? = some ((P.funcs[f_internal_bytealg_Compare]?).get hs) := (Option.some_get hs).symm
  rw [run_callFunc_extern (e := Extern.BytealgCompare.compare) hf (by kernel_rfl) (by kernel_rfl) (by kernel_rfl) (by kernel_rfl)]
  change (Sem.run P (do pure (goInt (Extern.BytealgCompare.cmp (← Extern.Bytes.bytesOf x) (← Extern.Bytes.bytesOf y)))) w).andThen _ = _
  simp only [Sem.run_bind, hx.bytesOf, hy.bytesOf, Result.andThen_ok, Sem.run_pure, goInt]
theorem bgCompare_spec (a b : Vec 32) : cal P f_bag_compare [kv a, kv b] w fun r w' => r = .int .i64 (Extern.BytealgCompare.cmp ⟨a.1.toArray⟩ ⟨b.1.toArray⟩) ∧ Fr [] w w' := by
  refine s_bag_compare fun R hR => ?_
  unfold c_bag_compare
  refine bxQ (Sep.start w) fun g2 w1 hs1 => ?_
  refine bxQ hs1 fun g3 w2 hs2 => ?_
  refine drH_S hs2 fun w3 hs3 _ => ?_
  rw [sla_all, sla_all]
  refine efC_cal (cal_i (cmpB_spec (rd_vec hs3.p1) (rd_vec hs3)) ?_)
  rintro _ _ ⟨rfl, rfl⟩
  exact hR _ _ ⟨rfl, hs3.fr0⟩
theorem bgLess_spec (a b : Vec 32) : cal P f_bag_Less [kv a, kv b] w fun r w' => r = .bool (ltV a b) ∧ Fr [] w w' := by
  refine s_bag_Less fun R hR => ?_
  unfold c_bag_Less
  refine bxQ (Sep.start w) fun g2 w1 hs1 => ?_
  refine bxQ hs1 fun g3 w2 hs2 => ?_
  simp only [L_api_ID hs2.p1.blk, L_api_ID hs2.blk]
  refine cal_i (bgCompare_spec a b) ?_
  rintro _ w3 ⟨rfl, hf3⟩
  simp only [fx, Nat.reduceAdd, forall_const]
  refine hR _ _ ⟨?_, (hs2.old hf3).fr0⟩
  have h := cmp_lt a.1 b.1 (by rw [a.2, b.2])
  unfold ltV
  congr 1
  exact decide_eq_decide.2 h
theorem rdS_vtI {S : World → Prop} {j : Nat} {a : Vt} {K : Value → Prop} (hw : S w) (hS : ∀ u, S u → Rows' Q_api_Vote u.heap v V) (hj : V[j]? = some a) (k : IntKind) (h : K (kv a.1)) :
    ixs 33 v (.int k (j : Int)) fun t => fad 0 t fun t' => rdS S (fun w => ldN 32 t' w.heap) K := by
  obtain ⟨g, o, c, rfl⟩ := (hS w hw).form (by decide) hj
  have hlt := (List.getElem?_eq_some_iff.1 hj).1
  rw [show (33 : Nat) = (Q_api_Vote).size from rfl, ixs_mk _ _ _ _ _ _ _ _ (by omega) (by omega), Int.toNat_natCast]
  simp only [fx, Nat.reduceAdd, forall_const]
  refine ⟨kv a.1, fun z hz => ?_, h⟩
  exact (LA_api_Vote__ID (At.of (by decide) (hS z hz) hj) _).mpr rfl
theorem bgCheck_spec (hr : Rows' Q_api_Vote w.heap v V) (hl : V.length ≤ 9223372036854775807) : cal P f_bag_Check [v] w fun r w' => r = .int .i64 (bagE V) ∧ Fr [] w w' := by
  refine s_bag_Check fun R hR => ?_
  unfold c_bag_Check
  rw [hr.len]
  refine ⟨fun a b z => ∃ i : Nat, b = .int .i64 i ∧ i ≤ V.length ∧ a = .int .i64 (sumV (V.take i)) ∧ (∀ j, j < i → VAt V j) ∧ Fr [] w z, fun _ b _ => (V.length - RowKit.intOf b).toNat, ⟨0, rfl, by omega, by simp [sumV], fun j hj => by omega, Fr.refl _ _⟩, ?_⟩
  rintro _ _ z ⟨i, rfl, hi, rfl, hV, hf⟩ -
  obtain ⟨hs0, hs1⟩ := VAt.sum hV
  simp only [fx, Nat.reduceAdd, forall_const]
  rw [cnd_bool]
  refine ⟨fun h => ?_, fun h => ?_⟩
  case refine_2 =>
    have hge : i = V.length := by simp at h; omega
    refine hR _ _ ⟨?_, hf⟩
    rw [bagE_ok fun j => ?_]
    by_cases hj : j < i
    · exact hV j hj
    · intro u hu
      have := (List.getElem?_eq_some_iff.1 hu).1
      omega
  have hlt : i < V.length := by simp at h; omega
  obtain ⟨a, ha⟩ : ∃ a, V[i]? = some a := ⟨_, List.getElem?_eq_getElem hlt⟩
  have hrz := hr.fr hf
  change ixs 33 _ _ _
  refine Rows'.ldN (q := Q_api_Vote) (by decide) hrz ha .i64 ?_
  refine alloc_s ((Sep.start w).old hf) (A_api_Vote z) fun g5 z1 hz1 => ?_
  refine St_api_Vote (b := a) hz1 oneVt fun z2 hz2 => ?_
  refine drH_S hz2 fun z3 hz3 _ => ?_
  simp only [fx, Nat.reduceAdd, forall_const]
  classical
  obtain ⟨lt, hlt'⟩ : ∃ lt : Bool, lt = decide (∀ u, 0 < i → V[i - 1]? = some u → ltV u.1 a.1 = true) := by
    cases hp : V[i - 1]? with
    | none => exact ⟨true, by simp⟩
    | some u =>
      by_cases h0 : 0 < i
      · by_cases hc : ltV u.1 a.1 = true
        · exact ⟨true, by symm; exact decide_eq_true fun x _ hx => by cases hx; exact hc⟩
        · exact ⟨false, by symm; exact decide_eq_false fun hx => hc (hx u h0 rfl)⟩
      · exact ⟨true, by symm; exact decide_eq_true fun x hx => absurd hx h0⟩
  refine ⟨fun y z => pik (.bool (decide ((0 : Int) < (i : Int)))) y (.bool false) (fun t => t = .bool (!lt)) ∧ Sep w z [blk g5 (Rdr.cells Q_api_Vote a).toArray T_api_Vote], ?_, ?_⟩
  · by_cases h0 : i = 0
    · subst h0
      have hl1 : lt = true := by rw [hlt']; exact decide_eq_true fun u hu => by omega
      rw [hl1]
      simp only [fx, Nat.reduceAdd, forall_const, show decide ((0 : Int) < ((0 : Nat) : Int)) = false from rfl]
      exact ⟨trivial, hz3⟩
    · have hd0 : decide ((0 : Int) < (i : Int)) = true := by simp; omega
      obtain ⟨u, hu⟩ : ∃ u, V[i - 1]? = some u := ⟨_, List.getElem?_eq_getElem (by omega)⟩
      have hl1 : lt = ltV u.1 a.1 := by
        rw [hlt']
        cases hc : ltV u.1 a.1 with
        | true => exact decide_eq_true fun x _ hx => by rw [hu] at hx; cases hx; exact hc
        | false => exact decide_eq_false fun hx => by have := hx u (by omega) hu; rw [hc] at this; cases this
      simp only [hd0, fx, Nat.reduceAdd, forall_const]
      rw [wi64 (by omega) (by omega), show (i : Int) - 1 = ((i - 1 : Nat) : Int) by omega]
      refine rdS_vtI hz3 (fun x hx => hr.fr hx.fr0) hu .i64 ?_
      refine ⟨kv a.1, fun x hx => (L_api_Vote__ID (Sep.blk hx) _).mpr rfl, ?_⟩
      refine efS_i (cal_i (bgLess_spec u.1 a.1) ?_)
      rintro _ z4 ⟨rfl, hf4⟩
      have hz4 := hz3.old hf4
      refine ⟨hz4, ?_⟩
      simp only [fx, Nat.reduceAdd, forall_const]
      exact ⟨by rw [hl1], hz4⟩
  rintro y z4 ⟨hy, hz4⟩ _
  have ep : ∀ K, pik (.bool (decide ((0 : Int) < (i : Int)))) y (.bool false) K = K (.bool (!lt)) := fun K => by
    cases hd : decide ((0 : Int) < (i : Int)) with
    | true => rw [hd] at hy; rw [pik_true] at hy ⊢; rw [hy]
    | false => rw [hd] at hy; rw [pik_false] at hy ⊢; rw [hy]
  rw [ep]
  refine ⟨fun y z => y = optB lt (.bool (decide (a.2 < 1))) ∧ Sep w z [blk g5 (Rdr.cells Q_api_Vote a).toArray T_api_Vote], ?_, ?_⟩
  · cases lt with
    | false => simp only [fx, Nat.reduceAdd, forall_const]; exact ⟨rfl, hz4⟩
    | true =>
      simp only [fx, Nat.reduceAdd, forall_const]
      refine rdS_ld (v := .int .i64 a.2) (fun u hu K hk => (L_api_Vote__N (Sep.blk hu) K).mpr hk) ?_
      simp only [fx, Nat.reduceAdd, forall_const]
      exact ⟨rfl, hz4⟩
  rintro _ z5 ⟨rfl, hz5⟩ _
  obtain ⟨bad, hbad⟩ : ∃ bad : Bool, bad = (!lt || decide (a.2 < 1)) := ⟨_, rfl⟩
  have ep2 : ∀ K, pik (.bool (!lt)) (.bool true) (optB lt (.bool (decide (a.2 < 1)))) K = K (.bool bad) := fun K => by
    rw [hbad]
    cases lt <;> simp only [fx, Nat.reduceAdd, forall_const, optB]
  rw [ep2]
  have ew : IntKind.i64.wrap (1048576 - sumV (V.take i)) = 1048576 - sumV (V.take i) := wi64 (by omega) (by omega)
  refine ⟨fun y z => y = optB (!bad) (.bool (decide (1048576 - sumV (V.take i) < a.2))) ∧ Sep w z [blk g5 (Rdr.cells Q_api_Vote a).toArray T_api_Vote], ?_, ?_⟩
  · cases bad with
    | true => simp only [fx, Nat.reduceAdd, forall_const]; exact ⟨rfl, hz5⟩
    | false =>
      simp only [fx, Nat.reduceAdd, forall_const]
      refine rdS_ld (v := .int .i64 a.2) (fun u hu K hk => (L_api_Vote__N (Sep.blk hu) K).mpr hk) ?_
      simp only [fx, Nat.reduceAdd, forall_const, ew]
      exact ⟨rfl, hz5⟩
  rintro _ z6 ⟨rfl, hz6⟩ _
  have ep3 : ∀ K, pik (.bool bad) (.bool true) (optB (!bad) (.bool (decide (1048576 - sumV (V.take i) < a.2)))) K = K (.bool (bad || decide (1048576 - sumV (V.take i) < a.2))) := fun K => by
    cases bad <;> simp only [fx, Nat.reduceAdd, forall_const, optB]
  rw [ep3, cnd_bool, hbad]
  refine ⟨fun h => ?_, fun h => ?_⟩
  · refine hR _ _ ⟨?_, hz6.fr0⟩
    rw [bagE_no fun hb => ?_]
    obtain ⟨h1, h2, h3⟩ := hb i a ha
    have hl1 : lt = true := by rw [hlt']; exact decide_eq_true h1
    rw [hl1] at h
    simp only [Bool.not_true, Bool.false_or, Bool.or_eq_true, decide_eq_true_eq] at h
    omega
  · have hl1 : lt = true ∧ 1 ≤ a.2 ∧ a.2 ≤ 1048576 - sumV (V.take i) := by
      simp only [Bool.or_eq_false_iff, Bool.not_eq_false', decide_eq_false_iff_not] at h
      exact ⟨h.1.1, by omega, by omega⟩
    simp only [fx, Nat.reduceAdd, forall_const, L_api_Vote hz6.blk, L_api_Vote__ID hz6.blk, L_api_Vote__N hz6.blk]
    rw [wi64 (by omega) (by omega), wi64 (by omega) (by omega)]
    refine ⟨⟨i + 1, by simp, by omega, by rw [sumV_take ha], fun j hj => ?_, hz6.fr0⟩, by simp [RowKit.intOf] <;> omega⟩
    by_cases hji : j < i
    · exact hV j hji
    · obtain rfl : j = i := by omega
      intro u hu
      rw [ha] at hu
      cases hu
      exact ⟨of_decide_eq_true (hlt'.symm.trans hl1.1), hl1.2⟩
theorem bgGood_spec (hr : Rows' Q_api_Vote w.heap v V) (hl : V.length ≤ 9223372036854775807) : cal P f_bag_good [v] w fun r w' => Rows' Q_api_Vote w'.heap r (goodV V) ∧ Fr [] w w' := by
  refine s_bag_good fun R hR => ?_
  unfold c_bag_good
  refine cal_i (bgCheck_spec hr hl) ?_
  rintro _ w1 ⟨rfl, hf1⟩
  simp only [fx, Nat.reduceAdd, forall_const]
  rw [cnd_bool]
  refine ⟨fun h => ?_, fun h => ?_⟩
  · have hb : ¬ bagOk V := fun hb => by rw [bagE_ok hb] at h; cases h
    refine hR _ _ ⟨?_, hf1⟩
    rw [goodV, if_neg hb]
    exact ⟨none, 0, rfl, by simp, .inl (by simp)⟩
  · have hb : bagOk V := bagE_zero.1 (by simpa using h)
    refine hR _ _ ⟨?_, hf1⟩
    rw [goodV, if_pos hb]
    exact hr.fr hf1
theorem goodV_ok (V : List Vt) : bagOk (goodV V) := by
  by_cases h : bagOk V
  · rw [goodV, if_pos h]; exact h
  · rw [goodV, if_neg h]
    intro j u hu
    simp at hu
theorem bgTotal_spec (hr : Rows' Q_api_Vote w.heap v V) (hl : V.length ≤ 9223372036854775807) : cal P f_bag_Total [v] w fun r w' => r = .int .i64 (sumV (goodV V)) ∧ Fr [] w w' := by
  refine s_bag_Total fun R hR => ?_
  unfold c_bag_Total
  refine cal_i (bgGood_spec hr hl) ?_
  rintro y w1 ⟨hry, hf1⟩
  have hok := goodV_ok V
  obtain ⟨G, hG⟩ : ∃ G, G = goodV V := ⟨_, rfl⟩
  rw [← hG] at hry hok hR
  have hGl := hok.len
  rw [hry.len]
  refine ⟨fun a b z => ∃ i : Nat, b = .int .i64 i ∧ i ≤ G.length ∧ a = .int .i64 (sumV (G.take i)) ∧ Fr [] w1 z, fun _ b _ => (G.length - RowKit.intOf b).toNat, ⟨0, rfl, by omega, by simp [sumV], Fr.refl _ _⟩, ?_⟩
  rintro _ _ z ⟨i, rfl, hi, rfl, hf⟩ -
  simp only [fx, Nat.reduceAdd, forall_const]
  rw [cnd_bool]
  refine ⟨fun h => ?_, fun h => ?_⟩
  case refine_2 =>
    have hge : i = G.length := by simp at h; omega
    refine hR _ _ ⟨?_, hf1.trans hf (by simp) (by simp)⟩
    rw [hge, List.take_of_length_le (Nat.le_refl _)]
  have hlt : i < G.length := by simp at h; omega
  obtain ⟨a, ha⟩ : ∃ a, G[i]? = some a := ⟨_, List.getElem?_eq_getElem hlt⟩
  change ixs 33 _ _ _
  refine Rows'.ldN (q := Q_api_Vote) (by decide) (hry.fr hf) ha .i64 ?_
  refine alloc_s ((Sep.start w1).old hf) (A_api_Vote z) fun g5 z1 hz1 => ?_
  refine St_api_Vote (b := a) hz1 oneVt fun z2 hz2 => ?_
  simp only [fx, Nat.reduceAdd, forall_const, L_api_Vote hz2.blk, L_api_Vote__ID hz2.blk, L_api_Vote__N hz2.blk]
  have h1 := hok.sum i
  have h2 := hok.sum (i + 1)
  rw [sumV_take ha] at h2
  rw [wi64 (by omega) (by omega), wi64 (by omega) (by omega)]
  exact ⟨⟨i + 1, by simp, by omega, by rw [sumV_take ha], hz2.fr0⟩, by simp [RowKit.intOf] <;> omega⟩
theorem cntV_take {V : List Vt} {k : Vec 32} {i : Nat} {a : Vt} (ha : V[i]? = some a) (hn : ∀ j u, j < i → V[j]? = some u → u.1 ≠ k) (hk : a.1 = k) : cntV V k = a.2 := by
  unfold cntV
  have e : V = V.take i ++ a :: V.drop (i + 1) := by
    have hlt := (List.getElem?_eq_some_iff.1 ha).1
    have h2 : V[i] = a := (List.getElem?_eq_some_iff.1 ha).2
    rw [← h2, List.getElem_cons_drop, List.take_append_drop]
  have h1 : (V.take i).find? (fun v => decide (v.1 = k)) = none := by
    rw [List.find?_eq_none]
    intro x hx
    obtain ⟨j, hj⟩ := List.getElem?_of_mem hx
    rw [List.getElem?_take] at hj
    split at hj
    · rename_i hji
      simpa using hn j x hji hj
    · cases hj
  rw [e, List.find?_append, h1, Option.none_or, List.find?_cons_of_pos (by simpa using hk)]
theorem cntV_none {V : List Vt} {k : Vec 32} (hn : ∀ u ∈ V, u.1 ≠ k) : cntV V k = 0 := by
  unfold cntV
  have h1 : V.find? (fun v => decide (v.1 = k)) = none := by
    rw [List.find?_eq_none]
    intro x hx
    simpa using hn x hx
  rw [h1]
theorem bgCount_spec (hr : Rows' Q_api_Vote w.heap v V) (hl : V.length ≤ 9223372036854775807) (k : Vec 32) : cal P f_bag_Count [v, kv k] w fun r w' => r = .int .i64 (cntV (goodV V) k) ∧ Fr [] w w' := by
  refine s_bag_Count fun R hR => ?_
  unfold c_bag_Count
  refine bxQ (Sep.start w) fun g3 w1 hs1 => ?_
  refine cal_i (bgGood_spec (hr.fr hs1.fr0) hl) ?_
  rintro y w2 ⟨hry, hf2⟩
  have hs2 := hs1.old hf2
  have hc3 := Sep.blk hs2
  have hok := goodV_ok V
  obtain ⟨G, hG⟩ : ∃ G, G = goodV V := ⟨_, rfl⟩
  rw [← hG] at hry hok hR
  have hGl := hok.len
  rw [hry.len]
  refine ⟨fun b z => ∃ i : Nat, b = .int .i64 i ∧ i ≤ G.length ∧ (∀ j u, j < i → G[j]? = some u → u.1 ≠ k) ∧ Fr [] w2 z, fun b _ => (G.length - RowKit.intOf b).toNat, ⟨0, rfl, by omega, fun j u hj => by omega, Fr.refl _ _⟩, ?_⟩
  rintro _ z ⟨i, rfl, hi, hn, hf⟩ -
  simp only [fx, Nat.reduceAdd, forall_const]
  rw [cnd_bool]
  refine ⟨fun h => ?_, fun h => ?_⟩
  case refine_2 =>
    have hge : i = G.length := by simp at h; omega
    refine hR _ _ ⟨?_, (hs2.old hf).fr0⟩
    rw [cntV_none fun u hu => ?_]
    obtain ⟨j, hj⟩ := List.getElem?_of_mem hu
    exact hn j u (by have := (List.getElem?_eq_some_iff.1 hj).1; omega) hj
  have hlt : i < G.length := by simp at h; omega
  obtain ⟨a, ha⟩ : ∃ a, G[i]? = some a := ⟨_, List.getElem?_eq_getElem hlt⟩
  change ixs 33 _ _ _
  refine Rows'.ldN (q := Q_api_Vote) (by decide) (hry.fr hf) ha .i64 ?_
  refine alloc_s ((Sep.start w2).old hf) (A_api_Vote z) fun g5 z1 hz1 => ?_
  have hc3z := fun (u : World) (hu : Fr [] w2 u) => hu.blk hc3 (by simp)
  refine St_api_Vote (b := a) hz1 oneVt fun z2 hz2 => ?_
  simp only [fx, Nat.reduceAdd, forall_const, L_api_Vote hz2.blk, L_api_Vote__ID hz2.blk, L_api_Vote__N hz2.blk, L_api_ID (hc3z _ hz2.fr0), eq_api_ID]
  rw [cnd_bool]
  refine ⟨fun h2 => ?_, fun h2 => ?_⟩
  · exact hR _ _ ⟨by rw [cntV_take ha hn (by simpa using h2)], (hs2.old hz2.fr0).fr0⟩
  · rw [wi64 (by omega) (by omega)]
    refine ⟨⟨i + 1, by simp, by omega, fun j u hj hu => ?_, ?_⟩, by simp [RowKit.intOf] <;> omega⟩
    · by_cases hji : j < i
      · exact hn j u hji hu
      · obtain rfl : j = i := by omega
        rw [ha] at hu
        cases hu
        simpa using h2
    · exact hz2.fr0
end
end Go.Fx
set_option linter.unusedVariables false
set_option linter.unusedSimpArgs false
namespace Go.Fx
/-- A name's children. -/
def kidsT (t : Tr) (N : List TN) (k : Vec 32) : List (Vec 32) := if has t N k = true then nms (N.filter fun x => decide (x.2.1.p = k)) else []
/-- What is under a name: its votes together. -/
def cntT (t : Tr) (N : List TN) (V : List Vt) (k : Vec 32) : Int := (V.map fun v => if under t N v.1 k = true then v.2 else 0).sum
/-- The name with the most. -/
def bestT (f : Vec 32 → Int) (l : List (Vec 32)) : Vec 32 × Int := l.foldl (fun b k => if b.2 < f k ∨ (f k = b.2 ∧ 0 < b.2 ∧ ltV k b.1 = true) then (k, f k) else b) (vz 32, 0)
section
variable {t : Tr} {N : List TN} {m : Nat}
theorem nms_has {k : Vec 32} (hw : TrW t N) : k ∈ nms N ↔ has t N k = true ∧ k ≠ t.root := by
  constructor
  · intro h
    have hb : ∃ b, blkOf k N = some b := by
      obtain ⟨x, hx, rfl⟩ := List.mem_map.1 h
      unfold blkOf nodeOf
      cases hf : N.find? (fun y => decide (x.1 = y.1)) with
      | some y => exact ⟨y.2.1, rfl⟩
      | none => rw [List.find?_eq_none] at hf; have := hf x hx; simp at this
    obtain ⟨b, hb⟩ := hb
    exact ⟨blk_has hb, blk_nroot hw hb⟩
  · rintro ⟨h, hr⟩
    exact (has_mem h).resolve_left hr
theorem kid_iff (hw : TrW t N) (hn : (nms N).Nodup) {k a : Vec 32} : a ∈ kidsT t N k ↔ has t N k = true ∧ has t N a = true ∧ a ≠ t.root ∧ upOf a N = k := by
  unfold kidsT
  split
  · rename_i hk
    rw [← kid_names hn, List.mem_filter, nms_has hw]
    simp only [decide_eq_true_eq, hk, true_and]
    exact ⟨fun h => ⟨h.1.1, h.1.2, h.2⟩, fun h => ⟨⟨h.1, h.2.1⟩, h.2.2⟩⟩
  · rename_i hk
    simp only [List.not_mem_nil, false_iff]
    exact fun h => hk h.1
theorem kids_nodup (hn : (nms N).Nodup) (k : Vec 32) : (kidsT t N k).Nodup := by
  unfold kidsT
  split
  · exact hn.sublist (List.filter_sublist.map _)
  · exact List.nodup_nil
theorem under_has {a b : Vec 32} (h : under t N a b = true) : has t N a = true ∧ has t N b = true := by
  unfold under at h
  simp only [Bool.and_eq_true] at h
  exact ⟨h.1, h.2.1⟩
theorem has_root : has t N t.root = true := mem_has (.inl rfl)
theorem under_root (b : Vec 32) : under t N t.root b = decide (b = t.root) := by
  by_cases hb : has t N b = true
  · rw [under_path has_root hb, path_root]
    simp
  · have h1 : under t N t.root b = false := by
      cases h : under t N t.root b with
      | false => rfl
      | true => exact absurd (under_has h).2 hb
    rw [h1]
    symm
    exact decide_eq_false fun he => hb (he ▸ has_root)
theorem under_step (hw : TrW t N) {a b : Vec 32} (ha : has t N a = true) (hr : a ≠ t.root) : under t N a b = (decide (a = b) || under t N (upOf a N) b) := by
  have hu := (up_has hw ha hr).1
  by_cases hb : has t N b = true
  · rw [under_path ha hb, under_path hu hb, path_step hw ha hr]
    by_cases h1 : b = t.root <;> by_cases h2 : b ∈ pathOf t N (upOf a N) <;> by_cases h3 : a = b <;> simp [h1, h2, h3, eq_comm]
  · have h1 : ∀ c, under t N c b = false := fun c => by
      cases h : under t N c b with
      | false => rfl
      | true => exact absurd (under_has h).2 hb
    rw [h1, h1, Bool.or_false]
    symm
    exact decide_eq_false fun he => hb (he ▸ ha)
theorem under_self (hw : TrW t N) {a : Vec 32} (ha : has t N a = true) : under t N a a = true := by
  by_cases hr : a = t.root
  · subst hr; rw [under_root]; simp
  · rw [under_step hw ha hr]; simp
theorem under_hgt (hw : TrW t N) {a b : Vec 32} (h : under t N a b = true) : a = b ∨ hgt t N b < hgt t N a := by
  have ha := (under_has h).1
  revert h
  refine path_ind hw (C := fun a => under t N a b = true → a = b ∨ hgt t N b < hgt t N a) (fun h => ?_) (fun a ha hr ih h => ?_) a ha
  · rw [under_root] at h
    exact .inl (of_decide_eq_true h).symm
  · rw [under_step hw ha hr] at h
    simp only [Bool.or_eq_true, decide_eq_true_eq] at h
    have h2 := (up_has hw ha hr).2
    rcases h with h | h
    · exact .inl h
    · right
      rcases ih h with h | h
      · rw [h] at h2; omega
      · omega
theorem under_trans (hw : TrW t N) {a k c : Vec 32} (h : under t N a k = true) (h2 : under t N k c = true) : under t N a c = true := by
  have ha := (under_has h).1
  revert h
  refine path_ind hw (C := fun a => under t N a k = true → under t N a c = true) (fun h => ?_) (fun a ha hr ih h => ?_) a ha
  · rw [under_root] at h
    have : k = t.root := by simpa using h
    rw [← this]; exact h2
  · rw [under_step hw ha hr] at h ⊢
    simp only [Bool.or_eq_true, decide_eq_true_eq] at h ⊢
    rcases h with h | h
    · subst h
      rw [under_step hw ha hr] at h2
      simpa using h2
    · exact .inr (ih h)
theorem kid_hgt (hw : TrW t N) (hn : (nms N).Nodup) {k a : Vec 32} (h : a ∈ kidsT t N k) : hgt t N a = hgt t N k + 1 := by
  obtain ⟨_, h2, h3, h4⟩ := (kid_iff hw hn).1 h
  rw [(up_has hw h2 h3).2, h4]
/-- Sums. -/
theorem sum_zero {α : Type} (l : List α) (f : α → Int) (h : ∀ x ∈ l, f x = 0) : (l.map f).sum = 0 := by
  induction l with
  | nil => rfl
  | cons a l ih =>
    rw [List.map_cons, List.sum_cons, h a (by simp), ih fun x hx => h x (by simp [hx])]
    rfl
theorem sum_congr {α : Type} (l : List α) (f g : α → Int) (h : ∀ x ∈ l, f x = g x) : (l.map f).sum = (l.map g).sum := by
  induction l with
  | nil => rfl
  | cons a l ih => rw [List.map_cons, List.map_cons, List.sum_cons, List.sum_cons, h a (by simp), ih fun x hx => h x (by simp [hx])]
theorem sum_add {α : Type} (l : List α) (f g : α → Int) : (l.map fun x => f x + g x).sum = (l.map f).sum + (l.map g).sum := by
  induction l with
  | nil => rfl
  | cons a l ih => rw [List.map_cons, List.map_cons, List.map_cons, List.sum_cons, List.sum_cons, List.sum_cons, ih]; omega
theorem sum_mul {α : Type} (l : List α) (c : Int) (f : α → Int) : (l.map fun x => c * f x).sum = c * (l.map f).sum := by
  induction l with
  | nil => simp
  | cons a l ih => rw [List.map_cons, List.map_cons, List.sum_cons, List.sum_cons, ih, Int.mul_add]
theorem sum_swap {α β : Type} (l : List α) (r : List β) (f : α → β → Int) : (l.map fun x => (r.map fun y => f x y).sum).sum = (r.map fun y => (l.map fun x => f x y).sum).sum := by
  induction l with
  | nil => simp only [List.map_nil, List.sum_nil]; exact (sum_zero r _ fun _ _ => rfl).symm
  | cons a l ih =>
    simp only [List.map_cons, List.sum_cons]
    rw [ih, sum_add]
theorem sum_le {α : Type} (l : List α) (f g : α → Int) (h : ∀ x ∈ l, f x ≤ g x) : (l.map f).sum ≤ (l.map g).sum := by
  induction l with
  | nil => simp
  | cons a l ih =>
    simp only [List.map_cons, List.sum_cons]
    have := h a (by simp)
    have := ih fun x hx => h x (by simp [hx])
    omega
theorem sum_one {α : Type} [DecidableEq α] {l : List α} (hn : l.Nodup) {a : α} (h : a ∈ l) (c : Int) : (l.map fun x => if a = x then c else 0).sum = c := by
  induction l with
  | nil => cases h
  | cons b l ih =>
    rw [List.nodup_cons] at hn
    simp only [List.map_cons, List.sum_cons]
    by_cases hab : a = b
    · subst hab
      rw [if_pos rfl, sum_zero l (fun x => if a = x then c else 0) fun x hx => if_neg fun he : a = x => hn.1 (he ▸ hx)]
      omega
    · rw [if_neg hab, ih hn.2 ((List.mem_cons.1 h).resolve_left hab)]
      omega
def b01 (b : Bool) : Int := bif b then 1 else 0
/-- One vote counts for a name if it is for it, or counts for one of its children. -/
theorem under_kids (hw : TrW t N) (hn : (nms N).Nodup) {k a : Vec 32} (hk : has t N k = true) : b01 (under t N a k) = b01 (decide (a = k)) + ((kidsT t N k).map fun x => b01 (under t N a x)).sum := by
  by_cases ha : has t N a = true
  case neg =>
    have h1 : ∀ c, under t N a c = false := fun c => by
      cases h : under t N a c with
      | false => rfl
      | true => exact absurd (under_has h).1 ha
    have h2 : decide (a = k) = false := decide_eq_false fun he => ha (he ▸ hk)
    rw [h1, h2, sum_zero _ _ fun x _ => by rw [h1]; rfl]
    rfl
  refine path_ind hw (C := fun a => b01 (under t N a k) = b01 (decide (a = k)) + ((kidsT t N k).map fun x => b01 (under t N a x)).sum) ?_ (fun a ha hr ih => ?_) a ha
  · rw [under_root, sum_zero _ _ fun x hx => by
      rw [under_root, decide_eq_false ((kid_iff hw hn).1 hx).2.2.1]
      rfl]
    by_cases h : k = t.root
    · subst h; simp [b01]
    · simp [h, Ne.symm h]
  · have hz : ∀ x ∈ kidsT t N k, under t N k x = false := fun x hx => by
      cases h : under t N k x with
      | false => rfl
      | true =>
        have h1 := kid_hgt hw hn hx
        rcases under_hgt hw h with h | h
        · subst h; omega
        · omega
    by_cases he : a = k
    · subst he
      rw [under_self hw ha, sum_zero _ _ fun x hx => by rw [hz x hx]; rfl, decide_eq_true rfl]
      rfl
    · rw [under_step hw ha hr, decide_eq_false he, Bool.false_or, ih]
      by_cases hu : upOf a N = k
      · have hak : a ∈ kidsT t N k := (kid_iff hw hn).2 ⟨hk, ha, hr, hu⟩
        rw [hu, sum_zero (kidsT t N k) (fun x => b01 (under t N k x)) fun x hx => by rw [hz x hx]; rfl, decide_eq_true rfl]
        have e : ∀ x ∈ kidsT t N k, b01 (under t N a x) = if a = x then 1 else 0 := fun x hx => by
          rw [under_step hw ha hr, hu, hz x hx, Bool.or_false]
          by_cases hx : a = x <;> simp [hx, b01]
        rw [sum_congr _ _ _ e, sum_one (kids_nodup hn k) hak]
        rfl
      · have e : ∀ x ∈ kidsT t N k, b01 (under t N a x) = b01 (under t N (upOf a N) x) := fun x hx => by
          have hax : decide (a = x) = false := decide_eq_false fun h => hu (h ▸ ((kid_iff hw hn).1 hx).2.2.2)
          rw [under_step hw ha hr, hax, Bool.false_or]
        rw [sum_congr _ _ _ e, decide_eq_false hu]
/-- Names in a bag that may be are unlike. -/
theorem bag_lt {V : List Vt} (h : bagOk V) {i j : Nat} {u v : Vt} (hu : V[i]? = some u) (hv : V[j]? = some v) (hij : i < j) : ofBe u.1.1 < ofBe v.1.1 := by
  have key : ∀ d i (u v : Vt), V[i]? = some u → V[i + 1 + d]? = some v → ofBe u.1.1 < ofBe v.1.1 := fun d => by
    induction d with
    | zero =>
      intro i u v hu hv
      have := (h (i + 1) v hv).1 u (by omega) hu
      simpa [ltV] using this
    | succ d ih =>
      intro i u v hu hv
      obtain ⟨x, hx⟩ : ∃ x, V[i + 1 + d]? = some x := ⟨_, List.getElem?_eq_getElem (by have := (List.getElem?_eq_some_iff.1 hv).1; omega)⟩
      have h1 := ih i u x hu hx
      have h2 := (h (i + 1 + (d + 1)) v hv).1 x (by omega) (by rw [show i + 1 + (d + 1) - 1 = i + 1 + d by omega]; exact hx)
      have h2 : ofBe x.1.1 < ofBe v.1.1 := by simpa [ltV] using h2
      omega
  exact key (j - i - 1) i u v hu (by rw [show i + 1 + (j - i - 1) = j by omega]; exact hv)
theorem bag_one {V : List Vt} (h : bagOk V) {i j : Nat} {u v : Vt} (hu : V[i]? = some u) (hv : V[j]? = some v) (he : u.1 = v.1) : i = j := by
  rcases Nat.lt_trichotomy i j with hl | hl | hl
  · have := bag_lt h hu hv hl; rw [he] at this; omega
  · exact hl
  · have := bag_lt h hv hu hl; rw [he] at this; omega
theorem cntV_sum {V : List Vt} (h : bagOk V) (k : Vec 32) : cntV V k = (V.map fun v => v.2 * b01 (decide (v.1 = k))).sum := by
  have hp : V.Pairwise fun u v => u.1 ≠ v.1 := by
    rw [List.pairwise_iff_getElem]
    intro i j hi hj hij he
    have := bag_one h (List.getElem?_eq_getElem hi) (List.getElem?_eq_getElem hj) he
    omega
  clear h
  induction V with
  | nil => rfl
  | cons v V ih =>
    rw [List.pairwise_cons] at hp
    simp only [List.map_cons, List.sum_cons]
    unfold cntV
    by_cases hk : v.1 = k
    · rw [List.find?_cons_of_pos (by simpa using hk), sum_zero V _ fun u hu => by
        rw [decide_eq_false fun he => hp.1 u hu (hk.trans he.symm)]
        simp [b01]]
      simp [hk, b01]
    · rw [List.find?_cons_of_neg (by simpa using hk), decide_eq_false hk]
      have := ih hp.2
      unfold cntV at this
      rw [this]
      simp [b01]
theorem if_b01 (b : Bool) (c : Int) : (if b = true then c else 0) = c * b01 b := by cases b <;> simp [b01]
/-- A name's count is its own votes and its children's counts. -/
theorem cnt_rec (hw : TrW t N) (hn : (nms N).Nodup) {V : List Vt} (h : bagOk V) {k : Vec 32} (hk : has t N k = true) : cntT t N V k = cntV V k + ((kidsT t N k).map (cntT t N V)).sum := by
  unfold cntT
  rw [cntV_sum h]
  have e : ∀ v ∈ V, (if under t N v.1 k = true then v.2 else 0) = v.2 * b01 (decide (v.1 = k)) + ((kidsT t N k).map fun x => if under t N v.1 x = true then v.2 else 0).sum := fun v _ => by
    rw [if_b01, under_kids hw hn hk, Int.mul_add, ← sum_mul]
    congr 1
    exact sum_congr _ _ _ fun x _ => (if_b01 _ _).symm
  rw [sum_congr _ _ _ e, sum_add, sum_swap]
theorem cnt_bounds {V : List Vt} (h : bagOk V) (k : Vec 32) : 0 ≤ cntT t N V k ∧ cntT t N V k ≤ sumV V := by
  have hp := h.pos
  constructor
  · have := sum_le V (fun _ => (0 : Int)) (fun v => if under t N v.1 k = true then v.2 else 0) fun v hv => by
      have := hp v hv
      show (0 : Int) ≤ if under t N v.1 k = true then v.2 else 0
      split <;> omega
    rw [sum_zero V (fun _ => (0 : Int)) fun _ _ => rfl] at this
    exact this
  · exact sum_le V _ _ fun v hv => by
      have := hp v hv
      show (if under t N v.1 k = true then v.2 else 0) ≤ v.2
      split <;> omega
end
/-- What is true of the best. -/
theorem best_ok (f : Vec 32 → Int) (l : List (Vec 32)) : 0 ≤ (bestT f l).2 ∧ (0 < (bestT f l).2 → (bestT f l).1 ∈ l ∧ f (bestT f l).1 = (bestT f l).2) ∧ ∀ k ∈ l, f k ≤ (bestT f l).2 := by
  have key : ∀ (l r : List (Vec 32)) (b : Vec 32 × Int), (0 ≤ b.2 ∧ (0 < b.2 → b.1 ∈ r ∧ f b.1 = b.2) ∧ ∀ k ∈ r, f k ≤ b.2) →
      (fun b : Vec 32 × Int => 0 ≤ b.2 ∧ (0 < b.2 → b.1 ∈ r ++ l ∧ f b.1 = b.2) ∧ ∀ k ∈ r ++ l, f k ≤ b.2) (l.foldl (fun b k => if b.2 < f k ∨ (f k = b.2 ∧ 0 < b.2 ∧ ltV k b.1 = true) then (k, f k) else b) b) := by
    intro l
    induction l with
    | nil => intro r b h; simpa using h
    | cons a l ih =>
      intro r b h
      rw [List.foldl_cons]
      have := ih (r ++ [a]) (if b.2 < f a ∨ (f a = b.2 ∧ 0 < b.2 ∧ ltV a b.1 = true) then (a, f a) else b) ?_
      · simpa only [List.append_assoc, List.singleton_append] using this
      · obtain ⟨h1, h2, h3⟩ := h
        split
        · rename_i hc
          refine ⟨by show 0 ≤ f a; omega, fun _ => ⟨by simp, rfl⟩, fun k hk => ?_⟩
          show f k ≤ f a
          rcases List.mem_append.1 hk with hk | hk
          · have := h3 k hk; omega
          · obtain rfl : k = a := by simpa using hk
            exact Int.le_refl _
        · rename_i hc
          refine ⟨h1, fun h0 => ⟨by simp [(h2 h0).1], (h2 h0).2⟩, fun k hk => ?_⟩
          rcases List.mem_append.1 hk with hk | hk
          · exact h3 k hk
          · obtain rfl : k = a := by simpa using hk
            omega
  have := key l [] (vz 32, 0) ⟨Int.le_refl _, fun h => absurd h (by decide), fun k hk => by cases hk⟩
  simp only [List.nil_append] at this
  exact this
/-! ### A move -/
section
variable {t : Tr} {N : List TN} {m : Nat} {k : Vec 32}
theorem mv_has_iff (hw : TrW t N) (hk : mvOk t N k = true) (a : Vec 32) : has (mvT t N k) (mvN t N k) a = under t N a k := by
  obtain ⟨hkb, hkp⟩ := mvOk_spec hk
  have hkh : has t N k = true := blk_has hkb
  by_cases ha : a = k
  · subst ha
    rw [under_self hw hkh]
    exact mem_has (.inl rfl)
  · have hd : decide (a = (mvT t N k).root) = false := decide_eq_false ha
    unfold has
    rw [hd, Bool.false_or, mv_blk]
    cases hu : under t N a k with
    | false => rw [if_neg fun h => by cases h.2]; rfl
    | true =>
      rw [if_pos ⟨ha, rfl⟩]
      have har : a ≠ t.root := fun he => by
        rw [he, under_root] at hu
        exact blk_nroot hw hkb (by simpa using hu)
      rw [has_blk (under_has hu).1 har]
      rfl
theorem mv_upOf (hw : TrW t N) {a : Vec 32} (ha : a ≠ k) (hu : under t N a k = true) : upOf a (mvN t N k) = upOf a N := by
  unfold upOf
  rw [mvN_eq, nb_filter (fun y => !decide (y = k) && under t N y k) a N (by simp [ha, hu])]
theorem mv_kids (hw : TrW t N) (hn : (nms N).Nodup) (hk : mvOk t N k = true) {c : Vec 32} (hc : under t N c k = true) : kidsT (mvT t N k) (mvN t N k) c = kidsT t N c := by
  obtain ⟨hkb, hkp⟩ := mvOk_spec hk
  have hkr := blk_nroot hw hkb
  have hkh : has t N k = true := blk_has hkb
  unfold kidsT
  rw [if_pos (by rw [mv_has_iff hw hk]; exact hc), if_pos (under_has hc).1]
  congr 1
  unfold mvN
  rw [List.filter_filter]
  refine List.filter_congr fun x hx => ?_
  by_cases hp : x.2.1.p = c
  · have h1 : x.1 ∈ kidsT t N c := by
      unfold kidsT
      rw [if_pos (under_has hc).1]
      exact List.mem_map_of_mem (List.mem_filter.2 ⟨hx, by simpa using hp⟩)
    obtain ⟨_, h2, h3, h4⟩ := (kid_iff hw hn).1 h1
    have h5 : x.1 ≠ k := fun he => by
      rw [he, hkp] at h4
      rw [← h4, under_root] at hc
      exact hkr (by simpa using hc)
    have h6 : under t N x.1 k = true := by
      rw [under_step hw h2 h3, h4, hc]
      simp
    simp [hp, h5, h6]
  · simp [hp]
theorem mv_under (hi : TM t N m) (hk : mvOk t N k = true) {a b : Vec 32} (hb : under t N b k = true) : under (mvT t N k) (mvN t N k) a b = under t N a b := by
  have hw := hi.w
  have hw' := (hi.move hk).w
  obtain ⟨hkb, hkp⟩ := mvOk_spec hk
  have hkr := blk_nroot hw hkb
  have hkh : has t N k = true := blk_has hkb
  by_cases ha : has (mvT t N k) (mvN t N k) a = true
  · refine path_ind hw' (C := fun a => under (mvT t N k) (mvN t N k) a b = under t N a b) ?_ (fun a ha hr ih => ?_) a ha
    · rw [under_root]
      show decide (b = k) = under t N k b
      by_cases hbk : b = k
      · subst hbk; rw [under_self hw hkh]; simp
      · rw [decide_eq_false hbk]
        symm
        cases h : under t N k b with
        | false => rfl
        | true =>
          have h1 := (under_hgt hw h).resolve_left (Ne.symm hbk)
          have h2 := (under_hgt hw hb).resolve_left hbk
          omega
    · have hr : a ≠ k := hr
      have hu : under t N a k = true := by rw [← mv_has_iff hw hk]; exact ha
      have har : a ≠ t.root := fun he => by
        rw [he, under_root] at hu
        exact hkr (by simpa using hu)
      rw [under_step hw' ha (show a ≠ (mvT t N k).root from hr), under_step hw (under_has hu).1 har, ih, mv_upOf hw hr hu]
  · have h1 : under (mvT t N k) (mvN t N k) a b = false := by
      cases h : under (mvT t N k) (mvN t N k) a b with
      | false => rfl
      | true => exact absurd (under_has h).1 ha
    rw [h1]
    symm
    cases h : under t N a b with
    | false => rfl
    | true =>
      exfalso
      apply ha
      rw [mv_has_iff hw hk]
      exact under_trans hw h hb
theorem mv_cnt (hi : TM t N m) (hk : mvOk t N k = true) (V : List Vt) {b : Vec 32} (hb : under t N b k = true) : cntT (mvT t N k) (mvN t N k) V b = cntT t N V b := by
  unfold cntT
  exact sum_congr _ _ _ fun v _ => by rw [mv_under hi hk hb]
theorem mv_len (hw : TrW t N) (hk : mvOk t N k = true) : (mvN t N k).length < N.length := by
  obtain ⟨hkb, _⟩ := mvOk_spec hk
  have hm : k ∈ nms N := (nms_has hw).2 ⟨blk_has hkb, blk_nroot hw hkb⟩
  obtain ⟨x, hx, rfl⟩ := List.mem_map.1 hm
  unfold mvN
  rcases Nat.lt_or_ge (N.filter fun y => !decide (y.1 = x.1) && under t N y.1 x.1).length N.length with h | h
  · exact h
  · have he := List.length_filter_le (fun y : TN => !decide (y.1 = x.1) && under t N y.1 x.1) N
    have := (List.filter_eq_self.1 ((List.filter_sublist (l := N) (p := fun y : TN => !decide (y.1 = x.1) && under t N y.1 x.1)).eq_of_length_le h)) x hx
    simp at this
end
end Go.Fx
set_option linter.unusedVariables false
set_option linter.unusedSimpArgs false
namespace Go.Fx
/-- Blocks without where they stand. -/
def sN (N : List TN) : List TN := N.map fun x => (x.1, x.2.1, undef, 0)
theorem sN_kbs (N : List TN) : kbs (sN N) = kbs N := by
  unfold sN kbs
  rw [List.map_map]
  rfl
theorem sN_mv (t : Tr) (N : List TN) (k : Vec 32) : mvN t (sN N) k = sN (mvN t N k) := by
  unfold mvN
  rw [show (fun x : TN => !decide (x.1 = k) && under t (sN N) x.1 k) = fun x => !decide (x.1 = k) && under t N x.1 k from funext fun x => by rw [kb_under (sN_kbs N)]]
  unfold sN
  rw [List.filter_map]
  rfl
theorem kb_mvT {t : Tr} {N M : List TN} (h : kbs N = kbs M) (k : Vec 32) : mvT t N k = mvT t M k := by unfold mvT; rw [kb_nb h]
theorem kb_mvGone {t : Tr} {N M : List TN} (h : kbs N = kbs M) (k : Vec 32) : mvGone t N k = mvGone t M k := by
  unfold mvGone
  rw [show N.map (·.1) = M.map (·.1) from kb_nms h]
  exact List.filter_congr fun x _ => by rw [kb_under h]
theorem kb_mvOk {t : Tr} {N M : List TN} (h : kbs N = kbs M) (k : Vec 32) : mvOk t N k = mvOk t M k := by unfold mvOk; rw [kb_blk h, kb_nb h]
theorem kb_kidsT {t : Tr} {N M : List TN} (h : kbs N = kbs M) (k : Vec 32) : kidsT t N k = kidsT t M k := by unfold kidsT; rw [kb_has h, kb_kids h]
theorem kb_cntT {t : Tr} {N M : List TN} (h : kbs N = kbs M) (V : List Vt) (k : Vec 32) : cntT t N V k = cntT t M V k := by
  unfold cntT
  exact sum_congr _ _ _ fun v _ => by rw [kb_under h]
abbrev SM := Vec 32 → Option Sn
def updS (S : SM) (k : Vec 32) (x : Sn) : SM := fun k' => if k' = k then some x else S k'
/-- A poll under way. -/
structure PS where
  t : Tr
  N : List TN
  S : SM
  pos : Vec 32
  acc : List (Vec 32)
  rej : List (Vec 32)
  pol : List (Vec 32)
abbrev PS.best (V : List Vt) (s : PS) : Vec 32 × Int := bestT (cntT s.t s.N V) (kidsT s.t s.N s.pos)
abbrev PS.moved (s : PS) (k : Vec 32) : PS := { s with t := mvT s.t s.N k, N := mvN s.t s.N k, pos := k, acc := s.acc ++ [k], rej := s.rej ++ mvGone s.t s.N k }
abbrev PS.polled (s : PS) (y : Sn) (k : Vec 32) : PS := { s with S := updS s.S s.pos y, pol := s.pos :: s.pol, pos := if s.pos ≠ s.t.root ∨ y.dn = false then k else s.pos }
/-- One step. -/
noncomputable def pstep (p : Par) (V : List Vt) (s : PS) : Option PS :=
  match s.S s.pos with
  | none => none
  | some x =>
    if s.pos = s.t.root ∧ x.dn = true then some (s.moved (prf x))
    else if (s.best V).2 < p.2.1 then none
    else some (s.polled (pollM p x (s.best V).1 (s.best V).2).1 (s.best V).1)
/-- What stays true. -/
structure PI (p : Par) (m : Nat) (s : PS) : Prop where
  tm : TM s.t s.N m
  par : parE p = 0
  may : ∀ k x, s.S k = some x → May p x
  no : ∀ k, has s.t s.N k = true → s.S k = none → kidsT s.t s.N k = []
  kids : ∀ k x, has s.t s.N k = true → s.S k = some x → x.l.map (·.1) = kidsT s.t s.N k
  pos : has s.t s.N s.pos = true
theorem may_prf {p : Par} {x : Sn} (h : May p x) : prf x ∈ x.l.map (·.1) := by
  have key : ∀ id, 0 ≤ plc x.l id → id ∈ x.l.map (·.1) := fun id hid => by
    obtain ⟨i, c, _, hc, rfl, _⟩ := plc_pos hid
    exact List.mem_map_of_mem (List.mem_of_getElem? hc)
  unfold prf
  cases x.dn with
  | true => exact key _ h.flake
  | false => exact key _ h.pref
theorem mem_plc {l : List Cho} {id : Id} (h : id ∈ l.map (·.1)) : 0 ≤ plc l id ∧ ∃ i c, plc l id = ((i : Nat) : Int) ∧ l[i]? = some c ∧ c.1 = id := by
  obtain ⟨c, hc, rfl⟩ := List.mem_map.1 h
  obtain ⟨i, hi⟩ := List.getElem?_of_mem hc
  have h0 := plc_mem hi
  obtain ⟨j, d, h1, h2, h3, _⟩ := plc_pos h0
  exact ⟨h0, j, d, h1, h2, h3⟩
/-- A poll of one of its choices. -/
theorem poll_may {p : Par} {x : Sn} {id : Id} {n : Int} (h : May p x) (hid : id ∈ x.l.map (·.1)) (h0 : 0 ≤ n) (hn : n ≤ p.1) :
    (pollM p x id n).2 = 0 ∧ May p (pollM p x id n).1 ∧ (pollM p x id n).1.l.map (·.1) = x.l.map (·.1) ∧ (x.dn = true → (pollM p x id n).1 = x) ∧ (id = prf x → prf (pollM p x id n).1 = prf x) := by
  obtain ⟨hp0, i, c, hi, hc, rfl⟩ := mem_plc hid
  refine ⟨pollM_ok (may_iff.2 h) h0 hn hp0, ?_⟩
  rcases poll_cases h hc h0 hn with ⟨hd, he⟩ | ⟨hd, _, he⟩ | ⟨hd, _, he⟩
  · rw [he]; exact ⟨h, rfl, fun _ => rfl, fun _ => rfl⟩
  · obtain ⟨h1, h2, h3, _⟩ := fail_may h
    rw [he]
    exact ⟨h1, by rw [h2], fun h => (by rw [hd] at h; cases h), fun _ => h3⟩
  · obtain ⟨h1, h2, h3, h4⟩ := up_may h hc hd he
    refine ⟨h1, ?_, fun h => (by rw [hd] at h; cases h), fun hpf => ?_⟩
    · rw [h2, List.map_set]
      refine List.ext_getElem? fun j => ?_
      rw [List.getElem?_set]
      split
      · rename_i hj
        subst hj
        have hlt := (List.getElem?_eq_some_iff.1 hc).1
        have hcc : x.l[i] = c := (List.getElem?_eq_some_iff.1 hc).2
        simp [hlt, hcc]
      · rfl
    · have hpx : prf x = x.pref := by unfold prf; rw [hd]; rfl
      rw [hpx] at hpf ⊢
      unfold prf
      cases hdd : (pollM p x c.1 n).1.dn with
      | true => show (pollM p x c.1 n).1.flake = _; rw [h3, hpf]
      | false =>
        show (pollM p x c.1 n).1.pref = _
        rcases h4 with h4 | ⟨h4, _⟩
        · exact h4
        · rw [h4, hpf]
/-- How many steps there may still be, at most. -/
noncomputable def muP (m : Nat) (s : PS) : Nat :=
  s.N.length * (2 * m + 4) + 2 * (m - hgt s.t s.N s.pos) + (if s.pos = s.t.root ∧ ∃ x, s.S s.pos = some x ∧ x.dn = false then 1 else 0)
section
variable {p : Par} {V : List Vt} {m : Nat} {s s' : PS}
theorem PI.root_x {x : Sn} (h : PI p m s) (hr : s.pos = s.t.root) (hx : s.S s.pos = some x) : mvOk s.t s.N (prf x) = true ∧ blkOf (prf x) s.N = some (nb (prf x) s.N).1 ∧ upOf (prf x) s.N = s.t.root := by
  have h1 := may_prf (h.may _ _ hx)
  rw [h.kids _ _ h.pos hx, kid_iff h.tm.w h.tm.nd] at h1
  obtain ⟨_, h2, h3, h4⟩ := h1
  have hb := has_blk h2 h3
  refine ⟨?_, hb, h4.trans hr⟩
  unfold mvOk
  rw [hb, decide_eq_true (show (nb (prf x) s.N).1.p = s.t.root from h4.trans hr)]
  rfl
theorem PI.best_in {x : Sn} (h : PI p m s) (hV : bagOk V) (hs : sumV V ≤ p.1) (hx : s.S s.pos = some x) (hb : ¬ (s.best V).2 < p.2.1) :
    (s.best V).1 ∈ kidsT s.t s.N s.pos ∧ cntT s.t s.N V (s.best V).1 = (s.best V).2 ∧ 0 ≤ (s.best V).2 ∧ (s.best V).2 ≤ p.1 ∧ (s.best V).1 ∈ x.l.map (·.1) := by
  obtain ⟨h1, h2, h3⟩ := best_ok (cntT s.t s.N V) (kidsT s.t s.N s.pos)
  obtain ⟨q1, q2, q3, _⟩ := parE_zero h.par
  have h0 : 0 < (s.best V).2 := by show 0 < (bestT _ _).2; have : ¬ (bestT (cntT s.t s.N V) (kidsT s.t s.N s.pos)).2 < p.2.1 := hb; omega
  obtain ⟨h4, h5⟩ := h2 h0
  have h6 := (cnt_bounds (t := s.t) (N := s.N) hV (s.best V).1).2
  refine ⟨h4, h5, h1, ?_, by rw [h.kids _ _ h.pos hx]; exact h4⟩
  have : cntT s.t s.N V (s.best V).1 = (s.best V).2 := h5
  omega
theorem pstep_ok (h : PI p m s) (hV : bagOk V) (hs : sumV V ≤ p.1) (he : pstep p V s = some s') : PI p m s' ∧ muP m s' < muP m s := by
  unfold pstep at he
  cases hx : s.S s.pos with
  | none => rw [hx] at he; cases he
  | some x =>
    rw [hx] at he
    simp only at he
    split at he
    · rename_i hc
      obtain ⟨hr, hd⟩ := hc
      obtain ⟨hk, hkb, hkp⟩ := h.root_x hr hx
      simp only [Option.some.injEq] at he
      subst he
      have hw := h.tm.w
      refine ⟨⟨h.tm.move hk, h.par, h.may, fun k hh hn => ?_, fun k y hh hy => ?_, mem_has (.inl rfl)⟩, ?_⟩
      · have hu : under s.t s.N k (prf x) = true := by rw [← mv_has_iff hw hk]; exact hh
        show kidsT (mvT s.t s.N (prf x)) (mvN s.t s.N (prf x)) k = []
        rw [mv_kids hw h.tm.nd hk hu]
        exact h.no k (under_has hu).1 hn
      · have hu : under s.t s.N k (prf x) = true := by rw [← mv_has_iff hw hk]; exact hh
        show _ = kidsT (mvT s.t s.N (prf x)) (mvN s.t s.N (prf x)) k
        rw [mv_kids hw h.tm.nd hk hu]
        exact h.kids k y (under_has hu).1 hy
      · have hl := mv_len hw hk
        unfold muP
        show (mvN s.t s.N (prf x)).length * (2 * m + 4) + 2 * (m - hgt (mvT s.t s.N (prf x)) (mvN s.t s.N (prf x)) (prf x)) + _ < _
        have h2 : ((mvN s.t s.N (prf x)).length + 1) * (2 * m + 4) ≤ s.N.length * (2 * m + 4) := Nat.mul_le_mul_right _ hl
        rw [Nat.add_mul, Nat.one_mul] at h2
        split <;> omega
    · rename_i hc
      split at he
      · cases he
      · rename_i hb
        simp only [Option.some.injEq] at he
        obtain ⟨h1, h2, h3, h4, h5⟩ := h.best_in hV hs hx hb
        obtain ⟨e1, e2, e3, e4, _⟩ := poll_may (h.may _ _ hx) h5 h3 h4
        obtain ⟨k1, k2, k3, k4⟩ := (kid_iff h.tm.w h.tm.nd).1 h1
        generalize hy : (pollM p x (s.best V).1 (s.best V).2).1 = y at *
        have hkh := kid_hgt h.tm.w h.tm.nd h1
        generalize hkk : (s.best V).1 = kk at *
        subst he
        have hS : ∀ k z, updS s.S s.pos y k = some z → (k = s.pos ∧ z = y) ∨ (k ≠ s.pos ∧ s.S k = some z) := fun k z hz => by
          unfold updS at hz
          split at hz
          · rename_i hk
            exact .inl ⟨hk, (by simpa using hz.symm)⟩
          · rename_i hk
            exact .inr ⟨hk, hz⟩
        refine ⟨⟨h.tm, h.par, fun k z hz => ?_, fun k hh hn => ?_, fun k z hh hz => ?_, ?_⟩, ?_⟩
        · rcases hS k z hz with ⟨_, rfl⟩ | ⟨_, hz⟩
          · exact e2
          · exact h.may k z hz
        · have hn : updS s.S s.pos y k = none := hn
          unfold updS at hn
          split at hn
          · cases hn
          · exact h.no k hh hn
        · rcases hS k z hz with ⟨rfl, rfl⟩ | ⟨_, hz⟩
          · rw [e3]; exact h.kids _ _ h.pos hx
          · exact h.kids k z hh hz
        · show has s.t s.N (if s.pos ≠ s.t.root ∨ y.dn = false then kk else s.pos) = true
          split
          · exact k2
          · exact h.pos
        · have hm := h.tm.hb kk k2
          have eN : (s.polled y kk).N = s.N := rfl
          unfold muP
          rw [eN]
          by_cases hq : s.pos ≠ s.t.root ∨ y.dn = false
          · show _ * _ + 2 * (m - hgt s.t s.N (if s.pos ≠ s.t.root ∨ y.dn = false then kk else s.pos)) + _ < _
            rw [if_pos hq]
            split <;> split <;> omega
          · have hr : s.pos = s.t.root := Classical.not_not.1 fun hh => hq (.inl hh)
            have hyd : y.dn = true := by
              cases hd : y.dn with
              | true => rfl
              | false => exact absurd (.inr hd) hq
            have hxd : x.dn = false := by
              cases hd : x.dn with
              | false => rfl
              | true => exact absurd ⟨hr, hd⟩ hc
            have ep : (s.polled y kk).pos = s.pos := by
              show (if s.pos ≠ s.t.root ∨ y.dn = false then kk else s.pos) = s.pos
              rw [if_neg hq]
            have et : (s.polled y kk).t = s.t := rfl
            have hA : ¬ (s.pos = s.t.root ∧ ∃ x, (s.polled y kk).S s.pos = some x ∧ x.dn = false) := by
              rintro ⟨_, z, hz, hzd⟩
              have hz : updS s.S s.pos y s.pos = some z := hz
              unfold updS at hz
              rw [if_pos rfl] at hz
              simp only [Option.some.injEq] at hz
              rw [← hz, hyd] at hzd
              cases hzd
            have hB : s.pos = s.t.root ∧ ∃ x, s.S s.pos = some x ∧ x.dn = false := ⟨hr, x, hx, hxd⟩
            rw [ep, et, if_neg hA, if_pos hB]
            omega
end
/-- What a poll comes to. -/
inductive Reach (p : Par) (V : List Vt) : PS → PS → Prop
  | refl (a : PS) : Reach p V a a
  | step {a b c : PS} : Reach p V a b → pstep p V b = some c → Reach p V a c
theorem Reach.head {p : Par} {V : List Vt} {a b : PS} (h : Reach p V a b) : a = b ∨ ∃ d, pstep p V a = some d ∧ Reach p V d b := by
  induction h with
  | refl => exact .inl rfl
  | step h1 h2 ih =>
    rcases ih with rfl | ⟨d, hd, hr⟩
    · exact .inr ⟨_, h2, .refl _⟩
    · exact .inr ⟨d, hd, hr.step h2⟩
theorem Reach.conf {p : Par} {V : List Vt} {a b c : PS} (h1 : Reach p V a b) (h2 : Reach p V a c) : Reach p V b c ∨ Reach p V c b := by
  induction h2 with
  | refl => exact .inr h1
  | step h3 h4 ih =>
    rcases ih with ih | ih
    · exact .inl (ih.step h4)
    · rcases ih.head with rfl | ⟨d, hd, hr⟩
      · exact .inl (.step (.refl _) h4)
      · rw [h4] at hd
        cases hd
        exact .inr hr
/-- It ends in one way. -/
theorem Reach.one {p : Par} {V : List Vt} {a b c : PS} (h1 : Reach p V a b) (h2 : Reach p V a c) (hb : pstep p V b = none) (hc : pstep p V c = none) : b = c := by
  rcases h1.conf h2 with h | h
  · rcases h.head with h | ⟨d, hd, _⟩
    · exact h
    · rw [hb] at hd; cases hd
  · rcases h.head with h | ⟨d, hd, _⟩
    · exact h.symm
    · rw [hc] at hd; cases hd
theorem Reach.pi {p : Par} {V : List Vt} {m : Nat} {a b : PS} (h : Reach p V a b) (hi : PI p m a) (hV : bagOk V) (hs : sumV V ≤ p.1) : PI p m b := by
  induction h with
  | refl => exact hi
  | step _ h2 ih => exact (pstep_ok ih hV hs h2).1
/-! ### Topo, plain -/
structure TpI (p : Par) (m : Nat) (t : Tr) (N : List TN) (S : SM) : Prop where
  tm : TM t N m
  par : parE p = 0
  may : ∀ k x, S k = some x → May p x
  no : ∀ k, has t N k = true → S k = none → kidsT t N k = []
  kids : ∀ k x, S k = some x → has t N k = true ∧ x.l.map (·.1) = kidsT t N k
  undone : ∀ x, S t.root = some x → x.dn = false
/-- How it begins. -/
def ps0 (t : Tr) (N : List TN) (S : SM) : PS := ⟨t, sN N, S, t.root, [], [], []⟩
theorem TM.strip {t : Tr} {N : List TN} {m : Nat} (h : TM t N m) : TM t (sN N) m := h.kb (sN_kbs N).symm
theorem TpI.pi {p : Par} {m : Nat} {t : Tr} {N : List TN} {S : SM} (h : TpI p m t N S) : PI p m (ps0 t N S) :=
  ⟨h.tm.strip, h.par, h.may, fun k hk hn => by
    have hk : has t (sN N) k = true := hk
    rw [kb_has (sN_kbs N)] at hk
    show kidsT t (sN N) k = []
    rw [kb_kidsT (sN_kbs N)]
    exact h.no k hk hn, fun k x hk hx => by
    show _ = kidsT t (sN N) k
    rw [kb_kidsT (sN_kbs N)]
    exact (h.kids k x hx).2, has_root⟩
/-- What is left of the instances. -/
noncomputable def failS (p : Par) (t : Tr) (N : List TN) (S : SM) (pol : List (Vec 32)) : SM := fun k => if has t N k = true then (S k).map fun x => if k ∈ pol then x else (failM p x).1 else none
theorem PI.fails {p : Par} {m : Nat} {s : PS} (h : PI p m s) (V : List Vt) (hend : pstep p V s = none) (hr : ∀ x, s.S s.t.root = some x → x.dn = false) {N : List TN} (hN : s.N = sN N) : TpI p m s.t N (failS p s.t s.N s.S s.pol) := by
  have hk : kbs N = kbs s.N := by rw [hN, sN_kbs]
  have key : ∀ k x, failS p s.t s.N s.S s.pol k = some x → has s.t s.N k = true ∧ ∃ y, s.S k = some y ∧ May p x ∧ x.l = y.l ∧ x.dn = y.dn := fun k x hx => by
    unfold failS at hx
    split at hx
    · rename_i hh
      cases hy : s.S k with
      | none => rw [hy] at hx; cases hx
      | some y =>
        rw [hy] at hx
        simp only [Option.map_some, Option.some.injEq] at hx
        have hm := h.may k y hy
        refine ⟨hh, y, rfl, ?_⟩
        split at hx
        · subst hx; exact ⟨hm, rfl, rfl⟩
        · obtain ⟨f1, f2, _, _, f5, _⟩ := fail_may hm
          subst hx
          exact ⟨f1, f2, f5⟩
    · cases hx
  refine ⟨h.tm.kb hk.symm, h.par, fun k x hx => ?_, fun k hh hn => ?_, fun k x hx => ?_, fun x hx => ?_⟩
  · obtain ⟨_, y, _, h2, _⟩ := key k x hx
    exact h2
  · rw [kb_has hk] at hh
    rw [kb_kidsT hk]
    refine h.no k hh ?_
    unfold failS at hn
    rw [if_pos hh] at hn
    simpa using hn
  · obtain ⟨hh, y, hy, _, hl, _⟩ := key k x hx
    rw [kb_has hk, kb_kidsT hk, hl]
    exact ⟨hh, h.kids k y hh hy⟩
  · obtain ⟨_, y, hy, _, _, hd⟩ := key s.t.root x hx
    rw [hd]
    exact hr y hy
/-- Whoever is at the root while its instance is done moves it. -/
def RD (s : PS) : Prop := ∀ x, s.S s.t.root = some x → x.dn = true → s.pos = s.t.root
theorem pstep_rd {p : Par} {V : List Vt} {s s' : PS} (h : RD s) (he : pstep p V s = some s') : RD s' := by
  unfold pstep at he
  cases hx : s.S s.pos with
  | none => rw [hx] at he; cases he
  | some x =>
    rw [hx] at he
    simp only at he
    split at he
    · simp only [Option.some.injEq] at he
      subst he
      exact fun _ _ _ => rfl
    · rename_i hc
      split at he
      · cases he
      · simp only [Option.some.injEq] at he
        subst he
        intro y hy hyd
        generalize (pollM p x (s.best V).1 (s.best V).2).1 = z at *
        have hy : updS s.S s.pos z s.t.root = some y := hy
        show (if s.pos ≠ s.t.root ∨ z.dn = false then (s.best V).1 else s.pos) = s.t.root
        unfold updS at hy
        by_cases hr : s.t.root = s.pos
        · rw [if_pos hr] at hy
          simp only [Option.some.injEq] at hy
          subst hy
          rw [if_neg (by rintro (h | h); · exact h hr.symm
                         · rw [hyd] at h; cases h)]
          exact hr.symm
        · rw [if_neg hr] at hy
          exact absurd (h y hy hyd).symm hr
theorem Reach.rd {p : Par} {V : List Vt} {a b : PS} (h : Reach p V a b) (hi : RD a) : RD b := by
  induction h with
  | refl => exact hi
  | step _ h2 ih => exact pstep_rd ih h2
/-- An Add's error. -/
def addTE (t : Tr) (N : List TN) (S : SM) (b : Blk) : Int := if addE t N b ≠ 0 then addE t N b else match S b.p with
  | some x => if 32 ≤ x.l.length then 6 else 0
  | none => 0
def addTS (p : Par) (S : SM) (b : Blk) (k : Vec 32) : SM := updS S b.p (match S b.p with
  | some x => { x with l := x.l ++ [(k, 0)] }
  | none => (newM p k).1)
theorem addTE_ok {t : Tr} {N : List TN} {S : SM} {b : Blk} (h : addTE t N S b = 0) : addE t N b = 0 ∧ ∀ x, S b.p = some x → x.l.length < 32 := by
  unfold addTE at h
  split at h
  · rename_i h1; exact absurd h h1
  · rename_i h1
    refine ⟨by simpa using h1, fun x hx => ?_⟩
    rw [hx] at h
    simp only at h
    split at h
    · cases h
    · omega
theorem kids_snoc {t : Tr} {N : List TN} {x : TN} {k : Vec 32} (hk : has t N k = true) : kidsT t (N ++ [x]) k = kidsT t N k ++ if x.2.1.p = k then [x.1] else [] := by
  unfold kidsT
  rw [if_pos hk, if_pos (has_old hk).1, List.filter_append]
  by_cases hp : x.2.1.p = k <;> simp [hp, nms]
theorem TpI.addx {p : Par} {m : Nat} {t : Tr} {N : List TN} {S : SM} {b : Blk} {vd : Value} {c : Nat} (h : TpI p m t N S) (he : addTE t N S b = 0) (hm : b.h ≤ maxI) :
    TpI p (m + 1) t (N ++ [(b.id, b, vd, c)]) (addTS p S b b.id) := by
  obtain ⟨h1, h2⟩ := addTE_ok he
  obtain ⟨a1, a2, a3, a4, a5, a6⟩ := addE_ok h1
  have hnew : ∀ k, has t (N ++ [(b.id, b, vd, c)]) k = true → has t N k = true ∨ k = b.id := fun k hk => by
    rcases has_mem hk with rfl | hk
    · exact .inl has_root
    · rw [List.map_append, List.mem_append] at hk
      rcases hk with hk | hk
      · exact .inl (mem_has (.inr hk))
      · exact .inr (by simpa using hk)
  have hS : ∀ k y, addTS p S b b.id k = some y → (k = b.p ∧ May p y ∧ y.l.map (·.1) = kidsT t N b.p ++ [b.id] ∧ (k = t.root → y.dn = false)) ∨ (k ≠ b.p ∧ S k = some y) := fun k y hy => by
    unfold addTS updS at hy
    split at hy
    · rename_i hk
      left
      refine ⟨hk, ?_⟩
      simp only [Option.some.injEq] at hy
      cases hx : S b.p with
      | some x =>
        rw [hx] at hy
        simp only at hy
        subst hy
        have hmay := h.may _ x hx
        obtain ⟨_, hkx⟩ := h.kids _ x hx
        refine ⟨?_, by show (x.l ++ [(b.id, 0)]).map (fun c : Cho => c.1) = _; rw [List.map_append, hkx]; rfl, fun hr => h.undone x (by rw [← hr, hk]; exact hx)⟩
        have hno : ¬ 0 ≤ plc x.l b.id := fun hp => by
          obtain ⟨i, d, _, hd, hd1, _⟩ := plc_pos hp
          have : b.id ∈ x.l.map (·.1) := by rw [← hd1]; exact List.mem_map_of_mem (List.mem_of_getElem? hd)
          rw [hkx, kid_iff h.tm.w h.tm.nd, a2] at this
          cases this.2.1
        rcases add_may (id := b.id) hmay with hq | ⟨_, hq⟩
        · exfalso
          apply hq
          have := h2 x hx
          rw [addM, if_neg (by simpa using may_iff.2 hmay), if_neg hno, if_neg (by omega)]
        · exact hq
      | none =>
        rw [hx] at hy
        simp only at hy
        subst hy
        obtain ⟨n1, _, n3, _⟩ := new_may (id := b.id) h.par
        refine ⟨n1, ?_, fun _ => n3⟩
        rw [h.no b.p a3 hx]
        unfold newM
        rw [if_neg (by simpa using h.par)]
        rfl
    · rename_i hk
      exact .inr ⟨hk, hy⟩
  have hkid : ∀ k, has t N k = true → k ≠ b.p → kidsT t (N ++ [(b.id, b, vd, c)]) k = kidsT t N k := fun k hk hne => by
    rw [kids_snoc hk, if_neg (Ne.symm hne), List.append_nil]
  refine ⟨h.tm.add h1 hm, h.par, fun k y hy => ?_, fun k hk hn => ?_, fun k y hy => ?_, fun y hy => ?_⟩
  · rcases hS k y hy with ⟨_, hy, _⟩ | ⟨_, hy⟩
    · exact hy
    · exact h.may k y hy
  · have hkp : k ≠ b.p ∧ S k = none := by
      unfold addTS updS at hn
      split at hn
      · cases hn
      · rename_i hq; exact ⟨hq, hn⟩
    rcases hnew k hk with hk' | rfl
    · rw [hkid k hk' hkp.1]
      exact h.no k hk' hkp.2
    · unfold kidsT
      rw [if_pos hk]
      have : (N ++ [(b.id, b, vd, c)]).filter (fun x => decide (x.2.1.p = b.id)) = [] := by
        rw [List.filter_eq_nil_iff]
        intro x hx
        simp only [decide_eq_true_eq]
        intro hp
        rcases List.mem_append.1 hx with hx | hx
        · have hx1 : nodeOf x.1 N = some x := node_mem h.tm.nd hx
          have := (h.tm.w.up x.1 x.2.1 (by unfold blkOf; rw [hx1]; rfl)).1
          rw [hp, a2] at this
          cases this
        · obtain rfl : x = (b.id, b, vd, c) := by simpa using hx
          have hp : b.p = b.id := hp
          rw [hp, a2] at a3
          cases a3
      rw [this]
      rfl
  · rcases hS k y hy with ⟨rfl, _, hl, _⟩ | ⟨hne, hy⟩
    · exact ⟨(has_old a3).1, by rw [kids_snoc a3, if_pos rfl]; exact hl⟩
    · obtain ⟨q1, q2⟩ := h.kids k y hy
      exact ⟨(has_old q1).1, by rw [hkid k q1 hne]; exact q2⟩
  · rcases hS t.root y hy with ⟨_, _, _, hd⟩ | ⟨_, hy⟩
    · exact hd rfl
    · exact h.undone y hy
/-- What a name prefers, step by step. -/
inductive PrefTo (S : SM) : Vec 32 → Vec 32 → Prop
  | refl (a : Vec 32) : PrefTo S a a
  | step {a b : Vec 32} {x : Sn} : PrefTo S a b → S b = some x → PrefTo S a (prf x)
def IsPref (t : Tr) (S : SM) (k : Vec 32) : Prop := PrefTo S t.root k ∧ S k = none
theorem PrefTo.head {S : SM} {a b : Vec 32} (h : PrefTo S a b) : a = b ∨ ∃ x, S a = some x ∧ PrefTo S (prf x) b := by
  induction h with
  | refl => exact .inl rfl
  | step h1 h2 ih =>
    rcases ih with rfl | ⟨d, hd, hr⟩
    · exact .inr ⟨_, h2, .refl _⟩
    · exact .inr ⟨d, hd, hr.step h2⟩
theorem PrefTo.conf {S : SM} {a b c : Vec 32} (h1 : PrefTo S a b) (h2 : PrefTo S a c) : PrefTo S b c ∨ PrefTo S c b := by
  induction h2 with
  | refl => exact .inr h1
  | step h3 h4 ih =>
    rcases ih with ih | ih
    · exact .inl (ih.step h4)
    · rcases ih.head with rfl | ⟨d, hd, hr⟩
      · exact .inl (.step (.refl _) h4)
      · rw [h4] at hd
        cases hd
        exact .inr hr
theorem IsPref.one {t : Tr} {S : SM} {b c : Vec 32} (h1 : IsPref t S b) (h2 : IsPref t S c) : b = c := by
  rcases h1.1.conf h2.1 with h | h
  · rcases h.head with h | ⟨d, hd, _⟩
    · exact h
    · rw [h1.2] at hd; cases hd
  · rcases h.head with h | ⟨d, hd, _⟩
    · exact h.symm
    · rw [h2.2] at hd; cases hd
theorem TpI.pref_step {p : Par} {m : Nat} {t : Tr} {N : List TN} {S : SM} {k : Vec 32} {x : Sn} (h : TpI p m t N S) (hx : S k = some x) : has t N (prf x) = true ∧ prf x ≠ t.root ∧ upOf (prf x) N = k ∧ hgt t N (prf x) = hgt t N k + 1 := by
  obtain ⟨h1, h2⟩ := h.kids k x hx
  have h3 := may_prf (h.may k x hx)
  rw [h2] at h3
  have h4 := kid_hgt h.tm.w h.tm.nd h3
  obtain ⟨_, q2, q3, q4⟩ := (kid_iff h.tm.w h.tm.nd).1 h3
  exact ⟨q2, q3, q4, h4⟩
theorem TpI.pref_has {p : Par} {m : Nat} {t : Tr} {N : List TN} {S : SM} {k : Vec 32} (h : TpI p m t N S) (hk : PrefTo S t.root k) : has t N k = true := by
  rcases hk with _ | ⟨h1, h2⟩
  · exact has_root
  · exact (h.pref_step h2).1
end Go.Fx
set_option linter.unusedVariables false
set_option linter.unusedSimpArgs false
namespace Go.Fx
theorem PrefTo.mono {S S' : SM} {a b : Vec 32} (hS : ∀ k x, PrefTo S a k → S k = some x → ∃ y, S' k = some y ∧ prf y = prf x) (h : PrefTo S a b) : PrefTo S' a b := by
  induction h with
  | refl => exact .refl _
  | step h1 h2 ih =>
    obtain ⟨y, hy, he⟩ := hS _ _ h1 h2
    rw [← he]
    exact ih.step hy
section
variable {p : Par} {V : List Vt} {m : Nat} {t : Tr} {N : List TN} {S : SM}
theorem TpI.pref_under (h : TpI p m t N S) {a b : Vec 32} (ha : has t N a = true) (hb : PrefTo S a b) : under t N b a = true := by
  induction hb with
  | refl => exact under_self h.tm.w ha
  | step h1 h2 ih =>
    obtain ⟨q1, q2, q3, _⟩ := h.pref_step h2
    rw [under_step h.tm.w q1 q2, q3, ih]
    simp
theorem TpI.pref_up (h : TpI p m t N S) {b q : Vec 32} (hb : PrefTo S t.root b) : under t N b q = true → PrefTo S t.root q := by
  induction hb with
  | refl =>
    intro hu
    rw [under_root] at hu
    have : q = t.root := by simpa using hu
    rw [this]
    exact .refl _
  | step h1 h2 ih =>
    intro hu
    obtain ⟨q1, q2, q3, _⟩ := h.pref_step h2
    rw [under_step h.tm.w q1 q2, q3] at hu
    simp only [Bool.or_eq_true, decide_eq_true_eq] at hu
    rcases hu with hu | hu
    · rw [← hu]; exact h1.step h2
    · exact ih hu
theorem TpI.pref_mid (h : TpI p m t N S) {b q : Vec 32} (hb : PrefTo S t.root b) (hu : under t N b q = true) : PrefTo S q b := by
  rcases (h.pref_up hb hu).conf hb with hq | hq
  · exact hq
  · have h2 := h.pref_under (under_has hu).1 hq
    rcases under_hgt h.tm.w hu with he | he
    · rw [he]; exact .refl _
    · rcases under_hgt h.tm.w h2 with he2 | he2
      · rw [he2]; exact .refl _
      · omega
/-- What is preferred: what leads to the preference. -/
theorem TpI.preferred (h : TpI p m t N S) {k b : Vec 32} (hk : IsPref t S k) : under t N k b = true ↔ PrefTo S t.root b := by
  constructor
  · exact h.pref_up hk.1
  · intro hb
    rcases hb.conf hk.1 with hq | hq
    · exact h.pref_under (h.pref_has hb) hq
    · rcases hq.head with he | ⟨x, hx, _⟩
      · rw [he]; exact under_self h.tm.w (h.pref_has hb)
      · rw [hk.2] at hx; cases hx
end
/-- Two names ahead of a third one that stand at one height are one. -/
theorem under_one {t : Tr} {N : List TN} (hw : TrW t N) {b c d : Vec 32} (hc : under t N b c = true) (hd : under t N b d = true) (he : hgt t N c = hgt t N d) : c = d := by
  have hb := (under_has hc).1
  revert hc hd
  refine path_ind hw (C := fun b => under t N b c = true → under t N b d = true → c = d) (fun hc hd => ?_) (fun b hb hr ih hc hd => ?_) b hb
  · rw [under_root] at hc hd
    have h1 : c = t.root := by simpa using hc
    have h2 : d = t.root := by simpa using hd
    rw [h1, h2]
  · have hc2 := under_hgt hw hc
    have hd2 := under_hgt hw hd
    rw [under_step hw hb hr] at hc hd
    simp only [Bool.or_eq_true, decide_eq_true_eq] at hc hd
    rcases hc with hc | hc
    · rcases hd2 with hd2 | hd2
      · rw [← hc, hd2]
      · rw [hc] at hd2; omega
    · rcases hd with hd | hd
      · rcases hc2 with hc2 | hc2
        · rw [← hd, hc2]
        · rw [hd] at hc2; omega
      · exact ih hc hd
/-! ### A preferred block under a poll -/
def Cond (p : Par) (V : List Vt) (t : Tr) (N : List TN) (b : Vec 32) : Prop := ∀ q k, under t N b q = true → q ≠ b → k ∈ kidsT t N q → under t N b k = false → cntT t N V k < p.2.1
structure StI (p : Par) (V : List Vt) (b : Vec 32) (s : PS) : Prop where
  pref : PrefTo s.S s.t.root b
  nr : b ≠ s.t.root
  pos : under s.t s.N b s.pos = true ∨ (under s.t s.N s.pos b = true)
  cond : Cond p V s.t s.N b
/-- A poll under way is as Topo is, but for what is gone. -/
theorem PI.pref_step {p : Par} {m : Nat} {s : PS} {k : Vec 32} {x : Sn} (h : PI p m s) (hk : has s.t s.N k = true) (hx : s.S k = some x) : has s.t s.N (prf x) = true ∧ prf x ≠ s.t.root ∧ upOf (prf x) s.N = k ∧ hgt s.t s.N (prf x) = hgt s.t s.N k + 1 := by
  have h3 := may_prf (h.may k x hx)
  rw [h.kids k x hk hx] at h3
  have h4 := kid_hgt h.tm.w h.tm.nd h3
  obtain ⟨_, q2, q3, q4⟩ := (kid_iff h.tm.w h.tm.nd).1 h3
  exact ⟨q2, q3, q4, h4⟩
theorem PI.pref_has {p : Par} {m : Nat} {s : PS} {a b : Vec 32} (h : PI p m s) (ha : has s.t s.N a = true) (hb : PrefTo s.S a b) : has s.t s.N b = true ∧ under s.t s.N b a = true := by
  induction hb with
  | refl => exact ⟨ha, under_self h.tm.w ha⟩
  | step h1 h2 ih =>
    obtain ⟨q1, q2, q3, _⟩ := h.pref_step ih.1 h2
    exact ⟨q1, by rw [under_step h.tm.w q1 q2, q3, ih.2]; simp⟩
theorem PI.pref_up {p : Par} {m : Nat} {s : PS} {b q : Vec 32} (h : PI p m s) (hb : PrefTo s.S s.t.root b) : under s.t s.N b q = true → PrefTo s.S s.t.root q := by
  induction hb with
  | refl =>
    intro hu
    rw [under_root] at hu
    have : q = s.t.root := by simpa using hu
    rw [this]
    exact .refl _
  | step h1 h2 ih =>
    intro hu
    obtain ⟨q1, q2, q3, _⟩ := h.pref_step (h.pref_has has_root h1).1 h2
    rw [under_step h.tm.w q1 q2, q3] at hu
    simp only [Bool.or_eq_true, decide_eq_true_eq] at hu
    rcases hu with hu | hu
    · rw [← hu]; exact h1.step h2
    · exact ih hu
theorem PI.pref_mid {p : Par} {m : Nat} {s : PS} {b q : Vec 32} (h : PI p m s) (hb : PrefTo s.S s.t.root b) (hu : under s.t s.N b q = true) : PrefTo s.S q b := by
  rcases (h.pref_up hb hu).conf hb with hq | hq
  · exact hq
  · have h2 := (h.pref_has (under_has hu).1 hq).2
    rcases under_hgt h.tm.w hu with he | he
    · rw [he]; exact .refl _
    · rcases under_hgt h.tm.w h2 with he2 | he2
      · rw [he2]; exact .refl _
      · omega
theorem stay_step {p : Par} {V : List Vt} {m : Nat} {b : Vec 32} {s s' : PS} (h : PI p m s) (hV : bagOk V) (hs : sumV V ≤ p.1) (hi : StI p V b s) (he : pstep p V s = some s') : b ∈ s'.acc ∨ StI p V b s' := by
  have hw := h.tm.w
  have hbh := (h.pref_has has_root hi.pref).1
  unfold pstep at he
  cases hx : s.S s.pos with
  | none => rw [hx] at he; cases he
  | some x =>
    rw [hx] at he
    simp only at he
    split at he
    · rename_i hc
      obtain ⟨hr, hd⟩ := hc
      obtain ⟨hk, hkb, hkp⟩ := h.root_x hr hx
      simp only [Option.some.injEq] at he
      subst he
      by_cases hbk : b = prf x
      · left
        show b ∈ s.acc ++ [prf x]
        simp [hbk]
      · right
        have hp2 : PrefTo s.S (prf x) b := by
          rcases hi.pref.head with h1 | ⟨y, hy, h1⟩
          · exact absurd h1.symm hi.nr
          · rw [← hr, hx] at hy
            cases hy
            exact h1
        have hub := (h.pref_has (blk_has hkb) hp2).2
        have hun : ∀ {a c}, under s.t s.N c (prf x) = true → under (mvT s.t s.N (prf x)) (mvN s.t s.N (prf x)) a c = under s.t s.N a c := fun hc => mv_under h.tm hk hc
        refine ⟨hp2, hbk, .inl ?_, fun q k hq hqb hkk hbk2 => ?_⟩
        · show under (mvT s.t s.N (prf x)) (mvN s.t s.N (prf x)) b (prf x) = true
          rw [hun (under_self hw (blk_has hkb))]
          exact hub
        · have hq : under (mvT s.t s.N (prf x)) (mvN s.t s.N (prf x)) b q = true := hq
          have hkk : k ∈ kidsT (mvT s.t s.N (prf x)) (mvN s.t s.N (prf x)) q := hkk
          have hbk2 : under (mvT s.t s.N (prf x)) (mvN s.t s.N (prf x)) b k = false := hbk2
          show cntT (mvT s.t s.N (prf x)) (mvN s.t s.N (prf x)) V k < p.2.1
          have hqu : under s.t s.N q (prf x) = true := by rw [← mv_has_iff hw hk]; exact (under_has hq).2
          rw [hun hqu] at hq
          rw [mv_kids hw h.tm.nd hk hqu] at hkk
          have hku : under s.t s.N k (prf x) = true := by
            obtain ⟨_, k2, k3, k4⟩ := (kid_iff hw h.tm.nd).1 hkk
            rw [under_step hw k2 k3, k4, hqu]
            simp
          rw [hun hku] at hbk2
          rw [mv_cnt h.tm hk V hku]
          exact hi.cond q k hq hqb hkk hbk2
    · rename_i hc
      split at he
      · cases he
      · rename_i hb
        simp only [Option.some.injEq] at he
        obtain ⟨h1, h2, h3, h4, h5⟩ := h.best_in hV hs hx hb
        obtain ⟨e1, e2, e3, e4, e5⟩ := poll_may (h.may _ _ hx) h5 h3 h4
        obtain ⟨k1, k2, k3, k4⟩ := (kid_iff hw h.tm.nd).1 h1
        have hkh := kid_hgt hw h.tm.nd h1
        right
        by_cases hlow : under s.t s.N s.pos b = true
        · -- at the block, or below
          generalize hy : (pollM p x (s.best V).1 (s.best V).2).1 = y at *
          generalize hkk : (s.best V).1 = kk at *
          subst he
          have hpr : s.pos ≠ s.t.root := fun hr => by
            rw [hr, under_root] at hlow
            exact hi.nr (by simpa using hlow)
          refine ⟨?_, hi.nr, .inr ?_, hi.cond⟩
          · have key : ∀ c, PrefTo s.S s.t.root c → hgt s.t s.N c ≤ hgt s.t s.N b → PrefTo (updS s.S s.pos y) s.t.root c := fun c hc => by
              induction hc with
              | refl => exact fun _ => .refl _
              | step q1 q2 ih =>
                intro hle
                have q3 := h.pref_step (h.pref_has has_root q1).1 q2
                refine (ih (by omega)).step ?_
                unfold updS
                rw [if_neg]
                · exact q2
                · intro hcp
                  rw [hcp] at q3
                  rcases under_hgt hw hlow with hq | hq
                  · rw [hq] at q3; omega
                  · omega
            exact key b hi.pref (Nat.le_refl _)
          · show under s.t s.N (if s.pos ≠ s.t.root ∨ y.dn = false then kk else s.pos) b = true
            rw [if_pos (.inl hpr), under_step hw k2 k3, k4, hlow]
            simp
        · have hup : under s.t s.N b s.pos = true := hi.pos.resolve_right hlow
          have hne : s.pos ≠ b := fun he => hlow (by rw [he]; exact under_self hw hbh)
          have hmid := h.pref_mid hi.pref hup
          obtain ⟨z, hz, hzb⟩ := hmid.head.resolve_left hne
          rw [hx] at hz
          cases hz
          obtain ⟨z1, z2, z3, z4⟩ := h.pref_step h.pos hx
          have hbz := (h.pref_has z1 hzb).2
          have hbc : under s.t s.N b (s.best V).1 = true := by
            cases hq : under s.t s.N b (s.best V).1 with
            | true => rfl
            | false =>
              exfalso
              have := hi.cond s.pos (s.best V).1 hup hne h1 hq
              omega
          have hcz : (s.best V).1 = prf x := under_one hw hbc hbz (by omega)
          have hyp := e5 hcz
          generalize hy : (pollM p x (s.best V).1 (s.best V).2).1 = y at *
          generalize hkk : (s.best V).1 = kk at *
          subst he
          refine ⟨?_, hi.nr, .inl ?_, hi.cond⟩
          · refine PrefTo.mono (S := s.S) (fun k u _ hu => ?_) hi.pref
            show ∃ y', updS s.S s.pos y k = some y' ∧ prf y' = prf u
            unfold updS
            split
            · rename_i hk
              rw [hk, hx] at hu
              cases hu
              exact ⟨y, rfl, hyp⟩
            · exact ⟨u, hu, rfl⟩
          · show under s.t s.N b (if s.pos ≠ s.t.root ∨ y.dn = false then kk else s.pos) = true
            split
            · exact hbc
            · exact hup
theorem pstep_acc {p : Par} {V : List Vt} {s s' : PS} (he : pstep p V s = some s') : ∀ k ∈ s.acc, k ∈ s'.acc := fun k hk => by
  unfold pstep at he
  cases hx : s.S s.pos with
  | none => rw [hx] at he; cases he
  | some x =>
    rw [hx] at he
    simp only at he
    split at he
    · simp only [Option.some.injEq] at he
      subst he
      exact List.mem_append_left _ hk
    · split at he
      · cases he
      · simp only [Option.some.injEq] at he
        subst he
        exact hk
theorem Reach.stay {p : Par} {V : List Vt} {m : Nat} {b : Vec 32} {a s : PS} (h : Reach p V a s) (hp : PI p m a) (hV : bagOk V) (hs : sumV V ≤ p.1) (hi : StI p V b a) : b ∈ s.acc ∨ StI p V b s := by
  induction h with
  | refl => exact .inr hi
  | step h1 h2 ih =>
    rcases ih with ih | ih
    · exact .inl (pstep_acc h2 _ ih)
    · exact stay_step (h1.pi hp hV hs) hV hs ih h2
end Go.Fx
set_option linter.unusedVariables false
set_option linter.unusedSimpArgs false
namespace Go.Fx
section
variable {P : Program} {T E n : Nat} {w0 w : World} {As : List Asn}
theorem bits_bv : ∀ (l : List UInt8) (m : Nat), ((bvs l).zip (bvs l)).all (fun x => Instr.sameBits (m + 1) x.1 x.2) = true
  | [], m => rfl
  | b :: l, m => by
    have ih := bits_bv l m
    unfold bvs at ih ⊢
    rw [List.map_cons, List.zip_cons_cons, List.all_cons, ih]
    simp [Instr.sameBits, bv]
theorem same_key (k : Vec n) (m : Nat) : Instr.sameBits (m + 2) (kv k) (kv k) = true := by
  show (((bvs k.1).toArray.size == (bvs k.1).toArray.size) && ((bvs k.1).toArray.toList.zip (bvs k.1).toArray.toList).all fun x => Instr.sameBits (m + 1) x.1 x.2) = true
  rw [List.toList_toArray, bits_bv]
  simp
theorem run_stays (k : Vec n) : (Instr.keyThatStays (kv k) (kv k)).run P w = .ok (kv k) w := by
  unfold Instr.keyThatStays
  rw [if_pos (same_key k 9998)]
  rfl
/-- An entry with another value. -/
def updE (k : Vec n) (v : Value) : List (Ent n) → List (Ent n)
  | [] => []
  | x :: l => if k = x.1 then (k, v, x.2.2) :: l else x :: updE k v l
theorem updE_born (k : Vec n) (v : Value) : ∀ l : List (Ent n), (updE k v l).map (·.2.2) = l.map (·.2.2)
  | [] => rfl
  | x :: l => by
    unfold updE
    split
    · rfl
    · rw [List.map_cons, updE_born k v l, List.map_cons]
theorem updE_get (k : Vec n) (v : Value) (k' : Vec n) : ∀ l : List (Ent n), (getE k l).isSome = true → getE k' (updE k v l) = if k' = k then some v else getE k' l
  | [], h => by simp [getE] at h
  | x :: l, h => by
    unfold updE
    by_cases hk : k = x.1
    · rw [if_pos hk]
      by_cases hk' : k' = k
      · unfold getE; rw [List.find?_cons_of_pos (by simpa using hk'), if_pos hk']; rfl
      · unfold getE
        rw [if_neg hk', List.find?_cons_of_neg (by simpa using hk'), List.find?_cons_of_neg (by rw [← hk]; simpa using hk')]
    · have h1 : (getE k l).isSome = true := by
        unfold getE at h ⊢
        rwa [List.find?_cons_of_neg (by simpa using hk)] at h
      have ih := updE_get k v k' l h1
      rw [if_neg hk]
      unfold getE at ih ⊢
      by_cases hx : k' = x.1
      · rw [List.find?_cons_of_pos (by simpa using hx), List.find?_cons_of_pos (by simpa using hx), if_neg (by rw [hx]; exact fun he => hk he.symm)]
      · rw [List.find?_cons_of_neg (by simpa using hx), List.find?_cons_of_neg (by simpa using hx)]
        exact ih
theorem findE_ge (k : Vec n) : ∀ (l : List (Ent n)) (i j : Nat) (y : Value), findE k l i = some (j, y) → i ≤ j
  | [], i, j, y, h => by simp [findE] at h
  | x :: l, i, j, y, h => by
    unfold findE at h
    split at h
    · simp only [Option.some.injEq, Prod.mk.injEq] at h; omega
    · have := findE_ge k l (i + 1) j y h; omega
theorem findE_key (k : Vec n) : ∀ (l : List (Ent n)) (i j : Nat) (y : Value), findE k l i = some (j, y) → ∃ x, l[j - i]? = some x ∧ x.1 = k ∧ x.2.1 = y
  | [], i, j, y, h => by simp [findE] at h
  | x :: l, i, j, y, h => by
    unfold findE at h
    split at h
    · rename_i hk
      simp only [Option.some.injEq, Prod.mk.injEq] at h
      refine ⟨x, ?_, hk.symm, h.2⟩
      rw [show j - i = 0 by omega]; rfl
    · have hg := findE_ge k l (i + 1) j y h
      obtain ⟨z, hz, h2⟩ := findE_key k l (i + 1) j y h
      refine ⟨z, ?_, h2⟩
      rw [show j - i = (j - (i + 1)) + 1 by omega]
      exact hz
theorem updE_mod (k : Vec n) (v : Value) : ∀ (l : List (Ent n)) (i j : Nat) (y : Value), findE k l i = some (j, y) → (l.map entM).modify (j - i) (fun e => { e with key := kv k, val := v }) = (updE k v l).map entM
  | [], i, j, y, h => by simp [findE] at h
  | x :: l, i, j, y, h => by
    unfold findE at h
    unfold updE
    split at h
    · rename_i hk
      simp only [Option.some.injEq, Prod.mk.injEq] at h
      rw [if_pos hk, show j - i = 0 by omega]
      rfl
    · rename_i hk
      have hg := findE_ge k l (i + 1) j y h
      have ih := updE_mod k v l (i + 1) j y h
      rw [if_neg hk, show j - i = (j - (i + 1)) + 1 by omega, List.map_cons, List.modify_succ_cons, ih, List.map_cons]
structure MOk (l : List (Ent n)) (c : Nat) : Prop where
  nd : (l.map (·.2.2)).Nodup
  lt : ∀ x ∈ l, x.2.2 < c
theorem MOk.nil : MOk ([] : List (Ent n)) 0 := ⟨by simp, fun x hx => by cases hx⟩
theorem MOk.push {l : List (Ent n)} {c : Nat} (h : MOk l c) (k : Vec n) (v : Value) : MOk (l ++ [(k, v, c)]) (c + 1) := by
  refine ⟨?_, fun x hx => ?_⟩
  · rw [List.map_append, List.nodup_append]
    refine ⟨h.nd, by simp, fun x hx y hy he => ?_⟩
    simp only [List.map_cons, List.map_nil, List.mem_singleton] at hy
    subst hy
    obtain ⟨z, hz, rfl⟩ := List.mem_map.1 hx
    have := h.lt z hz
    omega
  · rcases List.mem_append.1 hx with hx | hx
    · have := h.lt x hx; omega
    · obtain rfl : x = (k, v, c) := by simpa using hx
      show c < c + 1
      omega
theorem MOk.upd {l : List (Ent n)} {c : Nat} (h : MOk l c) (k : Vec n) (v : Value) : MOk (updE k v l) c := by
  refine ⟨by rw [updE_born]; exact h.nd, fun x hx => ?_⟩
  have h1 : x.2.2 ∈ (updE k v l).map (·.2.2) := List.mem_map_of_mem hx
  rw [updE_born] at h1
  obtain ⟨z, hz, he⟩ := List.mem_map.1 h1
  have := h.lt z hz
  omega
theorem push_get (k : Vec n) (v : Value) (c : Nat) {l : List (Ent n)} (hn : getE k l = none) (k' : Vec n) : getE k' (l ++ [(k, v, c)]) = if k' = k then some v else getE k' l := by
  unfold getE at hn ⊢
  rw [Option.map_eq_none_iff] at hn
  rw [List.find?_append]
  by_cases hk : k' = k
  · subst hk
    rw [hn, if_pos rfl]
    simp
  · rw [if_neg hk, List.find?_cons_of_neg (by simpa using hk)]
    simp
/-- A map, by what each key has. -/
def MpR (h : Heap) (g : Nat) (f : Vec n → Option Value) : Prop := ∃ l c, MOk l c ∧ (∀ k, getE k l = f k) ∧ h[g]? = some (.map (ents l) c)
def mpF (g : Nat) (f : Vec n → Option Value) : Asn := Asn.ex fun l => Asn.ex fun c => (Asn.pr (MOk l c ∧ ∀ k, getE k l = f k)).star (mp g l c)
def updF (f : Vec n → Option Value) (k : Vec n) (v : Value) : Vec n → Option Value := fun k' => if k' = k then some v else f k'
theorem mpF_open {g : Nat} {f : Vec n → Option Value} (h : Sep w0 w (mpF g f :: As)) : ∃ l c, (MOk l c ∧ ∀ k, getE k l = f k) ∧ Sep w0 w (mp g l c :: As) := by
  unfold mpF at h
  rw [Sep_ex] at h
  obtain ⟨l, h⟩ := h
  rw [Sep_ex] at h
  obtain ⟨c, h⟩ := h
  rw [Sep_star, Sep_pr] at h
  exact ⟨l, c, h.1, h.2⟩
theorem mpF_close {g c : Nat} {f : Vec n → Option Value} {l : List (Ent n)} (hl : MOk l c ∧ ∀ k, getE k l = f k) (h : Sep w0 w (mp g l c :: As)) : Sep w0 w (mpF g f :: As) := by
  unfold mpF
  rw [Sep_ex]
  refine ⟨l, ?_⟩
  rw [Sep_ex]
  exact ⟨c, by rw [Sep_star, Sep_pr]; exact ⟨hl, h⟩⟩
theorem mpF_rd {g : Nat} {f : Vec n → Option Value} (h : Sep w0 w (mpF g f :: As)) : MpR w.heap g f := by
  obtain ⟨l, c, hl, hs⟩ := mpF_open h
  exact ⟨l, c, hl.1, hl.2, hs.map⟩
theorem makeF_s {t : TypeId} {K : Value → World → Prop} (hs : Sep w0 w As) (h : ∀ g w', Sep w0 w' (mpF (n := n) g (fun _ => none) :: As) → K (.map (some g)) w') : efP P (Instr.makeMap t none) w K :=
  makeMap_s (n := n) hs fun g w' hs' => h g w' (mpF_close ⟨MOk.nil, fun _ => rfl⟩ hs')
theorem lookF1 {M V g : Nat} {f : Vec n → Option Value} {z : Value} (hM : P.underlying M = some (.map T V)) (hT : KeyT P T E n) (hz : ∀ w : World, (zeroValue V).run P w = .ok z w) (hg : MpR w.heap g f) (k : Vec n) (K : Value → Prop) :
    rdP P (Instr.lookup M (.map (some g)) (kv k) false) w K = K ((f k).getD z) := by
  obtain ⟨l, c, _, hf, hm⟩ := hg
  rw [lookup_map1 hM hT (hz w) hm k, hf]
/-- A key gets a value. -/
theorem putF_s {M V g : Nat} {f : Vec n → Option Value} {k : Vec n} {v : Value} {K : World → Prop} (hM : P.underlying M = some (.map T V)) (hT : KeyT P T E n) (hs : Sep w0 w (mpF g f :: As))
    (h : ∀ w', Sep w0 w' (mpF g (updF f k v) :: As) → K w') : efU P (Instr.mapUpdate M (.map (some g)) (kv k) v) w K := by
  obtain ⟨l, c, ⟨hok, hf⟩, hs⟩ := mpF_open hs
  cases hk : getE k l with
  | none => exact putNew_s hM hT hs hk fun w' hs' => h w' (mpF_close ⟨hok.push k v, fun k' => by rw [push_get k v c hk]; unfold updF; rw [hf]⟩ hs')
  | some y =>
    have hg := hs.map
    obtain ⟨F, ⟨hb, rfl⟩, hu⟩ := hs.upd
    have hfe := findE_get k l 0
    rw [hk] at hfe
    obtain ⟨⟨i, y'⟩, hfi, _⟩ := Option.map_eq_some_iff.1 hfe
    obtain ⟨x, hx, hxk, _⟩ := findE_key k l 0 i y' hfi
    have hm := updE_mod k v l 0 i y' hfi
    rw [Nat.sub_zero] at hx hm
    have e2 : (ents l).modify i (fun e => { e with key := kv k, val := v }) = ents (updE k v l) := by
      apply Array.ext'
      unfold ents
      rw [Array.toList_modify]
      exact hm
    refine ⟨setBlk w g (.map (ents (updE k v l)) c), ?_, h _ (mpF_close ⟨hok.upd k v, fun k' => by rw [updE_get k v k' l (by rw [hk]; rfl)]; unfold updF; rw [hf]⟩ (hu _ [g] (mp g _ _) ⟨setBlk_self w g _ _ hb, rfl⟩ (fr_setBlk w g _) (Grew.refl _ _)))⟩
    have e1 : (((ents l)[i]?).map (·.key)).getD (kv k) = kv k := by
      unfold ents
      rw [List.getElem?_toArray, List.getElem?_map, hx]
      show kv x.1 = kv k
      rw [hxk]
    unfold Instr.mapUpdate
    simp only [Sem.run_bind, run_underlying hM, Result.andThen_ok, get_map hg, run_key hT k _ 9998, run_findKey hT k l, hfi, e1, run_stays]
    rw [← e2]
    exact set_map _ hg
end
end Go.Fx
set_option linter.unusedVariables false
set_option linter.unusedSimpArgs false
namespace Go.Fx
section
variable {P : Program} {T E n : Nat} {w0 w : World} {As : List Asn}
theorem updE_keys (k : Vec n) (v : Value) : ∀ l : List (Ent n), (updE k v l).map (·.1) = l.map (·.1)
  | [] => rfl
  | x :: l => by
    unfold updE
    split
    · rename_i h
      rw [List.map_cons, List.map_cons, h]
    · rw [List.map_cons, updE_keys k v l, List.map_cons]
structure KOk (l : List (Ent n)) (c : Nat) (f : Vec n → Option Value) : Prop where
  ok : MOk l c
  nk : (l.map (·.1)).Nodup
  get : ∀ k, getE k l = f k
def mpK (g : Nat) (f : Vec n → Option Value) : Asn := Asn.ex fun l => Asn.ex fun c => (Asn.pr (KOk l c f)).star (mp g l c)
theorem mpK_open {g : Nat} {f : Vec n → Option Value} (h : Sep w0 w (mpK g f :: As)) : ∃ l c, KOk l c f ∧ Sep w0 w (mp g l c :: As) := by
  unfold mpK at h
  rw [Sep_ex] at h
  obtain ⟨l, h⟩ := h
  rw [Sep_ex] at h
  obtain ⟨c, h⟩ := h
  rw [Sep_star, Sep_pr] at h
  exact ⟨l, c, h.1, h.2⟩
theorem mpK_close {g c : Nat} {f : Vec n → Option Value} {l : List (Ent n)} (hl : KOk l c f) (h : Sep w0 w (mp g l c :: As)) : Sep w0 w (mpK g f :: As) := by
  unfold mpK
  rw [Sep_ex]
  refine ⟨l, ?_⟩
  rw [Sep_ex]
  exact ⟨c, by rw [Sep_star, Sep_pr]; exact ⟨hl, h⟩⟩
/-- A map that may be gone through, as it is read. -/
def MkR (h : Heap) (g : Nat) (f : Vec n → Option Value) : Prop := ∃ l c, KOk l c f ∧ h[g]? = some (.map (ents l) c)
theorem mpK_mk {g : Nat} {f : Vec n → Option Value} (h : Sep w0 w (mpK g f :: As)) : MkR w.heap g f := by
  obtain ⟨l, c, hl, hs⟩ := mpK_open h
  exact ⟨l, c, hl, hs.map⟩
theorem MkR.mp {h : Heap} {g : Nat} {f : Vec n → Option Value} (hr : MkR h g f) : MpR h g f := by
  obtain ⟨l, c, hl, hs⟩ := hr
  exact ⟨l, c, hl.ok, hl.get, hs⟩
theorem MkR.fr {w w' : World} {g : Nat} {f : Vec n → Option Value} (hr : MkR w.heap g f) (hf : Fr [] w w') : MkR w'.heap g f := by
  obtain ⟨l, c, hl, hs⟩ := hr
  exact ⟨l, c, hl, hf.blk hs (by simp)⟩
theorem MpR.fr {w w' : World} {g : Nat} {f : Vec n → Option Value} (hr : MpR w.heap g f) (hf : Fr [] w w') : MpR w'.heap g f := by
  obtain ⟨l, c, h1, h2, hs⟩ := hr
  exact ⟨l, c, h1, h2, hf.blk hs (by simp)⟩
theorem KOk.nil : KOk ([] : List (Ent n)) 0 fun _ => none := ⟨MOk.nil, by simp, fun _ => rfl⟩
theorem KOk.push {l : List (Ent n)} {c : Nat} {f : Vec n → Option Value} (h : KOk l c f) {k : Vec n} (v : Value) (hk : getE k l = none) : KOk (l ++ [(k, v, c)]) (c + 1) (updF f k v) := by
  refine ⟨h.ok.push k v, ?_, fun k' => by rw [push_get k v c hk, h.get]; rfl⟩
  rw [List.map_append, List.nodup_append]
  refine ⟨h.nk, by simp, fun x hx y hy he => ?_⟩
  simp only [List.map_cons, List.map_nil, List.mem_singleton] at hy
  subst hy
  subst he
  obtain ⟨z, hz, hzk⟩ := List.mem_map.1 hx
  have := (getE_iff h.nk (k := x) (v := z.2.1)).2 ⟨z, hz, hzk, rfl⟩
  rw [hk] at this
  cases this
theorem makeK_s {t : TypeId} {K : Value → World → Prop} (hs : Sep w0 w As) (h : ∀ g w', Sep w0 w' (mpK (n := n) g (fun _ => none) :: As) → K (.map (some g)) w') : efP P (Instr.makeMap t none) w K :=
  makeMap_s (n := n) hs fun g w' hs' => h g w' (mpK_close KOk.nil hs')
/-- A key gets a value. -/
theorem putK_s {M V g : Nat} {f : Vec n → Option Value} {k : Vec n} {v : Value} {K : World → Prop} (hM : P.underlying M = some (.map T V)) (hT : KeyT P T E n) (hs : Sep w0 w (mpK g f :: As))
    (h : ∀ w', Sep w0 w' (mpK g (updF f k v) :: As) → K w') : efU P (Instr.mapUpdate M (.map (some g)) (kv k) v) w K := by
  obtain ⟨l, c, hok, hs⟩ := mpK_open hs
  cases hk : getE k l with
  | none => exact putNew_s hM hT hs hk fun w' hs' => h w' (mpK_close (hok.push v hk) hs')
  | some y =>
    have hg := hs.map
    obtain ⟨F, ⟨hb, rfl⟩, hu⟩ := hs.upd
    have hfe := findE_get k l 0
    rw [hk] at hfe
    obtain ⟨⟨i, y'⟩, hfi, _⟩ := Option.map_eq_some_iff.1 hfe
    obtain ⟨x, hx, hxk, _⟩ := findE_key k l 0 i y' hfi
    have hm := updE_mod k v l 0 i y' hfi
    rw [Nat.sub_zero] at hx hm
    have e2 : (ents l).modify i (fun e => { e with key := kv k, val := v }) = ents (updE k v l) := by
      apply Array.ext'
      unfold ents
      rw [Array.toList_modify]
      exact hm
    refine ⟨setBlk w g (.map (ents (updE k v l)) c), ?_, h _ (mpK_close ⟨hok.ok.upd k v, by rw [updE_keys]; exact hok.nk, fun k' => by rw [updE_get k v k' l (by rw [hk]; rfl)]; unfold updF; rw [hok.get]⟩ (hu _ [g] (mp g _ _) ⟨setBlk_self w g _ _ hb, rfl⟩ (fr_setBlk w g _) (Grew.refl _ _)))⟩
    have e1 : (((ents l)[i]?).map (·.key)).getD (kv k) = kv k := by
      unfold ents
      rw [List.getElem?_toArray, List.getElem?_map, hx]
      show kv x.1 = kv k
      rw [hxk]
    unfold Instr.mapUpdate
    simp only [Sem.run_bind, run_underlying hM, Result.andThen_ok, get_map hg, run_key hT k _ 9998, run_findKey hT k l, hfi, e1, run_stays]
    rw [← e2]
    exact set_map _ hg
theorem lookF {M V g : Nat} {f : Vec n → Option Value} {z : Value} (hM : P.underlying M = some (.map T V)) (hT : KeyT P T E n) (hz : ∀ w : World, (zeroValue V).run P w = .ok z w) (hg : MpR w.heap g f) (k : Vec n) (K : Value → Prop) :
    rdP P (Instr.lookup M (.map (some g)) (kv k) true) w K = K (.tuple #[(f k).getD z, .bool (f k).isSome]) := by
  obtain ⟨l, c, _, hf, hm⟩ := hg
  rw [lookup_map hM hT (hz w) hm k, hf]
theorem getE_memU {n : Nat} {k : Vec n} {l : List (Ent n)} : (getE k l).isSome = true ↔ k ∈ l.map (·.1) := by
  unfold getE
  rw [Option.isSome_map, List.find?_isSome]
  constructor
  · rintro ⟨x, hx, h⟩
    have : k = x.1 := by simpa using h
    exact this ▸ List.mem_map_of_mem hx
  · intro h
    obtain ⟨x, hx, rfl⟩ := List.mem_map.1 h
    exact ⟨x, hx, by simp⟩
/-- How many entries an iterator has told. -/
def itSeenK (gi : Nat) (z : World) : Nat := match z.heap[gi]? with
  | some (.mapIter _ _ seen _) => seen.size
  | _ => 0
/-- Which keys an iterator has told: its entries, those that are told, those that are left. -/
structure RngK (l : List (Ent n)) (c : Nat) (D U : List (Ent n)) : Prop where
  pm : (D ++ U).Perm l
theorem RngK.end {l D U : List (Ent n)} {c : Nat} {f : Vec n → Option Value} (h : RngK l c D U) (hl : KOk l c f) (hall : ∀ x ∈ l, x.2.2 ∈ D.map (·.2.2)) : U = [] := by
  have hnb : ((D ++ U).map (·.2.2)).Nodup := ((h.pm.map _).nodup_iff).2 hl.ok.nd
  cases U with
  | nil => rfl
  | cons u U =>
    exfalso
    have hu := hall u (h.pm.mem_iff.1 (by simp))
    rw [List.map_append, List.nodup_append] at hnb
    exact hnb.2.2 _ hu _ (by simp) rfl
theorem RngK.next {l D U : List (Ent n)} {c : Nat} {f : Vec n → Option Value} {x : Ent n} (h : RngK l c D U) (hl : KOk l c f) (hx : x ∈ l) (hxn : x.2.2 ∉ D.map (·.2.2)) :
    (∃ U', RngK l c (D ++ [x]) U' ∧ U.length = U'.length + 1) ∧ f x.1 = some x.2.1 ∧ x.1 ∉ D.map (·.1) := by
  have hxU : x ∈ U := by
    have := h.pm.mem_iff.2 hx
    rcases List.mem_append.1 this with h | h
    · exact absurd (List.mem_map_of_mem h) hxn
    · exact h
  obtain ⟨s1, s2, rfl⟩ := List.append_of_mem hxU
  refine ⟨⟨s1 ++ s2, ⟨?_⟩, by simp; omega⟩, ?_, ?_⟩
  · rw [List.append_assoc]
    exact ((List.perm_middle (l₁ := s1) (l₂ := s2) (a := x)).symm.append_left D).trans h.pm
  · rw [← hl.get]
    exact (getE_iff hl.nk).2 ⟨x, hx, rfl, rfl⟩
  · intro hm
    have hnk : ((D ++ (s1 ++ x :: s2)).map (·.1)).Nodup := ((h.pm.map _).nodup_iff).2 hl.nk
    rw [List.map_append, List.nodup_append] at hnk
    exact hnk.2.2 _ hm _ (by simp) rfl
theorem RngK.keys {l D : List (Ent n)} {c : Nat} {f : Vec n → Option Value} (h : RngK l c D []) (hl : KOk l c f) (k : Vec n) : k ∈ D.map (·.1) ↔ (f k).isSome = true := by
  have hp := h.pm
  rw [List.append_nil] at hp
  rw [(hp.map _).mem_iff, ← hl.get, getE_memU]
end
end Go.Fx
set_option linter.unusedVariables false
set_option linter.unusedSimpArgs false
namespace Go.Fx
/-- Instances in a map: where each one's list stands. -/
abbrev SV := Vec 32 → Option (Value × Sn)
def svF (S : SV) : Vec 32 → Option Value := fun k => (S k).map fun q => snv q.1 q.2
def svM (S : SV) : SM := fun k => (S k).map (·.2)
def updV (S : SV) (k : Vec 32) (q : Value × Sn) : SV := fun k' => if k' = k then some q else S k'
theorem svF_upd (S : SV) (k : Vec 32) (q : Value × Sn) : updF (svF S) k (snv q.1 q.2) = svF (updV S k q) := by
  funext k'
  unfold updF svF updV
  split <;> rfl
theorem svM_upd (S : SV) (k : Vec 32) (q : Value × Sn) : svM (updV S k q) = updS (svM S) k q.2 := by
  funext k'
  unfold svM updV updS
  split <;> rfl
theorem svM_some {S : SV} {k : Vec 32} {x : Sn} (h : svM S k = some x) : ∃ v, S k = some (v, x) := by
  obtain ⟨⟨v, y⟩, hq, rfl⟩ := Option.map_eq_some_iff.1 h
  exact ⟨v, hq⟩
theorem Rows'.one1 {α : Type} {q : Rdr α} {h : Heap} {v : Value} {l : List α} (hr : Rows' q h v l) : v.oneCell' = true := by
  obtain ⟨a, c, rfl, _⟩ := hr
  rfl
/-- The lists stand among what the call owns. -/
def SDat (S : SV) (As : List Asn) : Prop := ∀ k q, S k = some q → rows Q_api_Choice q.1 q.2.l ∈ As
theorem SDat.sub {S : SV} {As Bs : List Asn} (h : SDat S As) (hs : ∀ A ∈ As, A ∈ Bs) : SDat S Bs := fun k q hq => hs _ (h k q hq)
theorem SDat.upd {S : SV} {As : List Asn} {k : Vec 32} {v : Value} {x : Sn} (h : SDat S As) : SDat (updV S k (v, x)) (rows Q_api_Choice v x.l :: As) := fun k' q hq => by
  unfold updV at hq
  split at hq
  · simp only [Option.some.injEq] at hq
    subst hq
    simp
  · exact List.mem_cons_of_mem _ (h k' q hq)
abbrev toq (p : Par) (gt gs : Nat) : Value × Par × Value := (.pointer (some ⟨gt, 0, none⟩), p, .map (some gs))
abbrev ptr (g : Nat) : Value := .pointer (some ⟨g, 0, none⟩)
structure ToR (h : Heap) (g gt gm gs : Nat) (ov : Value) (p : Par) (t : Tr) (N : List TN) (c : Nat) (S : SV) : Prop where
  cell : ∃ T fr, h[g]? = some (.cells (Rdr.cells Q_topo_Topo (toq p gt gs)).toArray T fr)
  tr : TrR h gt gm ov t N c
  mp : MkR h gs (svF S)
  rw : ∀ k q, S k = some q → Rows' Q_api_Choice h q.1 q.2.l
/-- A Topo that the call owns, but for the blocks' data and the instances' lists. -/
def toH (g gt gm gs : Nat) (ov : Value) (p : Par) (t : Tr) (N : List TN) (c : Nat) (S : SV) : List Asn :=
  blk g (Rdr.cells Q_topo_Topo (toq p gt gs)).toArray T_topo_Topo :: mpK gs (svF S) :: trH gt gm ov t N c
theorem zSn (w : World) : (zeroValue T_api_Snow).run P w = .ok (snv (.slice none 0 0) snZ) w := by kernel_rfl
theorem zInt (w : World) : (zeroValue T_int).run P w = .ok (.int .i64 0) w := by kernel_rfl
theorem zBool (w : World) : (zeroValue T_bool).run P w = .ok (.bool false) w := by kernel_rfl
section
variable {w0 w w' : World} {As : List Asn} {g gt gm gs c : Nat} {ov : Value} {p : Par} {t : Tr} {N : List TN} {S : SV} {m : Nat}
theorem ToR.fr (h : ToR w.heap g gt gm gs ov p t N c S) (hf : Fr [] w w') : ToR w'.heap g gt gm gs ov p t N c S := by
  obtain ⟨T, fr, hc⟩ := h.cell
  exact ⟨⟨T, fr, hf.blk hc (by simp)⟩, h.tr.fr hf, h.mp.fr hf, fun k q hq => (h.rw k q hq).fr hf⟩
theorem Sep.to (h : Sep w0 w As) (hr : ToR w0.heap g gt gm gs ov p t N c S) : ToR w.heap g gt gm gs ov p t N c S := hr.fr h.1
theorem toH_rd (h : Sep w0 w (toH g gt gm gs ov p t N c S ++ As)) (hd : Dat N As) (hs : SDat S As) : ToR w.heap g gt gm gs ov p t N c S := by
  refine ⟨⟨_, _, Sep.blk h⟩, trH_rd h.tail.tail hd, mpK_mk h.tail, fun k q hq => ?_⟩
  obtain ⟨F, hF⟩ := h.onL (A := rows Q_api_Choice q.1 q.2.l) (by
    simp only [toH, List.cons_append, List.mem_cons, List.mem_append]
    exact .inr (.inr (.inr (hs k q hq))))
  exact Own.cel hF
theorem ToR.ldt (hr : ToR w.heap g gt gm gs ov p t N c S) (K : Value → Prop) (h : K (ptr gt)) : ld1 (.pointer (some ⟨g, 0, none⟩)) w.heap K := by
  obtain ⟨T, fr, hc⟩ := hr.cell
  exact (L_topo_Topo__inner hc K).mpr h
theorem ToR.lds (hr : ToR w.heap g gt gm gs ov p t N c S) (K : Value → Prop) (h : K (.map (some gs))) : ld1 (.pointer (some ⟨g, 5, none⟩)) w.heap K := by
  obtain ⟨T, fr, hc⟩ := hr.cell
  exact (L_topo_Topo__snows hc K).mpr h
theorem ToR.look (hr : ToR w.heap g gt gm gs ov p t N c S) (k : Vec 32) (K : Value → Prop) : rdP P (Instr.lookup T_map_api_ID_api_Snow (.map (some gs)) (kv k) true) w K =
    K (.tuple #[(svF S k).getD (snv (.slice none 0 0) snZ), .bool (svF S k).isSome]) := lookF U_map_api_ID_api_Snow KT zSn hr.mp.mp k K
/-- What a lookup gives. -/
def svD (S : SV) (k : Vec 32) : Value × Sn := (S k).getD (.slice none 0 0, snZ)
theorem svD_get (S : SV) (k : Vec 32) : (svF S k).getD (snv (.slice none 0 0) snZ) = snv (svD S k).1 (svD S k).2 := by
  unfold svF svD
  cases S k <;> rfl
theorem svF_is (S : SV) (k : Vec 32) : (svF S k).isSome = (S k).isSome := by
  unfold svF
  cases S k <;> rfl
theorem ToR.rwD (hr : ToR w.heap g gt gm gs ov p t N c S) (k : Vec 32) : Rows' Q_api_Choice w.heap (svD S k).1 (svD S k).2.l := by
  unfold svD
  cases h : S k with
  | none => exact ⟨none, 0, rfl, by simp [snZ], .inl (by simp [snZ])⟩
  | some q => exact hr.rw k q h
theorem onone_spec (hr : ToR w.heap g gt gm gs ov p t N c S) : cal P f_topo_Topo_none [ptr g] w fun r w' => r = .bool false ∧ w = w' := by
  refine s_topo_Topo_none fun R hR => ?_
  unfold c_topo_Topo_none
  try simp only [fx, Nat.reduceAdd, forall_const, Option.isNone_some]
  refine jn1_dup ?_
  refine hr.ldt _ ?_
  try simp only [fx, Nat.reduceAdd, forall_const, Option.isNone_some]
  exact hR _ _ ⟨rfl, rfl⟩
theorem oLen_spec (hr : ToR w.heap g gt gm gs ov p t N c S) (hl : N.length ≤ 1000000) : cal P f_topo_Topo_Len [ptr g] w fun r w' => r = .int .i64 N.length ∧ w = w' := by
  refine s_topo_Topo_Len fun R hR => ?_
  unfold c_topo_Topo_Len
  refine cal_i (onone_spec hr) ?_
  rintro _ _ ⟨rfl, rfl⟩
  try simp only [fx, Nat.reduceAdd, forall_const]
  refine hr.ldt _ ?_
  refine cal_i (Len_spec hr.tr hl) ?_
  rintro _ _ ⟨rfl, rfl⟩
  exact hR _ _ ⟨rfl, rfl⟩
/-- What is preferred. -/
theorem oPref_spec (hi : TpI p m t N (svM S)) (hr : ToR w.heap g gt gm gs ov p t N c S) : cal P f_topo_Topo_Preference [ptr g] w fun r w' => ∃ k, IsPref t (svM S) k ∧ r = kv k ∧ Fr [] w w' := by
  refine s_topo_Topo_Preference fun R hR => ?_
  unfold c_topo_Topo_Preference
  refine alloc_s (Sep.start w) (A_api_ID w) fun g2 w1 hs1 => ?_
  refine cal_i (onone_spec (hs1.to hr)) ?_
  rintro _ _ ⟨rfl, rfl⟩
  try simp only [fx, Nat.reduceAdd, forall_const]
  refine (hs1.to hr).ldt _ ?_
  refine cal_i (Root_spec (hs1.to hr).tr) ?_
  rintro _ w2 ⟨rfl, hf2⟩
  have hs2 := hs1.old hf2
  try simp only [fx, Nat.reduceAdd, forall_const]
  refine alloc_s hs2 (A_api_ID w2) fun g3 w3 hs3 => ?_
  refine St_api_ID hs3 fun w4 hs4 => ?_
  refine ⟨fun z => ∃ k, PrefTo (svM S) t.root k ∧ Sep w z [blk g3 (Rdr.cells (rVec 32) k).toArray T_api_ID, blk g2 (Rdr.cells (rVec 32) (vz 32)).toArray T_api_ID], fun z => m - hgt t N (keyAt g3 z), ⟨t.root, .refl _, hs4⟩, ?_⟩
  rintro w5 ⟨k, hk, hs5⟩ -
  have hkh := hi.pref_has hk
  refine drH_S hs5 fun w6 hs6 hh6 => ?_
  refine rdS_ld (v := .map (some gs)) (fun u hu K hk => (hu.to hr).lds K hk) ?_
  refine ⟨kv k, fun u hu => (L_api_ID hu.blk _).mpr rfl, ?_⟩
  refine ⟨.tuple #[(svF S k).getD (snv (.slice none 0 0) snZ), .bool (svF S k).isSome], fun u hu => ((hu.to hr).look k _).mpr rfl, ?_⟩
  rw [svD_get, svF_is]
  try simp only [fx, Nat.reduceAdd, forall_const]
  refine efS_i (alloc_s hs6 (A_api_Snow w6) fun g5 w7 hs7 => ⟨hs7.tail, ?_⟩)
  refine efC_stN (St_api_Snow (b := snr (svD S k).1 (svD S k).2) hs7 (one_api_Snow ((hs7.to hr).rwD k).one1) fun w8 hs8 => ?_)
  try simp only [fx, Nat.reduceAdd, forall_const]
  rw [cnd_bool]
  refine ⟨fun h => ?_, fun h => ?_⟩
  · have hn : svM S k = none := by
      unfold svM
      cases hq : S k with
      | none => rfl
      | some q => rw [hq] at h; cases h
    simp only [L_api_ID (Sep.blk hs8.p1)]
    refine St_api_ID hs8.p2 fun w9 hs9 => ?_
    simp only [L_api_ID hs9.blk]
    exact hR _ _ ⟨k, ⟨hk, hn⟩, rfl, hs9.fr0⟩
  · obtain ⟨q, hq⟩ : ∃ q, S k = some q := by
      cases hq : S k with
      | none => rw [hq] at h; cases h
      | some q => exact ⟨q, rfl⟩
    have hx : svM S k = some (svD S k).2 := by unfold svM svD; rw [hq]; rfl
    simp only [L_api_Snow (Sep.blk hs8), L_api_Snow__List (Sep.blk hs8), L_api_Snow__Pref (Sep.blk hs8), L_api_Snow__Flake (Sep.blk hs8), L_api_Snow__Conf (Sep.blk hs8), L_api_Snow__Done (Sep.blk hs8)]
    refine cal_i snPrefers_spec ?_
    rintro _ w9 ⟨rfl, hf9⟩
    have hs9 := hs8.old hf9
    refine St_api_ID (b := prf (svD S k).2) hs9.p1 fun w10 hs10 => ?_
    refine ⟨⟨prf (svD S k).2, hk.step hx, hs10.d1⟩, ?_⟩
    have h1 := hi.pref_step hx
    have h2 := hi.tm.hb _ h1.1
    rw [keyAt_eq (Sep.blk hs10), keyAt_eq (Sep.blk hs5), h1.2.2.2]
    omega
end
end Go.Fx
set_option linter.unusedVariables false
set_option linter.unusedSimpArgs false
namespace Go.Fx
/-- What a map of counts has behind a name was counted. -/
def cF (t : Tr) (N : List TN) (V : List Vt) (k : Vec 32) (F : Vec 32 → Option Value) : Vec 32 → Option Value := fun q => if under t N q k = true then some (.int .i64 (cntT t N V q)) else F q
def cFs (t : Tr) (N : List TN) (V : List Vt) (l : List (Vec 32)) (F : Vec 32 → Option Value) : Vec 32 → Option Value := fun q => if l.any (fun k => under t N q k) = true then some (.int .i64 (cntT t N V q)) else F q
theorem cFs_nil (t : Tr) (N : List TN) (V : List Vt) (F : Vec 32 → Option Value) : cFs t N V [] F = F := by
  funext q
  simp [cFs]
theorem cFs_snoc (t : Tr) (N : List TN) (V : List Vt) (l : List (Vec 32)) (k : Vec 32) (F : Vec 32 → Option Value) : cF t N V k (cFs t N V l F) = cFs t N V (l ++ [k]) F := by
  funext q
  unfold cF cFs
  by_cases h1 : under t N q k = true <;> by_cases h2 : l.any (fun k => under t N q k) = true <;> simp [h1, h2]
theorem under_any {t : Tr} {N : List TN} (hw : TrW t N) (hn : (nms N).Nodup) {k q : Vec 32} (hk : has t N k = true) : under t N q k = (decide (q = k) || (kidsT t N k).any fun x => under t N q x) := by
  by_cases hq : has t N q = true
  case neg =>
    have h1 : ∀ c, under t N q c = false := fun c => by
      cases h : under t N q c with
      | false => rfl
      | true => exact absurd (under_has h).1 hq
    rw [h1, decide_eq_false fun he : q = k => hq (he ▸ hk)]
    simp [h1]
  refine path_ind hw (C := fun q => under t N q k = (decide (q = k) || (kidsT t N k).any fun x => under t N q x)) ?_ (fun q hq hr ih => ?_) q hq
  · rw [under_root]
    have : ((kidsT t N k).any fun x => under t N t.root x) = false := by
      rw [List.any_eq_false]
      intro x hx
      rw [under_root, decide_eq_false ((kid_iff hw hn).1 hx).2.2.1]
      simp
    rw [this, Bool.or_false]
    exact decide_eq_decide.2 eq_comm
  · rw [under_step hw hq hr, ih]
    have e : ((kidsT t N k).any fun x => under t N q x) = (decide (upOf q N = k) || (kidsT t N k).any fun x => under t N (upOf q N) x) := by
      have e2 : ∀ x, under t N q x = (decide (q = x) || under t N (upOf q N) x) := fun x => under_step hw hq hr
      rw [show (fun x => under t N q x) = fun x => (decide (q = x) || under t N (upOf q N) x) from funext e2]
      by_cases h : upOf q N = k
      · rw [decide_eq_true h, Bool.true_or, List.any_eq_true]
        exact ⟨q, (kid_iff hw hn).2 ⟨hk, hq, hr, h⟩, by simp⟩
      · rw [decide_eq_false h, Bool.false_or, Bool.eq_iff_iff, List.any_eq_true, List.any_eq_true]
        constructor
        · rintro ⟨x, hx, hu⟩
          refine ⟨x, hx, ?_⟩
          simp only [Bool.or_eq_true, decide_eq_true_eq] at hu
          rcases hu with hu | hu
          · exact absurd (hu ▸ ((kid_iff hw hn).1 hx).2.2.2) h
          · exact hu
        · rintro ⟨x, hx, hu⟩
          exact ⟨x, hx, by rw [hu]; simp⟩
    rw [e]
theorem cF_up {t : Tr} {N : List TN} (hw : TrW t N) (hn : (nms N).Nodup) (V : List Vt) {k : Vec 32} (hk : has t N k = true) (F : Vec 32 → Option Value) : updF (cFs t N V (kidsT t N k) F) k (.int .i64 (cntT t N V k)) = cF t N V k F := by
  funext q
  unfold updF cF cFs
  rw [under_any hw hn hk]
  by_cases h : q = k
  · subst h; simp
  · rw [if_neg h, decide_eq_false h, Bool.false_or]
theorem sum_take_le {l : List (Vec 32)} {f : Vec 32 → Int} (h : ∀ k, 0 ≤ f k) (i : Nat) : 0 ≤ ((l.take i).map f).sum ∧ ((l.take i).map f).sum ≤ (l.map f).sum := by
  have h0 : ∀ l : List (Vec 32), 0 ≤ (l.map f).sum := fun l => by
    have := sum_le l (fun _ => (0 : Int)) f fun x _ => h x
    rwa [sum_zero l (fun _ => (0 : Int)) fun _ _ => rfl] at this
  refine ⟨h0 _, ?_⟩
  have : (l.map f).sum = ((l.take i).map f).sum + ((l.drop i).map f).sum := by
    rw [← List.sum_append, ← List.map_append, List.take_append_drop]
  have := h0 (l.drop i)
  omega
theorem cntV_nonneg {V : List Vt} (h : bagOk V) (k : Vec 32) : 0 ≤ cntV V k := by
  unfold cntV
  cases hf : V.find? (fun v => decide (v.1 = k)) with
  | none => simp
  | some v =>
    have := h.pos v (List.mem_of_find?_eq_some hf)
    show 0 ≤ v.2
    omega
theorem kids_len (t : Tr) (N : List TN) (k : Vec 32) : (kidsT t N k).length ≤ N.length := by
  unfold kidsT
  by_cases h : has t N k = true
  · rw [if_pos h, List.length_map]
    exact List.length_filter_le ..
  · rw [if_neg h]
    exact Nat.zero_le _
theorem al_int (w : World) : (Instr.alloc T_int true (.tuple #[])).run P w = .ok (.pointer (some ⟨w.heap.size, 0, none⟩)) (w.alloc (.cells #[.int .i64 0] T_int)) := by kernel_rfl
theorem al_mapI (w : World) : (Instr.alloc T_map_api_ID_int true (.tuple #[])).run P w = .ok (.pointer (some ⟨w.heap.size, 0, none⟩)) (w.alloc (.cells #[.map none] T_map_api_ID_int)) := by kernel_rfl
theorem al_fnI (w : World) : (Instr.alloc T_func_api_ID_int true (.tuple #[])).run P w = .ok (.pointer (some ⟨w.heap.size, 0, none⟩)) (w.alloc (.cells #[Value.nilFunc] T_func_api_ID_int)) := by kernel_rfl
abbrev upV (g2 g3 g5 g6 : Nat) : Value := .func (.func f_topo_Topo_counts_1) #[] [ptr g3, ptr g2, ptr g6, ptr g5].toArray
/-- What 'up' sees. -/
abbrev CE (g2 g3 g5 g6 g gmm : Nat) (v : Value) (F : Vec 32 → Option Value) (Ls : List Asn) : List Asn :=
  blk g6 #[upV g2 g3 g5 g6] T_func_api_ID_int :: blk g5 #[.map (some gmm)] T_map_api_ID_int :: blk g3 #[v] T_sl_api_Vote :: blk g2 #[ptr g] T_p_topo_Topo :: mpF gmm F :: Ls
section
variable {w0 w w' : World} {As : List Asn} {g gt gm gs c g2 g3 g5 g6 gmm : Nat} {ov v : Value} {p : Par} {t : Tr} {N : List TN} {S : SV} {m : Nat} {V : List Vt}
theorem counts1_go (hi : TM t N m) (hok : bagOk V) (hr : ToR w0.heap g gt gm gs ov p t N c S) (hv : Rows' Q_api_Vote w0.heap v V) (hn : N.length ≤ 1000000) (k : Vec 32) (z : World) (F : Vec 32 → Option Value) (Ls : List Asn) (hk : has t N k = true)
    (hs : Sep w0 z (CE g2 g3 g5 g6 g gmm v F Ls))
    (ih : ∀ x, x ∈ kidsT t N k → ∀ (z : World) (F : Vec 32 → Option Value) (Ls : List Asn), Sep w0 z (CE g2 g3 g5 g6 g gmm v F Ls) →
      cal P f_topo_Topo_counts_1 [kv x, ptr g3, ptr g2, ptr g6, ptr g5] z fun r z' => r = .int .i64 (cntT t N V x) ∧ Sep w0 z' (CE g2 g3 g5 g6 g gmm v (cF t N V x F) Ls)) :
    cal P f_topo_Topo_counts_1 [kv k, ptr g3, ptr g2, ptr g6, ptr g5] z fun r z' => r = .int .i64 (cntT t N V k) ∧ Sep w0 z' (CE g2 g3 g5 g6 g gmm v (cF t N V k F) Ls) := by
  have hVl := hok.len
  have hsum := (hok.sum V.length).2
  rw [List.take_of_length_le (Nat.le_refl _)] at hsum
  have hcb := fun q => cnt_bounds (t := t) (N := N) hok q
  refine s_topo_Topo_counts_1 fun R hR => ?_
  unfold c_topo_Topo_counts_1
  refine bxQ hs fun g7 w1 hs1 => ?_
  refine ld1_i (v := v) (Sep.blk (Sep.p3 hs1)) rfl ?_
  simp only [L_api_ID hs1.blk]
  refine cal_i (bgCount_spec (hv.fr hs1.fr0) (by omega) k) ?_
  rintro _ w2 ⟨rfl, hf2⟩
  have hs2 := hs1.old hf2
  rw [goodV, if_pos hok]
  refine alloc_s hs2 (al_int w2) fun g8 w3 hs3 => ?_
  refine st1_s hs3 (by simp) rfl fun w4 hs4 => ?_
  refine drH_S hs4 fun w5 hs5 _ => ?_
  refine rdS_ld (v := ptr g) (fun u hu K hk => ld1_i (Sep.blk (Sep.pick hu [5] 6)) rfl hk) ?_
  try simp only [fx, Nat.reduceAdd, forall_const]
  refine rdS_ld (v := ptr gt) (fun u hu K hk => (hu.to hr).ldt K hk) ?_
  refine ⟨kv k, fun u hu => (L_api_ID (Sep.blk hu.p1) _).mpr rfl, ?_⟩
  refine efC_cal (cal_i (Kids_spec (hs5.to hr).tr hn hi.nd k) ?_)
  rintro _ w6 ⟨g1, v1, rfl, hg⟩
  replace hg : Sep w5 w6 [blk g1 #[v1] T_sl_api_ID, rows (rVec 32) v1 (kidsT t N k)] := hg
  obtain ⟨kids, hkids⟩ : ∃ l, l = kidsT t N k := ⟨_, rfl⟩
  rw [← hkids] at hg ih
  have hkl : kids.length ≤ 1000000 := by
    rw [hkids]
    exact Nat.le_trans (kids_len t N k) hn
  have hrec : cntT t N V k = cntV V k + (kids.map (cntT t N V)).sum := by rw [hkids]; exact cnt_rec hi.w hi.nd hok hk
  have hs6 := hs5.join hg
  have hs7 := Sep.pick hs6 [4, 5, 6, 7, 8, 2, 3, 0, 1] 9
  obtain ⟨X, hX⟩ : ∃ X : Nat → List Asn, X = fun i => CE g2 g3 g5 g6 g gmm v (cFs t N V (kids.take i) F) (blk g8 #[.int .i64 (cntV V k + ((kids.take i).map (cntT t N V)).sum)] T_int :: blk g7 (Rdr.cells (rVec 32) k).toArray T_api_ID :: blk g1 #[v1] T_sl_api_ID :: rows (rVec 32) v1 kids :: Ls) := ⟨_, rfl⟩
  have hX0 : Sep w0 w6 (X 0) := by
    rw [hX]
    simp only [List.take_zero, cFs_nil, List.map_nil, List.sum_nil, Int.add_zero]
    exact hs7
  refine rng_s hX0 (told1_iter (v := v1) (g1 := g1) hkl) (fun i z args ⟨x, _, h⟩ => by rw [h]; rfl) (fun i Bs => Bs = X i) (fun _ _ => False) rfl ?_ ?_ ?_ ?_
  · rintro i Bs Ls' z rfl hz
    rw [hX] at hz
    have h8 := Sep.pick hz [7, 8] 9
    exact ⟨⟨_, _, Sep.blk h8⟩, Sep.rows h8.tail⟩
  · rintro i _ z _ LR LB bg fin hlt rfl ⟨x, hx, rfl⟩ hz hbg hfn _
    have hxm := List.mem_of_getElem? hx
    have htk : kids.take (i + 1) = kids.take i ++ [x] := by rw [List.take_add_one, hx]; rfl
    have hst := sum_take_le (l := kids) (f := cntT t N V) (fun q => (hcb q).1) i
    have hst2 := sum_take_le (l := kids) (f := cntT t N V) (fun q => (hcb q).1) (i + 1)
    have hv0 := cntV_nonneg hok k
    have hkb := (hcb k).2
    have hxb := hcb x
    have hsn : ((kids.take (i + 1)).map (cntT t N V)).sum = ((kids.take i).map (cntT t N V)).sum + cntT t N V x := by rw [htk]; simp
    obtain ⟨s, hsd⟩ : ∃ s, s = ((kids.take i).map (cntT t N V)).sum := ⟨_, rfl⟩
    rw [← hsd] at hst hsn
    rw [hsn] at hst2
    refine alloc_s hz (A_api_ID z) fun g9 za hza => ?_
    simp only [List.getD_cons_zero]
    refine St_api_ID (b := x) hza fun zb hzb => ?_
    rw [← List.cons_append] at hzb
    refine hbg zb _ _ hzb fun z1 hz1 => ?_
    rw [hX] at hz1
    simp only [List.cons_append, List.nil_append] at hz1
    rw [← hsd] at hz1
    refine ⟨fun u => ∃ G, Sep w0 u (blk g9 (Rdr.cells (rVec 32) x).toArray T_api_ID :: CE g2 g3 g5 g6 g gmm v G (blk g8 #[.int .i64 (cntV V k + s)] T_int :: blk g7 (Rdr.cells (rVec 32) k).toArray T_api_ID :: blk g1 #[v1] T_sl_api_ID :: rows (rVec 32) v1 kids :: (Ls ++ LB))), ⟨_, hz1.drew _⟩, ?_⟩
    refine rdS_ld (v := .int .i64 (cntV V k + s)) (fun u ⟨G, hu⟩ K hk => ld1_i (Sep.blk (Sep.pick hu [6] 7)) rfl hk) ?_
    refine rdS_ld (v := upV g2 g3 g5 g6) (fun u ⟨G, hu⟩ K hk => ld1_i (Sep.blk hu.p1) rfl hk) ?_
    refine ⟨kv x, fun u ⟨G, hu⟩ => (L_api_ID (Sep.blk hu) _).mpr rfl, ?_⟩
    refine efS_i (calV_mk (by kernel_rfl) (cal_i (ih x hxm _ _ _ (Sep.pick (hz1.drew _) [1, 2, 3, 4, 5, 0] 6)) ?_))
    rintro _ z2 ⟨rfl, hz2⟩
    refine ⟨⟨_, Sep.pick hz2 [5, 0, 1, 2, 3, 4] 6⟩, ?_⟩
    try simp only [fx, Nat.reduceAdd, forall_const]
    rw [wi64 (by omega) (by omega)]
    refine efC_st1 (st1_s (Sep.pick hz2 [6, 0, 1, 2, 3, 4, 7] 8) (by simp) rfl fun z3 hz3 => ?_)
    refine hfn z3 _ rfl ?_
    rw [hX]
    simp only [List.cons_append]
    rw [cFs_snoc, ← htk] at hz3
    rw [show cntV V k + s + cntT t N V x = cntV V k + ((kids.take (i + 1)).map (cntT t N V)).sum by rw [hsn]; omega] at hz3
    exact Sep.pick hz3 [1, 2, 3, 4, 5, 0, 6] 7
  · rintro D _ z2 rfl hz
    rw [hX] at hz
    simp only [List.take_length] at hz
    rw [← hrec] at hz
    refine .inl ⟨rfl, ?_⟩
    refine ld1_i (v := .map (some gmm)) (Sep.blk (Sep.pick hz [2] 3)) rfl ?_
    simp only [L_api_ID (Sep.blk (Sep.pick hz [7] 8))]
    refine ld1_i (v := .int .i64 (cntT t N V k)) (Sep.blk (Sep.pick hz [6] 7)) rfl ?_
    refine putF_s U_map_api_ID_int KT (Sep.pick hz [5, 0, 1, 2, 3, 4, 6, 7, 8, 9] 10) fun z3 hz3 => ?_
    rw [hkids, cF_up hi.w hi.nd V hk] at hz3
    refine ld1_i (v := .int .i64 (cntT t N V k)) (Sep.blk (Sep.pick hz3 [6] 7)) rfl ?_
    refine takeD_s hz3.p1 fun z4 hz4 => hR _ _ ⟨rfl, ?_⟩
    exact Sep.pick hz4 [1, 2, 3, 4, 0] 9
  · rintro D j _ z2 hf _
    exact hf.elim
theorem counts1_spec (hi : TM t N m) (hok : bagOk V) (hr : ToR w0.heap g gt gm gs ov p t N c S) (hv : Rows' Q_api_Vote w0.heap v V) (hn : N.length ≤ 1000000) :
    ∀ (d : Nat) (k : Vec 32) (z : World) (F : Vec 32 → Option Value) (Ls : List Asn), has t N k = true → m - hgt t N k ≤ d → Sep w0 z (CE g2 g3 g5 g6 g gmm v F Ls) →
      cal P f_topo_Topo_counts_1 [kv k, ptr g3, ptr g2, ptr g6, ptr g5] z fun r z' => r = .int .i64 (cntT t N V k) ∧ Sep w0 z' (CE g2 g3 g5 g6 g gmm v (cF t N V k F) Ls) := by
  intro d
  induction d with
  | zero =>
    intro k z F Ls hk hd hs
    exact counts1_go hi hok hr hv hn k z F Ls hk hs fun x hx => by
      have h1 := kid_hgt hi.w hi.nd hx
      have h2 := hi.hb x ((kid_iff hi.w hi.nd).1 hx).2.1
      omega
  | succ d ih =>
    intro k z F Ls hk hd hs
    exact counts1_go hi hok hr hv hn k z F Ls hk hs fun x hx z F Ls hz => by
      have h1 := kid_hgt hi.w hi.nd hx
      have h2 := hi.hb x ((kid_iff hi.w hi.nd).1 hx).2.1
      exact ih x z F Ls ((kid_iff hi.w hi.nd).1 hx).2.1 (by omega) hz
theorem oCounts_spec (hi : TM t N m) (hok : bagOk V) (hr : ToR w.heap g gt gm gs ov p t N c S) (hv : Rows' Q_api_Vote w.heap v V) (hn : N.length ≤ 1000000) :
    cal P f_topo_Topo_counts [ptr g, v] w fun r w' => ∃ gmm, r = .map (some gmm) ∧ Sep w w' [mpF gmm (cF t N V t.root fun _ => none)] := by
  obtain ⟨a0, c0, rfl, hh⟩ := id hv
  refine s_topo_Topo_counts fun R hR => ?_
  unfold c_topo_Topo_counts
  refine bx_s (Sep.start w) fun g2 w1 hs1 => ?_
  replace hs1 : Sep w w1 [blk g2 #[ptr g] T_p_topo_Topo] := hs1
  refine bx_s hs1 fun g3 w2 hs2 => ?_
  replace hs2 : Sep w w2 (blk g3 #[.slice a0 V.length c0] T_sl_api_Vote :: _) := hs2
  refine makeF_s (n := 32) hs2 fun gmm w3 hs3 => ?_
  refine alloc_s hs3 (al_mapI w3) fun g5 w4 hs4 => ?_
  refine st1_s hs4 (by simp) rfl fun w5 hs5 => ?_
  refine alloc_s hs5 (al_fnI w5) fun g6 w6 hs6 => ?_
  refine st1_s hs6 (by simp) rfl fun w7 hs7 => ?_
  replace hs7 : Sep w w7 (blk g6 #[upV g2 g3 g5 g6] T_func_api_ID_int :: blk g5 #[.map (some gmm)] T_map_api_ID_int :: mpF gmm (fun _ => none) :: blk g3 #[.slice a0 V.length c0] T_sl_api_Vote :: blk g2 #[ptr g] T_p_topo_Topo :: []) := hs7
  refine ld1_i (v := ptr g) (Sep.blk (Sep.pick hs7 [4] 5)) rfl ?_
  try simp only [fx, Nat.reduceAdd, forall_const]
  refine (hs7.to hr).ldt _ ?_
  refine cal_i (Root_spec (hs7.to hr).tr) ?_
  rintro _ w8 ⟨rfl, hf8⟩
  have hs8 := hs7.old hf8
  try simp only [fx, Nat.reduceAdd, forall_const]
  refine alloc_s hs8 (A_api_ID w8) fun g7 w9 hs9 => ?_
  refine St_api_ID hs9 fun w10 hs10 => ?_
  refine ld1_i (v := upV g2 g3 g5 g6) (Sep.blk hs10.p1) rfl ?_
  simp only [L_api_ID (Sep.blk hs10)]
  refine calV_mk (by kernel_rfl) (cal_i (counts1_spec hi hok hr hv hn m t.root w10 _ _ has_root (by omega) (Sep.pick hs10 [1, 2, 4, 5, 3, 0] 6)) ?_)
  rintro _ w11 ⟨rfl, hs11⟩
  refine ld1_i (v := .map (some gmm)) (Sep.blk hs11.p1) rfl ?_
  exact hR _ _ ⟨gmm, rfl, Sep.pick hs11 [4] 6⟩
theorem under_top (hw : TrW t N) {k : Vec 32} (hk : has t N k = true) : under t N k t.root = true := by
  rw [under_path hk has_root]
  simp
/-- The child with the most. -/
theorem oBest_spec {gmm : Nat} {F : Vec 32 → Option Value} {f : Vec 32 → Int} {k : Vec 32} (hi : TM t N m) (hr : ToR w.heap g gt gm gs ov p t N c S) (hm : MpR w.heap gmm F) (hF : ∀ q ∈ kidsT t N k, F q = some (.int .i64 (f q))) (hn : N.length ≤ 1000000) :
    cal P f_topo_Topo_best [ptr g, .map (some gmm), kv k] w fun r w' => r = .tuple #[kv (bestT f (kidsT t N k)).1, .int .i64 (bestT f (kidsT t N k)).2] ∧ Fr [] w w' := by
  refine s_topo_Topo_best fun R hR => ?_
  unfold c_topo_Topo_best
  refine bx_s (Sep.start w) fun g4 w1 hs1 => ?_
  replace hs1 : Sep w w1 [blk g4 #[.map (some gmm)] T_map_api_ID_int] := hs1
  refine bxQ hs1 fun g5 w2 hs2 => ?_
  refine alloc_s hs2 (A_api_ID w2) fun g6 w3 hs3 => ?_
  refine alloc_s hs3 (A_api_ID w3) fun g8 w4 hs4 => ?_
  refine alloc_s hs4 (al_int w4) fun g9 w5 hs5 => ?_
  refine st1_s hs5 (by simp) rfl fun w6 hs6 => ?_
  refine drH_S hs6 fun w7 hs7 _ => ?_
  try simp only [fx, Nat.reduceAdd, forall_const]
  refine rdS_ld (v := ptr gt) (fun u hu K hk => (hu.to hr).ldt K hk) ?_
  refine ⟨kv k, fun u hu => (L_api_ID (Sep.blk hu.p3) _).mpr rfl, ?_⟩
  refine efC_cal (cal_i (Kids_spec (hs7.to hr).tr hn hi.nd k) ?_)
  rintro _ w8 ⟨g1, v1, rfl, hg⟩
  replace hg : Sep w7 w8 [blk g1 #[v1] T_sl_api_ID, rows (rVec 32) v1 (kidsT t N k)] := hg
  obtain ⟨kids, hkids⟩ : ∃ l, l = kidsT t N k := ⟨_, rfl⟩
  rw [← hkids] at hg hF hR
  have hkl : kids.length ≤ 1000000 := by
    rw [hkids]
    exact Nat.le_trans (kids_len t N k) hn
  have hs8 := hs7.join hg
  have hs9 := Sep.pick hs8 [2, 3, 4, 0, 1, 6] 7
  obtain ⟨X, hX⟩ : ∃ X : Nat → List Asn, X = fun i => [blk g9 #[.int .i64 (bestT f (kids.take i)).2] T_int, blk g8 (Rdr.cells (rVec 32) (bestT f (kids.take i)).1).toArray T_api_ID, blk g6 (Rdr.cells (rVec 32) (vz 32)).toArray T_api_ID, blk g1 #[v1] T_sl_api_ID, rows (rVec 32) v1 kids, blk g4 #[.map (some gmm)] T_map_api_ID_int] := ⟨_, rfl⟩
  have hX0 : Sep w w8 (X 0) := by
    rw [hX]
    simp only [List.take_zero]
    exact hs9
  refine rng_s hX0 (told1_iter (v := v1) (g1 := g1) hkl) (fun i z args ⟨x, _, h⟩ => by rw [h]; rfl) (fun i Bs => Bs = X i) (fun _ _ => False) rfl ?_ ?_ ?_ ?_
  · rintro i Bs Ls' z rfl hz
    rw [hX] at hz
    exact ⟨⟨_, _, Sep.blk hz.p3⟩, Sep.rows (Sep.pick hz [4] 5)⟩
  · rintro i _ z _ LR LB bg fin hlt rfl ⟨x, hx, rfl⟩ hz hbg hfn _
    have hxm := List.mem_of_getElem? hx
    have htk : kids.take (i + 1) = kids.take i ++ [x] := by rw [List.take_add_one, hx]; rfl
    obtain ⟨b, hb⟩ : ∃ b, b = bestT f (kids.take i) := ⟨_, rfl⟩
    have hstep : bestT f (kids.take (i + 1)) = if b.2 < f x ∨ (f x = b.2 ∧ 0 < b.2 ∧ ltV x b.1 = true) then (x, f x) else b := by
      rw [htk, hb]
      unfold bestT
      rw [List.foldl_append]
      rfl
    refine alloc_s hz (A_api_ID z) fun g10 za hza => ?_
    simp only [List.getD_cons_zero]
    refine St_api_ID (b := x) hza fun zb hzb => ?_
    rw [← List.cons_append] at hzb
    refine hbg zb _ _ hzb fun z1 hz1 => ?_
    rw [hX] at hz1
    simp only [List.cons_append, List.nil_append, ← hb] at hz1
    refine ld1_i (v := .map (some gmm)) (Sep.blk (Sep.pick hz1 [6] 7)) rfl ?_
    simp only [L_api_ID hz1.blk]
    have hmz : MpR z1.heap gmm F := hm.fr hz1.fr0
    rw [lookF1 U_map_api_ID_int KT zInt hmz x, hF x hxm]
    simp only [Option.getD_some]
    have rd9 : ∀ {K : Value → Prop}, K (.int .i64 b.2) → ld1 (.pointer (some ⟨g9, 0, none⟩)) z1.heap K := fun hk => ld1_i (Sep.blk hz1.p1) rfl hk
    have rd8 : ∀ {K : Value → Prop}, K (kv b.1) → ldN 32 (.pointer (some ⟨g8, 0, none⟩)) z1.heap K := fun hk => (L_api_ID (Sep.blk hz1.p2) _).mpr hk
    refine rd9 ?_
    try simp only [fx, Nat.reduceAdd, forall_const]
    -- the guarded operations, one by one
    have hend : ∀ z2, Sep w z2 (blk g10 (Rdr.cells (rVec 32) x).toArray T_api_ID :: (X i ++ LB)) → cnd (.bool (decide (b.2 < f x ∨ (f x = b.2 ∧ 0 < b.2 ∧ ltV x b.1 = true)))) (ldN 32 (.pointer (some ⟨g10, 0, none⟩)) z2.heap fun t39 => stN 32 (.pointer (some ⟨g8, 0, none⟩)) t39 z2 fun w => st1 (.pointer (some ⟨g9, 0, none⟩)) (.int .i64 (f x)) w fun w => fin none w) (fin none z2) := fun z2 hz2 => by
      rw [hX] at hz2
      simp only [List.cons_append, List.nil_append, ← hb] at hz2
      rw [cnd_bool]
      refine ⟨fun h => ?_, fun h => ?_⟩
      · have h := of_decide_eq_true h
        rw [if_pos h] at hstep
        simp only [L_api_ID hz2.blk]
        refine St_api_ID (b := x) hz2.p2 fun z3 hz3 => ?_
        refine st1_s hz3.p2 (by simp) rfl fun z4 hz4 => ?_
        refine hfn z4 _ rfl ?_
        rw [hX]
        simp only [List.cons_append, List.nil_append, hstep]
        exact Sep.pick hz4 [0, 1, 3, 4, 5, 6] 7
      · have h := of_decide_eq_false h
        rw [if_neg h] at hstep
        refine hfn z2 _ rfl ?_
        rw [hX]
        simp only [List.cons_append, List.nil_append, hstep]
        exact hz2.tail
    have hz1' : Sep w z1 (blk g10 (Rdr.cells (rVec 32) x).toArray T_api_ID :: (X i ++ LB)) := by
      rw [hX]
      simp only [List.cons_append, List.nil_append, ← hb]
      exact hz1
    by_cases h1 : b.2 < f x
    · have e1 : decide (f x > b.2) = true := decide_eq_true h1
      have := hend z1 hz1'
      rw [decide_eq_true (Or.inl h1)] at this
      simp only [e1, fx, Nat.reduceAdd, forall_const] at this ⊢
      exact this
    · have e1 : decide (f x > b.2) = false := decide_eq_false h1
      simp only [e1, fx, Nat.reduceAdd, forall_const]
      refine jn1_dup ?_
      refine rd9 ?_
      try simp only [fx, Nat.reduceAdd, forall_const]
      by_cases h2 : f x = b.2
      case neg =>
        have e2 : (f x == b.2) = false := beq_eq_false_iff_ne.2 h2
        have := hend z1 hz1'
        rw [decide_eq_false (by rintro (h | h); · exact h1 h
                                · exact h2 h.1)] at this
        simp only [e2, fx, Nat.reduceAdd, forall_const] at this ⊢
        exact this
      have e2 : (f x == b.2) = true := beq_iff_eq.2 h2
      simp only [e2, fx, Nat.reduceAdd, forall_const]
      refine jn1_dup ?_
      refine rd9 ?_
      try simp only [fx, Nat.reduceAdd, forall_const]
      by_cases h3 : 0 < b.2
      case neg =>
        have e3 : decide (b.2 > 0) = false := decide_eq_false h3
        have := hend z1 hz1'
        rw [decide_eq_false (by rintro (h | h); · exact h1 h
                                · exact h3 h.2.1)] at this
        simp only [e3, fx, Nat.reduceAdd, forall_const] at this ⊢
        exact this
      have e3 : decide (b.2 > 0) = true := decide_eq_true h3
      simp only [e3, fx, Nat.reduceAdd, forall_const]
      refine jn1_dup ?_
      simp only [L_api_ID hz1.blk]
      refine rd8 ?_
      refine cal_i (bgLess_spec x b.1) ?_
      rintro _ z2 ⟨rfl, hf2⟩
      have hz2 := hz1'.old hf2
      have := hend z2 hz2
      rw [show decide (b.2 < f x ∨ (f x = b.2 ∧ 0 < b.2 ∧ ltV x b.1 = true)) = ltV x b.1 by
        cases hl : ltV x b.1 with
        | true => exact decide_eq_true (.inr ⟨h2, h3, rfl⟩)
        | false => exact decide_eq_false (by rintro (h | h); · exact h1 h
                                             · cases h.2.2)] at this
      try simp only [fx, Nat.reduceAdd, forall_const] at this ⊢
      exact this
  · rintro D _ z2 rfl hz
    rw [hX] at hz
    simp only [List.take_length] at hz
    refine .inl ⟨rfl, ?_⟩
    refine ⟨fun u => ∃ a, Sep w u [.obj D dfB, blk g9 #[.int .i64 (bestT f kids).2] T_int, blk g8 (Rdr.cells (rVec 32) (bestT f kids).1).toArray T_api_ID, blk g6 (Rdr.cells (rVec 32) a).toArray T_api_ID, blk g1 #[v1] T_sl_api_ID, rows (rVec 32) v1 kids, blk g4 #[.map (some gmm)] T_map_api_ID_int], ⟨_, hz.drew _⟩, ?_⟩
    refine ⟨kv (bestT f kids).1, fun u ⟨a, hu⟩ => (L_api_ID (Sep.blk hu.p2) _).mpr rfl, ?_⟩
    refine rdS_ld (v := .int .i64 (bestT f kids).2) (fun u ⟨a, hu⟩ K hk => ld1_i (Sep.blk hu.p1) rfl hk) ?_
    refine efS_i (St_api_ID (b := (bestT f kids).1) (hz.drew _).p3 fun z4 hz4 => ⟨⟨_, Sep.pick hz4 [1, 2, 3, 0] 4⟩, ?_⟩)
    refine takeD_s (Sep.p1 hz4) fun z5 hz5 => ?_
    simp only [L_api_ID (Sep.blk hz5)]
    exact hR _ _ ⟨rfl, hz5.fr0⟩
  · rintro D j _ z2 hf _
    exact hf.elim
end
end Go.Fx
set_option linter.unusedVariables false
set_option linter.unusedSimpArgs false
namespace Go.Fx
/-- The map of what was polled. -/
def polF (l : List (Vec 32)) : Vec 32 → Option Value := fun k => if k ∈ l then some (.bool true) else none
theorem polF_nil : polF [] = fun _ => none := by funext k; simp [polF]
theorem polF_cons (k : Vec 32) (l : List (Vec 32)) : updF (polF l) k (.bool true) = polF (k :: l) := by
  funext q
  unfold updF polF
  by_cases h : q = k <;> simp [h]
theorem svF_some {S : SV} {k : Vec 32} {v : Value} (h : svF S k = some v) : ∃ q, S k = some q ∧ v = snv q.1 q.2 := by
  obtain ⟨q, hq, rfl⟩ := Option.map_eq_some_iff.1 h
  exact ⟨q, hq, rfl⟩
section
variable {w0 w w' : World} {As Ys : List Asn} {g gt gm gs c gp : Nat} {ov : Value} {p : Par} {t : Tr} {N : List TN} {S : SV} {m : Nat} {V : List Vt} {pol : List (Vec 32)}
theorem oFails_spec (hs : Sep w0 w (toH g gt gm gs ov p t N c S ++ As)) (hd : Dat N As) (hsd : SDat S Ys) (hYA : ∀ A ∈ Ys, A ∈ As) (hmay : ∀ k x, svM S k = some x → May p x) (hpol : ∀ z, Sep w0 z As → MpR z.heap gp (polF pol)) :
    cal P f_topo_Topo_fails [ptr g, .map (some gp)] w fun r w' => r = .tuple #[] ∧ ∃ gs' S' E, svM S' = failS p t N (svM S) pol ∧ SDat S' (E ++ Ys) ∧ Sep w0 w' (toH g gt gm gs' ov p t N c S' ++ (E ++ As)) := by
  refine s_topo_Topo_fails fun R hR => ?_
  unfold c_topo_Topo_fails
  refine makeK_s (n := 32) hs fun gs' w1 hs1 => ?_
  replace hs1 : Sep w0 w1 (mpK gs' (svF fun _ => none) :: blk g (Rdr.cells Q_topo_Topo (toq p gt gs)).toArray T_topo_Topo :: mpK gs (svF S) :: (trH gt gm ov t N c ++ As)) := hs1
  try simp only [fx, Nat.reduceAdd, forall_const, L_topo_Topo (Sep.blk hs1.p1), L_topo_Topo__inner (Sep.blk hs1.p1), L_topo_Topo__p (Sep.blk hs1.p1), L_topo_Topo__p_K (Sep.blk hs1.p1), L_topo_Topo__p_AlphaPref (Sep.blk hs1.p1), L_topo_Topo__p_AlphaConf (Sep.blk hs1.p1), L_topo_Topo__p_Beta (Sep.blk hs1.p1), L_topo_Topo__snows (Sep.blk hs1.p1)]
  obtain ⟨l, cc, hl, hs1⟩ := mpK_open hs1.p2
  refine range_s U_map_api_ID_api_Snow hs1 hs1.map fun gi w2 hs2 => ?_
  have key : ∀ {z : World} {D : List (Ent 32)} {S2 : SV} {E Ls : List Asn}, Sep w0 z (mit gi gs cc D :: mp gs l cc :: mpK gs' (svF S2) :: blk g (Rdr.cells Q_topo_Topo (toq p gt gs)).toArray T_topo_Topo :: (trH gt gm ov t N c ++ (E ++ As))) →
      z.heap[gs]? = some (.map (ents l) cc) := fun h => h.p1.map
  refine ⟨fun z => ∃ (D U : List (Ent 32)) (S2 : SV) (E : List Asn), RngK l cc D U ∧ (∀ k, svM S2 k = if k ∈ D.map (·.1) then failS p t N (svM S) pol k else none) ∧ SDat S2 (E ++ Ys) ∧
    Sep w0 z (mit gi gs cc D :: mp gs l cc :: mpK gs' (svF S2) :: blk g (Rdr.cells Q_topo_Topo (toq p gt gs)).toArray T_topo_Topo :: (trH gt gm ov t N c ++ (E ++ As))), fun z => l.length - itSeenK gi z,
    ⟨[], l, fun _ => none, [], ⟨List.Perm.refl _⟩, fun k => by simp [svM], (fun k q h => by cases h), hs2⟩, ?_⟩
  rintro w3 ⟨D, U, S2, E, hD, hS2, hsd2, hs3⟩ -
  have hseen : ∀ {z : World} {D : List (Ent 32)} {Bs : List Asn}, Sep w0 z (mit gi gs cc D :: Bs) → itSeenK gi z = D.length := fun h => by
    unfold itSeenK
    rw [Sep.objAt h]
    simp
  refine next_s (E := l) (D := D) hs3 hs3.p1.map hl.ok.lt (fun hall => ?_) fun x w4 hx hxn hm4 hs4 => ?_
  · simp only [fx, Nat.reduceAdd, forall_const]
    obtain rfl := hD.end hl hall
    refine St_topo_Topo__snows (b := .map (some gs')) (Sep.p3 hs3) rfl fun w4 hs4 => ?_
    refine hR _ _ ⟨rfl, gs', S2, E, ?_, hsd2, Sep.pick hs4 [0, 3] 4⟩
    funext k
    rw [hS2]
    split
    · rfl
    · rename_i hk
      have := mt (hD.keys hl k).2 hk
      have hn : svM S k = none := by
        unfold svM svF at *
        cases hq : S k with
        | none => rfl
        | some q => rw [hq] at this; simp at this
      unfold failS
      rw [hn]
      simp
  · obtain ⟨⟨U', hD', hU'⟩, hfx, hxD⟩ := hD.next hl hx hxn
    obtain ⟨⟨v, y⟩, hq, hxv⟩ := svF_some hfx
    have hmy := hmay x.1 y (by unfold svM; rw [hq]; rfl)
    have hyl : y.l.length ≤ 1000000 := by have := hmy.n2; omega
    try simp only [fx, Nat.reduceAdd, forall_const]
    rw [entry_i (h := w4.heap) (Sep.objAt hs4) hm4 hx hl.ok.nd, hxv]
    try simp only [fx, Nat.reduceAdd, forall_const]
    have hrow : ∀ {z : World} {Xs E : List Asn}, Sep w0 z (Xs ++ (E ++ As)) → Rows' Q_api_Choice z.heap v y.l := fun {z Xs E} h => by
      obtain ⟨F, hF⟩ := h.onL (A := rows Q_api_Choice v y.l) (List.mem_append_right _ (List.mem_append_right _ (hYA _ (hsd x.1 (v, y) hq))))
      exact Own.cel hF
    have hlen : D.length + U.length = l.length := by
      have := hD.pm.length_eq
      simpa using this
    refine alloc_s hs4 (A_api_ID w4) fun g5 w5 hs5 => ?_
    refine alloc_s hs5 (A_api_Snow w5) fun g6 w6 hs6 => ?_
    refine St_api_ID (b := x.1) hs6.p1 fun w7 hs7 => ?_
    refine St_api_Snow (b := snr v y) hs7.p1 (one_api_Snow (hrow (Xs := [_, _, _, _, _, _, _, _, _]) hs7).one1) fun w8 hs8 => ?_
    have trR : ∀ {z : World} {Xs E : List Asn}, Sep w0 z (Xs ++ (trH gt gm ov t N c ++ (E ++ As))) → TrR z.heap gt gm ov t N c := fun {z Xs E} h => trH_rd (Sep.rot h |>.perm (by rw [List.append_assoc])) (hd.sub fun A hA => List.mem_append_left _ (List.mem_append_right _ hA))
    refine drH_S hs8 fun w9 hs9 _ => ?_
    refine rdS_ld (v := ptr gt) (fun u hu K hk => (L_topo_Topo__inner (Sep.blk (Sep.p5 hu)) K).mpr hk) ?_
    refine ⟨kv x.1, fun u hu => (L_api_ID (Sep.blk hu.p1) _).mpr rfl, ?_⟩
    refine efC_cal (cal_i (Has_spec (trR (Xs := [_, _, _, _, _, _]) hs9) x.1) ?_)
    rintro _ w10 ⟨rfl, hf10⟩
    have hs10 := hs9.old hf10
    try simp only [fx, Nat.reduceAdd, forall_const]
    have hmu : ∀ {z : World} {Bs : List Asn}, Sep w0 z (mit gi gs cc (D ++ [x]) :: Bs) → l.length - itSeenK gi z < l.length - itSeenK gi w3 := fun h => by
      rw [hseen h, hseen hs3, List.length_append, List.length_singleton]
      omega
    rw [cnd_bool]
    refine ⟨fun h => ?_, fun h => ?_⟩
    · have hno : has t N x.1 ≠ true := by simpa using h
      have hs11 := hs10.tail.tail
      refine ⟨⟨D ++ [x], U', S2, E, hD', fun k => ?_, hsd2, hs11⟩, hmu hs11⟩
      rw [hS2]
      by_cases hk : k ∈ D.map (·.1)
      · rw [if_pos hk, if_pos (by rw [List.map_append]; exact List.mem_append_left _ hk)]
      · rw [if_neg hk]
        split
        · rename_i hk2
          rw [List.map_append, List.mem_append] at hk2
          have : k = x.1 := by simpa using hk2.resolve_left hk
          unfold failS
          rw [this, if_neg hno]
        · rfl
    · have hyes : has t N x.1 = true := by simpa using h
      have hfin : ∀ (z : World) (v' : Value) (E' : List Asn), rows Q_api_Choice v' (if x.1 ∈ pol then y else (failM p y).1).l ∈ E' ++ Ys → (∀ A ∈ E ++ Ys, A ∈ E' ++ Ys) →
          Sep w0 z (blk g6 (Rdr.cells Q_api_Snow (snr v' (if x.1 ∈ pol then y else (failM p y).1))).toArray T_api_Snow :: blk g5 (Rdr.cells (rVec 32) x.1).toArray T_api_ID :: mit gi gs cc (D ++ [x]) :: mp gs l cc :: mpK gs' (svF S2) :: blk g (Rdr.cells Q_topo_Topo (toq p gt gs)).toArray T_topo_Topo :: (trH gt gm ov t N c ++ (E' ++ As))) →
          ldN 32 (.pointer (some ⟨g5, 0, none⟩)) z.heap fun t44 => ldN 67 (.pointer (some ⟨g6, 0, none⟩)) z.heap fun t45 => efU P (Instr.mapUpdate T_map_api_ID_api_Snow (.map (some gs')) t44 t45) z fun z' =>
            (∃ (D U : List (Ent 32)) (S2 : SV) (E : List Asn), RngK l cc D U ∧ (∀ k, svM S2 k = if k ∈ D.map (·.1) then failS p t N (svM S) pol k else none) ∧ SDat S2 (E ++ Ys) ∧
              Sep w0 z' (mit gi gs cc D :: mp gs l cc :: mpK gs' (svF S2) :: blk g (Rdr.cells Q_topo_Topo (toq p gt gs)).toArray T_topo_Topo :: (trH gt gm ov t N c ++ (E ++ As)))) ∧ l.length - itSeenK gi z' < l.length - itSeenK gi w3 := fun z v' E' hE' hsub hz => by
        simp only [L_api_ID (Sep.blk hz.p1), L_api_Snow (Sep.blk hz), L_api_Snow__List (Sep.blk hz), L_api_Snow__Pref (Sep.blk hz), L_api_Snow__Flake (Sep.blk hz), L_api_Snow__Conf (Sep.blk hz), L_api_Snow__Done (Sep.blk hz)]
        refine putK_s U_map_api_ID_api_Snow KT (Sep.p4 hz) fun z' hz' => ?_
        have e0 := svF_upd S2 x.1 (v', if x.1 ∈ pol then y else (failM p y).1)
        replace hz' := Sep.pick (hz') [3, 4, 0] 5
        rw [e0] at hz'
        refine ⟨⟨D ++ [x], U', _, E', hD', fun k => ?_, fun k q hkq => ?_, hz'⟩, hmu hz'⟩
        · rw [svM_upd]
          unfold updS
          by_cases hkx : k = x.1
          · subst hkx
            have hm : x.1 ∈ (D ++ [x]).map (·.1) := by
              rw [List.map_append]
              exact List.mem_append_right _ (by simp)
            rw [if_pos rfl, if_pos hm]
            unfold failS
            rw [if_pos hyes]
            unfold svM
            rw [hq]
            rfl
          · rw [if_neg hkx, hS2]
            have : k ∈ (D ++ [x]).map (·.1) ↔ k ∈ D.map (·.1) := by
              rw [List.map_append, List.mem_append]
              exact ⟨fun h => h.resolve_right (by simpa using hkx), .inl⟩
            by_cases hk : k ∈ D.map (·.1)
            · rw [if_pos hk, if_pos (this.2 hk)]
            · rw [if_neg hk, if_neg (mt this.1 hk)]
        · unfold updV at hkq
          split at hkq
          · simp only [Option.some.injEq] at hkq
            subst hkq
            exact hE'
          · exact hsub _ (hsd2 k q hkq)
      refine ⟨fun z => ∃ v' E', rows Q_api_Choice v' (if x.1 ∈ pol then y else (failM p y).1).l ∈ E' ++ Ys ∧ (∀ A ∈ E ++ Ys, A ∈ E' ++ Ys) ∧
          Sep w0 z (blk g6 (Rdr.cells Q_api_Snow (snr v' (if x.1 ∈ pol then y else (failM p y).1))).toArray T_api_Snow :: blk g5 (Rdr.cells (rVec 32) x.1).toArray T_api_ID :: mit gi gs cc (D ++ [x]) :: mp gs l cc :: mpK gs' (svF S2) :: blk g (Rdr.cells Q_topo_Topo (toq p gt gs)).toArray T_topo_Topo :: (trH gt gm ov t N c ++ (E' ++ As))), ?_, ?_⟩
      case refine_2 =>
        rintro z ⟨v', E', hE', hsub, hz⟩ _
        exact hfin z v' E' hE' hsub hz
      simp only [L_api_ID (Sep.blk hs10.p1)]
      have hpz : ∀ {z : World} {Xs E : List Asn}, Sep w0 z (Xs ++ (E ++ As)) → MpR z.heap gp (polF pol) := fun {z Xs E} h => hpol z (by rw [← List.append_assoc] at h; exact Sep.dropL h)
      rw [lookF1 U_map_api_ID_bool KT zBool (hpz (Xs := [_, _, _, _, _, _, _, _, _]) hs10) x.1]
      by_cases hpx : x.1 ∈ pol
      · have e1 : (polF pol x.1).getD (.bool false) = .bool true := by unfold polF; rw [if_pos hpx]; rfl
        simp only [e1, fx, Nat.reduceAdd, forall_const]
        refine ⟨v, E, by rw [if_pos hpx]; exact List.mem_append_right _ (hsd x.1 (v, y) hq), fun _ h => h, by rw [if_pos hpx]; exact hs10⟩
      · have e1 : (polF pol x.1).getD (.bool false) = .bool false := by unfold polF; rw [if_neg hpx]; rfl
        simp only [e1, fx, Nat.reduceAdd, forall_const]
        have hok : (failM p y).2 = 0 := failM_ok (may_iff.2 hmy)
        rw [if_neg hpx]
        refine drH_S hs10 fun w11 hs11 _ => ?_
        refine ⟨fun a b z => ∃ g7 v', a = ptr g7 ∧ b = .int .i64 0 ∧ Sep w0 z (blk g7 (Rdr.cells Q_api_Snow (snr v' (failM p y).1)).toArray T_api_Snow :: rows Q_api_Choice v' (failM p y).1.l :: blk g6 (Rdr.cells Q_api_Snow (snr v y)).toArray T_api_Snow :: blk g5 (Rdr.cells (rVec 32) x.1).toArray T_api_ID :: mit gi gs cc (D ++ [x]) :: mp gs l cc :: mpK gs' (svF S2) :: blk g (Rdr.cells Q_topo_Topo (toq p gt gs)).toArray T_topo_Topo :: (trH gt gm ov t N c ++ (E ++ As))), ?_, ?_⟩
        · refine ⟨pav p, fun u hu => (L_topo_Topo__p (Sep.blk (Sep.p5 hu)) _).mpr rfl, ?_⟩
          refine ⟨snv v y, fun u hu => (L_api_Snow (Sep.blk hu) _).mpr rfl, ?_⟩
          have hr11 : ∀ {z : World} {Xs : List Asn}, Sep w0 z (Xs ++ (E ++ As)) → Rows' Q_api_Choice z.heap v y.l := fun h => hrow h
          have h1v := (hr11 (Xs := [_, _, _, _, _, _, _, _, _]) hs11).one1
          refine ⟨?_, ?_, trivial⟩
          · refine efC_cut (cal_i (snFail_spec (hr11 (Xs := [_, _, _, _, _, _, _, _, _]) hs11) hyl h1v) ?_)
            rintro _ w12 ⟨v', rfl, hs12⟩
            have hs13 := hs11.join hs12
            refine ⟨fun u => Sep w0 u _, hs13, ?_⟩
            try simp only [fx, Nat.reduceAdd, forall_const]
            refine efS_i (alloc_s hs13 (A_api_Snow w12) fun g7 w14 hs14 => ⟨hs14.tail, ?_⟩)
            refine efC_stN (St_api_Snow (b := snr v' (failM p y).1) hs14 (one_api_Snow (Sep.oneR hs14.p1)) fun w15 hs15 => ?_)
            exact ⟨g7, v', rfl, by rw [hok], hs15⟩
          · refine efS_i (alloc_s hs11 (A_api_Snow w11) fun g7 w12 hs12 => ⟨hs12.tail, ?_⟩)
            refine efC_cal (cal_i (snFail_spec (hr11 (Xs := [_, _, _, _, _, _, _, _, _, _]) hs12) hyl h1v) ?_)
            rintro _ w13 ⟨v', rfl, hs13⟩
            have hs14 := hs12.join hs13
            try simp only [fx, Nat.reduceAdd, forall_const]
            refine efC_stN (St_api_Snow (b := snr v' (failM p y).1) hs14.p1 (one_api_Snow (Sep.oneR hs14)) fun w15 hs15 => ?_)
            exact ⟨g7, v', rfl, by rw [hok], hs15⟩
        · rintro _ _ w12 ⟨g7, v', rfl, rfl, hs12⟩ _
          try simp only [fx, Nat.reduceAdd, forall_const, show ((0 : Int) == 0) = true from rfl, L_api_Snow (Sep.blk hs12), L_api_Snow__List (Sep.blk hs12), L_api_Snow__Pref (Sep.blk hs12), L_api_Snow__Flake (Sep.blk hs12), L_api_Snow__Conf (Sep.blk hs12), L_api_Snow__Done (Sep.blk hs12)]
          refine St_api_Snow (b := snr v' (failM p y).1) hs12.p2 (one_api_Snow (Sep.oneR hs12.p1)) fun w13 hs13 => ?_
          refine ⟨v', rows Q_api_Choice v' (failM p y).1.l :: E, by simp, fun A hA => by rw [List.cons_append]; exact List.mem_cons_of_mem _ hA, ?_⟩
          exact Sep.pick hs13 [0, 3, 4, 5, 6, 7, 8, 9, 10, 2] 11
end
end Go.Fx
set_option linter.unusedVariables false
set_option linter.unusedSimpArgs false
namespace Go.Fx
theorem sumV_good {V : List Vt} (h : bagOk V) : sumV (goodV V) = sumV V := by rw [goodV, if_pos h]
/-- What a poll comes to; none: it is refused, and why. -/
structure PollOut (p : Par) (V : List Vt) (t : Tr) (N : List TN) (S : SM) (s : PS) : Prop where
  reach : Reach p V (ps0 t N S) s
  fin : pstep p V s = none
open Classical in
noncomputable def pollE (p : Par) (V : List Vt) : Int := if ¬ bagOk V then 70 else if p.1 < sumV V then 1 else 0
/-- The least of what may be left. -/
noncomputable def leastN (A : Nat → Prop) : Nat := open Classical in if h : ∃ n, A n then Classical.choose (least_nat h) else 0
theorem leastN_spec {A : Nat → Prop} {n : Nat} (h : A n) : A (leastN A) ∧ leastN A ≤ n := by
  unfold leastN
  rw [dif_pos ⟨n, h⟩]
  have := Classical.choose_spec (least_nat ⟨n, h⟩)
  exact ⟨this.1, this.2 n h⟩
/-- A loop whose measure is of what is known, not of what is seen. -/
theorem lp2_least {D : Type} {a0 b0 : Value} {w0 : World} {body : Env → Value → Value → World → (Value → Value → World → Prop) → Prop} (I : D → Value → Value → World → Prop) (μ : D → Nat) (d0 : D) (h0 : I d0 a0 b0 w0)
    (hstep : ∀ d a b w (K : Value → Value → World → Prop), I d a b w → (∀ d' a' b' w', I d' a' b' w' → μ d' < μ d → K a' b' w') → ∀ junk, body junk a b w K) : lp2 a0 b0 w0 body := by
  refine ⟨fun a b w => ∃ d, I d a b w, fun a b w => leastN fun n => ∃ d, I d a b w ∧ μ d = n, ⟨d0, h0⟩, fun a b w ⟨d, hd⟩ junk => ?_⟩
  obtain ⟨⟨d1, h1, h2⟩, _⟩ := leastN_spec (A := fun n => ∃ d, I d a b w ∧ μ d = n) ⟨d, hd, rfl⟩
  refine hstep d1 a b w _ h1 (fun d' a' b' w' h' hlt => ⟨⟨d', h'⟩, ?_⟩) junk
  have := (leastN_spec (A := fun n => ∃ d, I d a' b' w' ∧ μ d = n) ⟨d', h', rfl⟩).2
  exact Nat.lt_of_le_of_lt this (Nat.lt_of_lt_of_eq hlt h2)
/-- What a poll leaves is what it was: names, counts. -/
structure RC (V : List Vt) (t : Tr) (N : List TN) (s : PS) : Prop where
  names : ∀ q, has s.t s.N q = true → has t N q = true
  cnt : ∀ q, has s.t s.N q = true → cntT s.t s.N V q = cntT t N V q
theorem Reach.rc {p : Par} {V : List Vt} {m : Nat} {t : Tr} {N : List TN} {a b : PS} (h : Reach p V a b) (hi : PI p m a) (hV : bagOk V) (hs : sumV V ≤ p.1) (hc : RC V t N a) : RC V t N b := by
  induction h with
  | refl => exact hc
  | step h1 h2 ih =>
    have hp := h1.pi hi hV hs
    rename_i b c
    unfold pstep at h2
    cases hx : b.S b.pos with
    | none => rw [hx] at h2; cases h2
    | some x =>
      rw [hx] at h2
      simp only at h2
      split at h2
      · rename_i hcnd
        obtain ⟨hk, _, _⟩ := hp.root_x hcnd.1 hx
        simp only [Option.some.injEq] at h2
        subst h2
        refine ⟨fun q hq => ?_, fun q hq => ?_⟩
        · have hq : has (mvT b.t b.N (prf x)) (mvN b.t b.N (prf x)) q = true := hq
          rw [mv_has_iff hp.tm.w hk] at hq
          exact ih.names q (under_has hq).1
        · have hq : has (mvT b.t b.N (prf x)) (mvN b.t b.N (prf x)) q = true := hq
          rw [mv_has_iff hp.tm.w hk] at hq
          show cntT (mvT b.t b.N (prf x)) (mvN b.t b.N (prf x)) V q = _
          rw [mv_cnt hp.tm hk V hq]
          exact ih.cnt q (under_has hq).1
      · split at h2
        · cases h2
        · simp only [Option.some.injEq] at h2
          subst h2
          exact ⟨ih.names, ih.cnt⟩
theorem RC.start (V : List Vt) (t : Tr) (N : List TN) (S : SM) : RC V t N (ps0 t N S) := by
  refine ⟨fun q hq => ?_, fun q hq => ?_⟩
  · have hq : has t (sN N) q = true := hq
    rwa [kb_has (sN_kbs N)] at hq
  · show cntT t (sN N) V q = _
    exact kb_cntT (sN_kbs N) V q
section
variable {w0 w w' : World} {As : List Asn} {g gt gm gs c gp : Nat} {ov v : Value} {p : Par} {t : Tr} {N : List TN} {S : SV} {m : Nat} {V : List Vt}
/-- A poll under way, in memory. -/
def PL (w0 : World) (As : List Asn) (g gt gm gs gp gmm g11 c : Nat) (p : Par) (t0 : Tr) (N0 : List TN) (V : List Vt) (s : PS) (N : List TN) (S : SV) (ov : Value) (E Ys : List Asn) (a b : Value) (z : World) : Prop :=
  s.N = sN N ∧ (∀ x ∈ N, x ∈ N0) ∧ svM S = s.S ∧ SDat S (E ++ Ys) ∧
    Sep w0 z (blk g (Rdr.cells Q_topo_Topo (toq p gt gs)).toArray T_topo_Topo :: mpK gs (svF S) :: blk gt (Rdr.cells Q_tree_Tree (tq s.t gm ov)).toArray T_tree_Tree :: mpN gm N c :: rows (rVec 32) ov (N.map (·.1)) ::
      rows (rVec 32) a s.acc :: rows (rVec 32) b s.rej :: blk g11 (Rdr.cells (rVec 32) s.pos).toArray T_api_ID :: mpF gp (polF s.pol) :: mpF gmm (cF t0 N0 V t0.root fun _ => none) :: (E ++ As))
theorem PL.to {gmm g11 : Nat} {t0 : Tr} {N0 : List TN} {s : PS} {E Xs Ys : List Asn} {a b : Value} {z : World} (hYA : ∀ A ∈ Ys, A ∈ As) (hd : Dat N0 As) (hN : ∀ x ∈ N, x ∈ N0) (hsd : SDat S (E ++ Ys))
    (h : Sep w0 z (Xs ++ (blk g (Rdr.cells Q_topo_Topo (toq p gt gs)).toArray T_topo_Topo :: mpK gs (svF S) :: blk gt (Rdr.cells Q_tree_Tree (tq s.t gm ov)).toArray T_tree_Tree :: mpN gm N c :: rows (rVec 32) ov (N.map (·.1)) ::
      rows (rVec 32) a s.acc :: rows (rVec 32) b s.rej :: blk g11 (Rdr.cells (rVec 32) s.pos).toArray T_api_ID :: mpF gp (polF s.pol) :: mpF gmm (cF t0 N0 V t0.root fun _ => none) :: (E ++ As)))) : ToR z.heap g gt gm gs ov p s.t N c S := by
  have h2 := Sep.dropL h
  refine toH_rd (As := rows (rVec 32) a s.acc :: rows (rVec 32) b s.rej :: blk g11 (Rdr.cells (rVec 32) s.pos).toArray T_api_ID :: mpF gp (polF s.pol) :: mpF gmm (cF t0 N0 V t0.root fun _ => none) :: (E ++ As)) h2 (fun x hx => ?_) (hsd.sub fun A hA => ?_)
  · have := hd x (hN x hx)
    simp [this]
  · simp only [List.mem_cons]
    exact .inr (.inr (.inr (.inr (.inr (List.mem_append.2 ((List.mem_append.1 hA).imp id (hYA A)))))))
theorem sv_cases (S : SV) (k : Vec 32) : (S k = none ∧ svM S k = none ∧ svD S k = (.slice none 0 0, snZ)) ∨ ∃ v x, S k = some (v, x) ∧ svM S k = some x ∧ svD S k = (v, x) := by
  unfold svM svD
  cases h : S k with
  | none => exact .inl ⟨rfl, rfl, rfl⟩
  | some q => exact .inr ⟨q.1, q.2, rfl, rfl, rfl⟩
end
end Go.Fx
set_option linter.unusedVariables false
set_option linter.unusedSimpArgs false
namespace Go.Fx
theorem filt_len {α : Type} (f : α → Bool) : ∀ l : List α, (l.filter f).length + (l.filter fun y => !f y).length = l.length
  | [] => rfl
  | a :: l => by
    have := filt_len f l
    rw [List.filter_cons, List.filter_cons]
    cases f a <;> simp <;> omega
theorem mv_parts {t : Tr} {N : List TN} {k : Vec 32} (hw : TrW t N) (hk : mvOk t N k = true) : (mvN t N k).length + (mvGone t N k).length + 1 ≤ N.length := by
  obtain ⟨hkb, _⟩ := mvOk_spec hk
  have hm : k ∈ nms N := (nms_has hw).2 ⟨blk_has hkb, blk_nroot hw hkb⟩
  obtain ⟨x, hx, rfl⟩ := List.mem_map.1 hm
  have hux : under t N x.1 x.1 = true := under_self hw (blk_has hkb)
  have h1 : (mvN t N x.1).length + 1 ≤ (N.filter fun y => under t N y.1 x.1).length := by
    have e : mvN t N x.1 = (N.filter fun y => under t N y.1 x.1).filter fun y => !decide (y.1 = x.1) := by
      unfold mvN
      rw [List.filter_filter]
    rw [e]
    have hxm : x ∈ N.filter fun y => under t N y.1 x.1 := List.mem_filter.2 ⟨hx, hux⟩
    generalize N.filter (fun y => under t N y.1 x.1) = L at *
    clear e
    induction L with
    | nil => cases hxm
    | cons a L ih =>
      rw [List.filter_cons]
      by_cases ha : a.1 = x.1
      · simp only [ha, decide_true, Bool.not_true, Bool.false_eq_true, if_false, List.length_cons]
        have := List.length_filter_le (fun y : TN => !decide (y.1 = x.1)) L
        omega
      · have hx2 : x ∈ L := by
          rcases List.mem_cons.1 hxm with h | h
          · exact absurd (h ▸ rfl) ha
          · exact h
        simp only [ha, decide_false, Bool.not_false, if_true, List.length_cons]
        have := ih hx2
        omega
  have h2 : (mvGone t N x.1).length = (N.filter fun y => !under t N y.1 x.1).length := by
    unfold mvGone
    rw [List.filter_map, List.length_map]
    rfl
  have h3 := filt_len (fun y : TN => under t N y.1 x.1) N
  omega
theorem Reach.parts {p : Par} {V : List Vt} {m : Nat} {a b : PS} (h : Reach p V a b) (hi : PI p m a) (hV : bagOk V) (hs : sumV V ≤ p.1) : b.acc.length + b.rej.length + b.N.length ≤ a.acc.length + a.rej.length + a.N.length := by
  induction h with
  | refl => exact Nat.le_refl _
  | step h1 h2 ih =>
    have hp := h1.pi hi hV hs
    rename_i b c
    unfold pstep at h2
    cases hx : b.S b.pos with
    | none => rw [hx] at h2; cases h2
    | some x =>
      rw [hx] at h2
      simp only at h2
      split at h2
      · rename_i hcnd
        obtain ⟨hk, _, _⟩ := hp.root_x hcnd.1 hx
        simp only [Option.some.injEq] at h2
        subst h2
        have := mv_parts hp.tm.w hk
        show (b.acc ++ [prf x]).length + (b.rej ++ mvGone b.t b.N (prf x)).length + (mvN b.t b.N (prf x)).length ≤ _
        rw [List.length_append, List.length_append, List.length_singleton]
        omega
      · split at h2
        · cases h2
        · simp only [Option.some.injEq] at h2
          subst h2
          exact ih
theorem permL (E B T : List Asn) : (E ++ (B ++ T)).Perm (B ++ (E ++ T)) := by
  rw [← List.append_assoc, ← List.append_assoc]
  exact List.perm_append_comm.append_right T
section
variable {w0 w w' : World} {As : List Asn} {g gt gm gs c gp : Nat} {ov v : Value} {p : Par} {t : Tr} {N : List TN} {S : SV} {m : Nat} {V : List Vt}
set_option maxHeartbeats 1000000 in
theorem oPoll_spec {Ys : List Asn} (hs : Sep w0 w (toH g gt gm gs ov p t N c S ++ As)) (hd : Dat N As) (hsd : SDat S Ys) (hYA : ∀ A ∈ Ys, A ∈ As) (hi : TpI p m t N (svM S)) (hv : ∀ z, Sep w0 z As → Rows' Q_api_Vote z.heap v V) (hl : V.length ≤ 1000000) (hn : N.length ≤ 1000000) :
    cal P f_topo_Topo_Poll [ptr g, v] w fun r w' =>
      (pollE p V ≠ 0 ∧ r = .tuple #[.slice none 0 0, .slice none 0 0, .int .i64 (pollE p V)] ∧ Sep w0 w' (toH g gt gm gs ov p t N c S ++ As)) ∨
      (pollE p V = 0 ∧ ∃ s av rv gs' ov' N' S' E, PollOut p V t N (svM S) s ∧ r = .tuple #[av, rv, .int .i64 0] ∧ s.N = sN N' ∧ (∀ x ∈ N', x ∈ N) ∧ svM S' = failS p s.t s.N s.S s.pol ∧ SDat S' (E ++ Ys) ∧
        Sep w0 w' (toH g gt gm gs' ov' p s.t N' c S' ++ (rows (rVec 32) av s.acc :: rows (rVec 32) rv s.rej :: (E ++ As)))) := by
  refine s_topo_Topo_Poll fun R hR => ?_
  unfold c_topo_Topo_Poll
  refine cal_i (onone_spec (toH_rd hs hd (hsd.sub hYA))) ?_
  rintro _ _ ⟨rfl, rfl⟩
  try simp only [fx, Nat.reduceAdd, forall_const]
  have hvA : ∀ {z : World}, Sep w0 z (toH g gt gm gs ov p t N c S ++ As) → Rows' Q_api_Vote z.heap v V := fun h => hv _ (Sep.dropL h)
  refine cal_i (bgCheck_spec (hvA hs) (by omega)) ?_
  rintro _ w1 ⟨rfl, hf1⟩
  have hs1 := hs.old hf1
  try simp only [fx, Nat.reduceAdd, forall_const]
  rw [cnd_bool]
  refine ⟨fun h => ?_, fun h => ?_⟩
  · have hb : ¬ bagOk V := fun hb => by rw [bagE_ok hb] at h; cases h
    have he : pollE p V = 70 := by rw [pollE, if_pos hb]
    exact hR _ _ (.inl ⟨by rw [he]; decide, by rw [he], hs1⟩)
  have hb : bagOk V := bagE_zero.1 (by simpa using h)
  refine drH_S hs1 fun w2 hs2 _ => ?_
  refine rdS_ld (v := .int .i64 p.1) (fun u hu K hk => (L_topo_Topo__p_K (Sep.blk hu) K).mpr hk) ?_
  refine efS_i (cal_i (bgTotal_spec (hvA hs2) (by omega)) ?_)
  rintro _ w3 ⟨rfl, hf3⟩
  have hs3 := hs2.old hf3
  refine ⟨hs3, ?_⟩
  rw [sumV_good hb]
  try simp only [fx, Nat.reduceAdd, forall_const]
  rw [cnd_bool]
  refine ⟨fun h => ?_, fun h => ?_⟩
  · have h : p.1 < sumV V := by simpa using h
    have he : pollE p V = 1 := by rw [pollE, if_neg (by simpa using hb), if_pos h]
    exact hR _ _ (.inl ⟨by rw [he]; decide, by rw [he], hs3⟩)
  have hsum : sumV V ≤ p.1 := by simp at h; omega
  have he : pollE p V = 0 := by rw [pollE, if_neg (by simpa using hb), if_neg (by omega)]
  refine cal_i (oCounts_spec hi.tm hb (toH_rd hs3 hd (hsd.sub hYA)) (hvA hs3) hn) ?_
  rintro _ w4 ⟨gmm, rfl, hs4⟩
  replace hs4 := hs3.join hs4
  refine makeF_s (n := 32) hs4 fun gp w5 hs5 => ?_
  have hs5 : Sep w0 w5 (mpF gp (polF []) :: mpF gmm (cF t N V t.root fun _ => none) :: blk g (Rdr.cells Q_topo_Topo (toq p gt gs)).toArray T_topo_Topo :: mpK gs (svF S) :: (trH gt gm ov t N c ++ As)) := by rw [polF_nil]; exact hs5
  have hs5' : Sep w0 w5 (toH g gt gm gs ov p t N c S ++ (mpF gp (polF []) :: mpF gmm (cF t N V t.root fun _ => none) :: As)) := Sep.pick hs5 [2, 3, 4, 5, 6, 0, 1] 7
  have hto5 : ToR w5.heap g gt gm gs ov p t N c S := toH_rd hs5' (hd.sub fun A hA => by simp [hA]) (hsd.sub fun A hA => by simp [hYA A hA])
  refine hto5.ldt _ ?_
  refine cal_i (Root_spec hto5.tr) ?_
  rintro _ w6 ⟨rfl, hf6⟩
  have hs6 := hs5'.old hf6
  try simp only [fx, Nat.reduceAdd, forall_const]
  refine alloc_s hs6 (A_api_ID w6) fun g11 w7 hs7 => ?_
  refine St_api_ID hs7 fun w8 hs8 => ?_
  have hps := hi.pi
  have hvE : ∀ {z : World} {Xs E : List Asn}, Sep w0 z (Xs ++ (E ++ As)) → True := fun _ => trivial
  refine ⟨fun a b z => ∃ s N' S' ov' E, Reach p V (ps0 t N (svM S)) s ∧ pstep p V s = none ∧ PL w0 As g gt gm gs gp gmm g11 c p t N V s N' S' ov' E Ys a b z, ?_, ?_⟩
  · refine lp2_least (D := PS) (fun s a b z => ∃ N' S' ov' E, Reach p V (ps0 t N (svM S)) s ∧ PL w0 As g gt gm gs gp gmm g11 c p t N V s N' S' ov' E Ys a b z) (muP m) (ps0 t N (svM S)) ⟨N, S, ov, [], .refl _, rfl, fun _ h => h, rfl, hsd, ?_⟩ ?_
    · exact Sep.pick (Sep.nilR (q := rVec 32) (Sep.nilR (q := rVec 32) hs8)) [3, 4, 5, 6, 7, 0, 1, 2, 8, 9] 10
    rintro s a b z K ⟨N', S', ov', E, hre, hN, hsub, hSM, hsd', hz⟩ hK -
    have hp := hre.pi hps hb hsum
    have hrc := hre.rc hps hb hsum (RC.start V t N (svM S))
    have hkb : kbs N' = kbs s.N := by rw [hN, sN_kbs]
    have hlN : N'.length ≤ 1000000 ∧ s.acc.length + s.rej.length + N'.length ≤ 1000000 := by
      have h1 := hre.parts hps hb hsum
      have h2 := kb_len hkb
      have h3 : (ps0 t N (svM S)).N.length = N.length := kb_len (sN_kbs N)
      have h4 : (ps0 t N (svM S)).acc.length = 0 := rfl
      have h5 : (ps0 t N (svM S)).rej.length = 0 := rfl
      omega
    have htm : TM s.t N' m := hp.tm.kb hkb.symm
    have hto : ToR z.heap g gt gm gs ov' p s.t N' c S' := PL.to (Xs := []) hYA hd hsub hsd' hz
    refine hto.ldt _ ?_
    refine cal_i (Root_spec hto.tr) ?_
    rintro _ z1 ⟨rfl, hf1⟩
    have hz1 := hz.old hf1
    try simp only [fx, Nat.reduceAdd, forall_const]
    refine alloc_s hz1 (A_api_ID z1) fun g13 z2 hz2 => ?_
    refine St_api_ID hz2 fun z3 hz3 => ?_
    refine drH_S hz3 fun z4 hz4 _ => ?_
    refine rdS_ld (v := .map (some gs)) (fun u hu K hk => (L_topo_Topo__snows (Sep.blk hu.p1) K).mpr hk) ?_
    refine ⟨kv s.pos, fun u hu => (L_api_ID (Sep.blk (Sep.pick hu [8] 9)) _).mpr rfl, ?_⟩
    refine ⟨.tuple #[(svF S' s.pos).getD (snv (.slice none 0 0) snZ), .bool (svF S' s.pos).isSome], fun u hu => ((PL.to (Xs := [_]) hYA hd hsub hsd' hu).look s.pos _).mpr rfl, ?_⟩
    rw [svD_get, svF_is]
    try simp only [fx, Nat.reduceAdd, forall_const]
    refine efS_i (alloc_s hz4 (A_api_Snow z4) fun g15 z5 hz5 => ⟨hz5.tail, ?_⟩)
    refine efC_stN (St_api_Snow (b := snr (svD S' s.pos).1 (svD S' s.pos).2) hz5 (one_api_Snow ((PL.to (Xs := [_, _]) hYA hd hsub hsd' hz5).rwD s.pos).one1) fun z6 hz6 => ?_)
    try simp only [fx, Nat.reduceAdd, forall_const, L_api_ID (Sep.blk (Sep.pick hz6 [9] 10)), L_api_ID (Sep.blk hz6.p1), L_api_Snow (Sep.blk hz6), L_api_Snow__List (Sep.blk hz6), L_api_Snow__Pref (Sep.blk hz6), L_api_Snow__Flake (Sep.blk hz6), L_api_Snow__Conf (Sep.blk hz6), L_api_Snow__Done (Sep.blk hz6), eq_api_ID]
    rw [cnd_bool]
    refine ⟨fun h => ?_, fun h => ?_⟩
    · -- the root's instance is done
      simp only [Bool.and_eq_true, decide_eq_true_eq] at h
      obtain ⟨v0, x, hS0, hx, hD⟩ := (sv_cases S' s.pos).resolve_left (by rintro ⟨h1, _⟩; rw [h1] at h; simp at h)
      rw [hD] at h ⊢
      have hxS : s.S s.pos = some x := by rw [← hSM]; exact hx
      obtain ⟨⟨_, hroot⟩, hdn⟩ := h
      have hdn : x.dn = true := hdn
      have hst : pstep p V s = some (s.moved (prf x)) := by
        unfold pstep
        rw [hxS]
        simp only
        rw [if_pos ⟨hroot, hdn⟩]
      have hmu := (pstep_ok hp hb hsum hst).2
      have hmv : mvOk s.t N' (prf x) = true := by rw [kb_mvOk hkb]; exact (hp.root_x hroot hxS).1
      have hmp := mv_parts htm.w hmv
      refine cal_i snPrefers_spec ?_
      rintro _ z7 ⟨rfl, hf7⟩
      have hz7 := hz6.old hf7
      refine alloc_s hz7 (A_api_ID z7) fun g17 z8 hz8 => ?_
      refine St_api_ID (b := prf x) hz8 fun z9 hz9 => ?_
      refine drH_S hz9 fun z10 hz10 _ => ?_
      refine rdS_ld (v := ptr gt) (fun u hu K hk => (L_topo_Topo__inner (Sep.blk (Sep.p3 hu)) K).mpr hk) ?_
      refine ⟨kv (prf x), fun u hu => (L_api_ID (Sep.blk hu) _).mpr rfl, ?_⟩
      have hzm := Sep.pick hz10 [5, 6, 7, 0, 1, 2, 3, 4, 8, 9, 10, 11, 12] 13
      refine efC_cal (cal_i (Move_spec (t := s.t) (N := N') (g := gt) (gm := gm) (c := c) (ov := ov') hzm (fun y hy => ?_) htm.w htm.nd hlN.1 (prf x)) ?_)
      · exact List.mem_cons_of_mem _ (List.mem_cons_of_mem _ (List.mem_cons_of_mem _ (List.mem_cons_of_mem _ (List.mem_cons_of_mem _ (List.mem_cons_of_mem _ (List.mem_cons_of_mem _ (List.mem_cons_of_mem _ (List.mem_cons_of_mem _ (List.mem_cons_of_mem _ (List.mem_append_right _ (hd y (hsub y hy))))))))))))
      rintro _ z11 (⟨hf, _⟩ | ⟨_, gv, ov2, rfl, hz11⟩)
      · rw [hmv] at hf; cases hf
      rw [kb_mvT hkb, kb_mvGone hkb] at hz11
      try simp only [fx, Nat.reduceAdd, forall_const, show ((0 : Int) != 0) = false from rfl, L_api_ID (Sep.blk (Sep.pick hz11 [4] 5))]
      refine bldI hz11 fun q1 z12 hz12 => ?_
      refine appI (Sep.pick hz12 [10, 0, 1, 2, 3, 4, 5, 6, 7, 8, 9, 11, 12, 13, 14] 15) (Sep.rows hz12) (by omega) fun a' z13 hz13 => ?_
      have hgl : (mvGone s.t s.N (prf x)).length ≤ 1000000 := by rw [← kb_mvGone hkb]; omega
      have hgv : Rows' (rVec 32) z13.heap gv (mvGone s.t s.N (prf x)) := Sep.rows (Sep.pick hz13 [5] 6)
      refine rows_app S_sl_api_ID U_sl_api_ID (by simp) (Sep.pick hz13 [11, 0, 1, 2, 3, 4, 5, 6, 7, 8, 9, 10, 12, 13, 14] 15) hgv ?_ (by omega) (by omega) fun b' z14 hz14 => ?_
      · intro u hu
        obtain ⟨y, hy, hu⟩ := List.mem_flatMap.1 hu
        exact oneVec u hu
      simp only [L_api_ID (Sep.blk (Sep.pick hz14 [7] 8))]
      refine St_api_ID (b := prf x) (Sep.pick hz14 [12, 0, 1, 2, 3, 4, 5, 6, 7, 8, 9, 10, 11, 13, 14] 15) fun z15 hz15 => ?_
      refine hK (s.moved (prf x)) _ _ _ ⟨mvN s.t N' (prf x), S', ov2, E, hre.step hst, ?_, fun y hy => hsub y (List.mem_filter.1 hy).1, hSM, hsd', ?_⟩ hmu
      · show mvN s.t s.N (prf x) = _
        rw [hN, sN_mv]
      · exact Sep.pick hz15 [11, 12, 4, 5, 6, 2, 1, 0, 13, 14] 15
    · -- polled, or the end
      have hnc : ∀ x, s.S s.pos = some x → ¬ (s.pos = s.t.root ∧ x.dn = true) := fun x hx hc => by
        rw [← hSM] at hx
        obtain ⟨v0, hS0⟩ := svM_some hx
        have hD : svD S' s.pos = (v0, x) := by unfold svD; rw [hS0]; rfl
        rw [hD, hS0] at h
        have h2 : x.dn = true := hc.2
        simp [hc.1, h2] at h
      refine cal_i (oBest_spec (f := cntT s.t s.N V) htm (PL.to (Xs := [_, _]) hYA hd hsub hsd' hz6) (mpF_rd (Sep.pick hz6 [11] 12)) (fun q hq => ?_) hlN.1) ?_
      · rw [kb_kidsT hkb] at hq
        have hqs := ((kid_iff hp.tm.w hp.tm.nd).1 hq).2.1
        unfold cF
        rw [if_pos (under_top hi.tm.w (hrc.names q hqs)), hrc.cnt q hqs]
      rintro _ z7 ⟨rfl, hf7⟩
      rw [kb_kidsT hkb]
      have hz7 := hz6.old hf7
      try simp only [fx, Nat.reduceAdd, forall_const]
      refine alloc_s hz7 (A_api_ID z7) fun g20 z8 hz8 => ?_
      refine St_api_ID (b := (s.best V).1) hz8 fun z9 hz9 => ?_
      refine (L_topo_Topo__p_AlphaPref (Sep.blk (Sep.p3 hz9)) _).mpr ?_
      try simp only [fx, Nat.reduceAdd, forall_const]
      rw [cnd_bool]
      refine ⟨fun h2 => ?_, fun h2 => ?_⟩
      · have hend : pstep p V s = none := by
          unfold pstep
          cases hx : s.S s.pos with
          | none => rfl
          | some x =>
            simp only
            rw [if_neg (hnc x hx), if_pos (by simpa using h2)]
        exact ⟨s, N', S', ov', E, hre, hend, hN, hsub, hSM, hsd', Sep.pick hz9 [3, 4, 5, 6, 7, 8, 9, 10, 11, 12] 13⟩
      have hge : ¬ (s.best V).2 < p.2.1 := by simpa using h2
      obtain ⟨x, hxS⟩ : ∃ x, s.S s.pos = some x := by
        cases hx : s.S s.pos with
        | some x => exact ⟨x, rfl⟩
        | none =>
          exfalso
          have h3 := hp.no s.pos hp.pos hx
          apply hge
          show (bestT (cntT s.t s.N V) (kidsT s.t s.N s.pos)).2 < p.2.1
          rw [h3]
          obtain ⟨q1, q2, q3, _⟩ := parE_zero hi.par
          show (0 : Int) < p.2.1
          omega
      obtain ⟨v0, hS0⟩ := svM_some (S := S') (k := s.pos) (x := x) (by rw [hSM]; exact hxS)
      have hst : pstep p V s = some (s.polled (pollM p x (s.best V).1 (s.best V).2).1 (s.best V).1) := by
        unfold pstep
        rw [hxS]
        simp only
        rw [if_neg (hnc x hxS), if_neg hge]
      have hmu := (pstep_ok hp hb hsum hst).2
      obtain ⟨i1, i2, i3, i4, i5⟩ := hp.best_in hb hsum hxS hge
      have hmx := hp.may _ _ hxS
      obtain ⟨e1, e2, e3, e4, _⟩ := poll_may hmx i5 i3 i4
      have hxl : x.l.length ≤ 1000000 := by have := hmx.n2; omega
      obtain ⟨kk, hkk⟩ : ∃ kk, kk = (s.best V).1 := ⟨_, rfl⟩
      obtain ⟨nn, hnn⟩ : ∃ nn, nn = (s.best V).2 := ⟨_, rfl⟩
      rw [← hkk, ← hnn] at hst hmu e1
      rw [show (bestT (cntT s.t s.N V) (kidsT s.t s.N s.pos)).2 = nn from hnn.symm]
      rw [← hkk] at hz9
      obtain ⟨y, hy⟩ : ∃ y, y = (pollM p x kk nn).1 := ⟨_, rfl⟩
      rw [← hy] at hst hmu
      have hrow : ∀ {z : World} {Xs : List Asn}, Sep w0 z (Xs ++ (E ++ As)) → Rows' Q_api_Choice z.heap v0 x.l := fun {z Xs} h => by
        obtain ⟨F, hF⟩ := h.onL (A := rows Q_api_Choice v0 x.l) (List.mem_append_right _ ((List.mem_append.1 (hsd' s.pos (v0, x) hS0)).elim (fun h => List.mem_append_left _ h) (fun h => List.mem_append_right _ (hYA _ h))))
        exact Own.cel hF
      have h1v : v0.oneCell' = true := (hrow (Xs := [_, _, _, _, _, _, _, _, _, _, _, _, _]) hz9).one1
      refine drH_S hz9 fun z10 hz10 _ => ?_
      refine ⟨fun a2 b2 z => ∃ g22 v', a2 = ptr g22 ∧ b2 = .int .i64 0 ∧ Sep w0 z (blk g22 (Rdr.cells Q_api_Snow (snr v' y)).toArray T_api_Snow :: rows Q_api_Choice v' y.l :: blk g20 (Rdr.cells (rVec 32) kk).toArray T_api_ID :: blk g15 (Rdr.cells Q_api_Snow (snr (svD S' s.pos).1 (svD S' s.pos).2)).toArray T_api_Snow :: blk g13 (Rdr.cells (rVec 32) s.t.root).toArray T_api_ID ::
        blk g (Rdr.cells Q_topo_Topo (toq p gt gs)).toArray T_topo_Topo :: mpK gs (svF S') :: blk gt (Rdr.cells Q_tree_Tree (tq s.t gm ov')).toArray T_tree_Tree :: mpN gm N' c :: rows (rVec 32) ov' (N'.map (·.1)) ::
        rows (rVec 32) a s.acc :: rows (rVec 32) b s.rej :: blk g11 (Rdr.cells (rVec 32) s.pos).toArray T_api_ID :: mpF gp (polF s.pol) :: mpF gmm (cF t N V t.root fun _ => none) :: (E ++ As)), ?_, ?_⟩
      · refine ⟨pav p, fun u hu => (L_topo_Topo__p (Sep.blk (Sep.p3 hu)) _).mpr rfl, ?_⟩
        refine rdS_ld (v := .map (some gs)) (fun u hu K hk => (L_topo_Topo__snows (Sep.blk (Sep.p3 hu)) K).mpr hk) ?_
        refine ⟨kv s.pos, fun u hu => (L_api_ID (Sep.blk (Sep.pick hu [10] 11)) _).mpr rfl, ?_⟩
        refine ⟨snv v0 x, fun u hu => ?_, ?_⟩
        · rw [lookF1 U_map_api_ID_api_Snow KT zSn (PL.to (Xs := [_, _, _]) hYA hd hsub hsd' hu).mp.mp s.pos]
          unfold svF
          rw [hS0]
          rfl
        refine ⟨kv kk, fun u hu => (L_api_ID (Sep.blk hu) _).mpr rfl, ?_⟩
        refine ⟨?_, ?_, trivial⟩
        · refine efC_cut (cal_i (snPoll_spec (hrow (Xs := [_, _, _, _, _, _, _, _, _, _, _, _, _]) hz10) hxl h1v) ?_)
          rintro _ z11 ⟨v', rfl, hz11⟩
          have hz12 := hz10.join hz11
          refine ⟨fun u => Sep w0 u _, hz12, ?_⟩
          try simp only [fx, Nat.reduceAdd, forall_const]
          rw [← hy] at hz12 ⊢
          refine efS_i (alloc_s hz12 (A_api_Snow z11) fun g22 z13 hz13 => ⟨hz13.tail, ?_⟩)
          refine efC_stN (St_api_Snow (b := snr v' y) hz13 (one_api_Snow (Sep.oneR hz13.p1)) fun z14 hz14 => ?_)
          exact ⟨g22, v', rfl, by rw [e1], hz14⟩
        · refine efS_i (alloc_s hz10 (A_api_Snow z10) fun g22 z11 hz11 => ⟨hz11.tail, ?_⟩)
          refine efC_cal (cal_i (snPoll_spec (hrow (Xs := [_, _, _, _, _, _, _, _, _, _, _, _, _, _]) hz11) hxl h1v) ?_)
          rintro _ z12 ⟨v', rfl, hz12⟩
          have hz13 := hz11.join hz12
          try simp only [fx, Nat.reduceAdd, forall_const]
          rw [← hy] at hz13 ⊢
          refine efC_stN (St_api_Snow (b := snr v' y) hz13.p1 (one_api_Snow (Sep.oneR hz13)) fun z14 hz14 => ?_)
          exact ⟨g22, v', rfl, by rw [e1], hz14⟩
      rintro _ _ z11 ⟨g22, v', rfl, rfl, hz11⟩ _
      try simp only [fx, Nat.reduceAdd, forall_const, show ((0 : Int) != 0) = false from rfl]
      refine drH_S hz11 fun z12 hz12 _ => ?_
      refine rdS_ld (v := .map (some gs)) (fun u hu K hk => (L_topo_Topo__snows (Sep.blk (Sep.pick hu [5] 6)) K).mpr hk) ?_
      refine ⟨kv s.pos, fun u hu => (L_api_ID (Sep.blk (Sep.pick hu [12] 13)) _).mpr rfl, ?_⟩
      refine ⟨snv v' y, fun u hu => (L_api_Snow (Sep.blk hu) _).mpr rfl, ?_⟩
      refine efC_efU (putK_s U_map_api_ID_api_Snow KT (Sep.pick hz12 [6, 0, 1, 2, 3, 4, 5, 7, 8, 9, 10, 11, 12, 13, 14] 15) fun z13 hz13 => ?_)
      rw [svF_upd S' s.pos (v', y)] at hz13
      simp only [L_api_ID (Sep.blk (Sep.pick hz13 [12] 13))]
      refine putF_s U_map_api_ID_bool KT (Sep.pick hz13 [13, 0, 1, 2, 3, 4, 5, 6, 7, 8, 9, 10, 11, 12, 14] 15) fun z14 hz14 => ?_
      rw [polF_cons] at hz14
      try simp only [fx, Nat.reduceAdd, forall_const, L_api_ID (Sep.blk (Sep.pick hz14 [13] 14)), L_api_ID (Sep.blk (Sep.pick hz14 [6] 7)), L_api_ID (Sep.blk (Sep.pick hz14 [4] 5)), L_api_Snow (Sep.blk (Sep.pick hz14 [2] 3)), L_api_Snow__List (Sep.blk (Sep.pick hz14 [2] 3)), L_api_Snow__Pref (Sep.blk (Sep.pick hz14 [2] 3)), L_api_Snow__Flake (Sep.blk (Sep.pick hz14 [2] 3)), L_api_Snow__Conf (Sep.blk (Sep.pick hz14 [2] 3)), L_api_Snow__Done (Sep.blk (Sep.pick hz14 [2] 3)), ne_api_ID]
      have hSM2 : svM (updV S' s.pos (v', y)) = updS s.S s.pos y := by rw [svM_upd, hSM]
      have hsd2 : SDat (updV S' s.pos (v', y)) ((rows Q_api_Choice v' y.l :: E) ++ Ys) := SDat.upd hsd'
      rw [cnd_bool]
      refine ⟨fun h3 => ?_, fun h3 => ?_⟩
      · have h3 : s.pos ≠ s.t.root ∨ y.dn = false := by simpa using h3
        refine St_api_ID (b := kk) (Sep.pick hz14 [13, 0, 1, 2, 3, 4, 5, 6, 7, 8, 9, 10, 11, 12, 14] 15) fun z15 hz15 => ?_
        refine hK (s.polled y kk) _ _ _ ⟨N', updV S' s.pos (v', y), ov', rows Q_api_Choice v' y.l :: E, hre.step hst, hN, hsub, hSM2, hsd2, ?_⟩ hmu
        have ep : (s.polled y kk).pos = kk := if_pos h3
        rw [ep]
        exact Sep.pick hz15 [8, 2, 9, 10, 11, 12, 13, 0, 1, 14, 4] 15
      · have h3 : ¬ (s.pos ≠ s.t.root ∨ y.dn = false) := by simpa using h3
        refine hK (s.polled y kk) _ _ _ ⟨N', updV S' s.pos (v', y), ov', rows Q_api_Choice v' y.l :: E, hre.step hst, hN, hsub, hSM2, hsd2, ?_⟩ hmu
        have ep : (s.polled y kk).pos = s.pos := if_neg h3
        rw [ep]
        exact Sep.pick hz14 [7, 1, 8, 9, 10, 11, 12, 13, 0, 14, 3] 15
  · rintro a b z ⟨s, N', S', ov', E, hre, hend, hN, hsub, hSM, hsd', hz⟩ _
    have hp := hre.pi hps hb hsum
    have hz2 := Sep.pick hz [0, 1, 2, 3, 4, 5, 6, 7, 8, 9] 10
    refine cal_i (oFails_spec (As := rows (rVec 32) a s.acc :: rows (rVec 32) b s.rej :: blk g11 (Rdr.cells (rVec 32) s.pos).toArray T_api_ID :: mpF gp (polF s.pol) :: mpF gmm (cF t N V t.root fun _ => none) :: (E ++ As)) (t := s.t) (N := N') (pol := s.pol) (gp := gp) hz2 (fun x hx => ?_) hsd' (fun A hA => ?_) (fun k x hx => hp.may k x (by rw [← hSM]; exact hx)) (fun z h => mpF_rd (Sep.pick h [3] 5))) ?_
    · have := hd x (hsub x hx)
      simp [this]
    · simp only [List.mem_cons]
      exact .inr (.inr (.inr (.inr (.inr (List.mem_append.2 ((List.mem_append.1 hA).imp id (hYA A)))))))
    rintro _ z3 ⟨rfl, gs', S2, E2, hS2, hsd2, hz3⟩
    refine hR _ _ (.inr ⟨he, s, a, b, gs', ov', N', S2, E2 ++ E, ⟨hre, hend⟩, rfl, hN, hsub, ?_, by rw [List.append_assoc]; exact hsd2, ?_⟩)
    · rw [hS2, hSM]
      funext k
      unfold failS
      rw [kb_has (by rw [hN, sN_kbs] : kbs N' = kbs s.N)]
    · rw [List.append_assoc]
      have h4 := hz3.perm (List.Perm.append_left _ (permL E2 [_, _, _, _, _] (E ++ As)))
      exact Sep.pick h4 [0, 1, 2, 3, 4, 5, 6] 10
end
end Go.Fx
set_option linter.unusedVariables false
set_option linter.unusedSimpArgs false
namespace Go.Fx
section
variable {w0 w w' : World} {As : List Asn} {gx g gm gr c : Nat} {ov lv x : Value} {t : Tr} {N M : List TN} {ids : List (Vec 32)}
def AddRel (t : Tr) (N : List TN) (b : Blk) (N' : List TN) (E : List Asn) : Prop :=
  (addE t N b ≠ 0 ∧ N' = N ∧ E = []) ∨ (addE t N b = 0 ∧ ∃ vd c, N' = N ++ [(b.id, b, vd, c)] ∧ E = [ownB vd b.d])
def addId (t : Tr) (N : List TN) (b : Blk) : Vec 32 := if addE t N b = 0 then b.id else vz 32
theorem AddU {b : Blk} {v : Value} (Cs Ds : List Asn) (hs : Sep w0 w (trH g gm ov t N c ++ (Cs ++ Ds))) (hd : Dat N (Cs ++ Ds)) (hw : TrW t N) (hC : Cub w) (hb : RdB w.heap v b.d) (hh : b.h ≤ maxI) (hn : N.length ≤ 1000000) :
    cal P f_tree_Tree_Add [.pointer (some ⟨g, 0, none⟩), bq b v] w fun r w' => ∃ N' ov' c' E, r = .tuple #[kv (addId t N b), .int .i64 (addE t N b)] ∧ AddRel t N b N' E ∧ Sep w0 w' (trH g gm ov' t N' c' ++ (Cs ++ (E ++ Ds))) := by
  refine cal_i (Add_spec hs hd hw hC hb hh hn) ?_
  rintro r w' (⟨he, rfl, hs'⟩ | ⟨he, rfl, ov', vd, hs'⟩)
  · exact ⟨N, ov, c, [], by rw [addId, if_neg he], .inl ⟨he, rfl, rfl⟩, hs'⟩
  · exact ⟨_, ov', _, [ownB vd b.d], by rw [addId, if_pos he, he], .inr ⟨he, vd, c, rfl, rfl⟩, hs'.perm ((List.perm_append_comm_assoc [ownB vd b.d] Cs Ds).append_left _)⟩
end
end Go.Fx
set_option linter.unusedVariables false
set_option linter.unusedSimpArgs false
namespace Go.Fx
section
variable {w0 w w' : World} {As : List Asn} {g gt gm gs c : Nat} {ov v : Value} {p : Par} {t : Tr} {N : List TN} {S : SV} {m : Nat}
theorem oNew_spec (p : Par) (r : Vec 32) (h mo : Int) : cal P f_topo_New [pav p, kv r, .int .i64 h, .int .i64 mo] w fun v w' =>
    (∃ e, e ≠ 0 ∧ e = (if parE p ≠ 0 then parE p else 1) ∧ (parE p ≠ 0 ∨ ¬ (0 ≤ h ∧ 1 ≤ mo ∧ mo ≤ 256)) ∧ v = .tuple #[.pointer none, .int .i64 e] ∧ Fr [] w w') ∨
    ((parE p = 0 ∧ 0 ≤ h ∧ 1 ≤ mo ∧ mo ≤ 256) ∧ ∃ g gt gm gs, v = .tuple #[ptr g, .int .i64 0] ∧ Sep w w' (toH g gt gm gs (.slice none 0 0) p ⟨r, h, mo⟩ [] 0 fun _ => none)) := by
  refine s_topo_New fun R hR => ?_
  unfold c_topo_New
  refine bxQ (Sep.start w) fun g4 w1 hs1 => ?_
  refine bxQ hs1 fun g5 w2 hs2 => ?_
  simp only [L_api_Params (Sep.blk hs2.p1), L_api_Params__K (Sep.blk hs2.p1), L_api_Params__AlphaPref (Sep.blk hs2.p1), L_api_Params__AlphaConf (Sep.blk hs2.p1), L_api_Params__Beta (Sep.blk hs2.p1)]
  refine cal_i snParams_spec ?_
  rintro _ w3 ⟨rfl, hf3⟩
  have hs3 := hs2.old hf3
  try simp only [fx, Nat.reduceAdd, forall_const]
  rw [cnd_bool]
  refine ⟨fun h1 => ?_, fun h1 => ?_⟩
  · have h1 : parE p ≠ 0 := by simpa using h1
    exact hR _ _ (.inl ⟨parE p, h1, by rw [if_pos h1], .inl h1, rfl, hs3.fr0⟩)
  have h1 : parE p = 0 := by simpa using h1
  simp only [L_api_ID (Sep.blk hs3)]
  refine cal_i (tNew_spec r h mo) ?_
  rintro _ w4 (⟨hno, rfl, hf4⟩ | ⟨hq, gt, gm, rfl, hs4⟩)
  · try simp only [fx, Nat.reduceAdd, forall_const, show ((1 : Int) != 0) = true from rfl]
    exact hR _ _ (.inl ⟨1, by decide, by rw [if_neg (by simpa using h1)], .inr hno, rfl, (hs3.old hf4).fr0⟩)
  · rw [trL_nil] at hs4
    replace hs4 := hs3.join hs4
    try simp only [fx, Nat.reduceAdd, forall_const, show ((0 : Int) != 0) = false from rfl]
    simp only [L_api_Params (Sep.blk (Sep.pick hs4 [4] 5)), L_api_Params__K (Sep.blk (Sep.pick hs4 [4] 5)), L_api_Params__AlphaPref (Sep.blk (Sep.pick hs4 [4] 5)), L_api_Params__AlphaConf (Sep.blk (Sep.pick hs4 [4] 5)), L_api_Params__Beta (Sep.blk (Sep.pick hs4 [4] 5))]
    refine makeK_s (n := 32) hs4 fun gs w5 hs5 => ?_
    rw [B_topo_Topo_0_1_2 rfl rfl]
    refine bxQ hs5 fun g w6 hs6 => ?_
    exact hR _ _ (.inr ⟨⟨h1, hq⟩, g, gt, gm, gs, rfl, Sep.pick hs6 [0, 1, 2, 3, 4] 7⟩)
/-- Which name an Add has. -/
def addTId (t : Tr) (N : List TN) (S : SM) (b : Blk) : Vec 32 := if addTE t N S b = 0 then b.id else vz 32
structure AddT (p : Par) (t : Tr) (N : List TN) (S : SV) (b : Blk) (N' : List TN) (S' : SV) (E : List Asn) : Prop where
  no : addTE t N (svM S) b ≠ 0 → N' = N ∧ S' = S ∧ E = []
  yes : addTE t N (svM S) b = 0 → ∃ vd cc v x, N' = N ++ [(b.id, b, vd, cc)] ∧ S' = updV S b.p (v, x) ∧ svM S' = addTS p (svM S) b b.id ∧ E = [rows Q_api_Choice v x.l, ownB vd b.d]
theorem AddT.dat {b : Blk} {N' : List TN} {S' : SV} {E As : List Asn} (h : AddT p t N S b N' S' E) (hd : Dat N As) (hs : SDat S As) : Dat N' (E ++ As) ∧ SDat S' (E ++ As) := by
  by_cases he : addTE t N (svM S) b = 0
  · obtain ⟨vd, cc, v, x, rfl, rfl, _, rfl⟩ := h.yes he
    exact ⟨hd.add.sub fun A hA => List.mem_cons_of_mem _ hA, (SDat.upd hs).sub fun A hA => by
      rcases List.mem_cons.1 hA with rfl | hA
      · exact List.mem_cons_self ..
      · exact List.mem_cons_of_mem _ (List.mem_cons_of_mem _ hA)⟩
  · obtain ⟨rfl, rfl, rfl⟩ := h.no he
    exact ⟨hd, hs⟩
set_option maxHeartbeats 1000000 in
theorem oAdd_spec {b : Blk} (hs : Sep w0 w (toH g gt gm gs ov p t N c S ++ As)) (hd : Dat N As) (hsd : SDat S As) (hi : TpI p m t N (svM S)) (hC : Cub w0) (hb : ∀ z, Sep w0 z As → RdB z.heap v b.d) (hh : b.h ≤ maxI) (hn : N.length ≤ 1000000) :
    cal P f_topo_Topo_Add [ptr g, bq b v] w fun r w' => ∃ N' ov' c' S' E, r = .tuple #[kv (addTId t N (svM S) b), .int .i64 (addTE t N (svM S) b)] ∧ AddT p t N S b N' S' E ∧ Sep w0 w' (toH g gt gm gs ov' p t N' c' S' ++ (E ++ As)) := by
  refine s_topo_Topo_Add fun R hR => ?_
  unfold c_topo_Topo_Add
  have hto : ∀ {z : World} {Xs : List Asn}, Sep w0 z (Xs ++ (toH g gt gm gs ov p t N c S ++ As)) → ToR z.heap g gt gm gs ov p t N c S := fun h => toH_rd (Sep.dropL h) hd hsd
  have hbz : ∀ {z : World} {Xs : List Asn}, Sep w0 z (Xs ++ As) → RdB z.heap v b.d := fun h => hb _ (Sep.dropL h)
  refine bxQ hs fun g3 w1 hs1 => ?_
  refine alloc_s hs1 (A_api_ID w1) fun g4 w2 hs2 => ?_
  refine cal_i (onone_spec (hto (Xs := [_, _]) hs2)) ?_
  rintro _ _ ⟨rfl, rfl⟩
  try simp only [fx, Nat.reduceAdd, forall_const]
  refine drH_S hs2 fun w3 hs3 _ => ?_
  refine rdS_ld (v := .map (some gs)) (fun u hu K hk => (hto (Xs := [_, _]) hu).lds K hk) ?_
  refine ⟨kv b.p, fun u hu => (L_api_Block__Parent (Sep.blk hu.p1) _).mpr rfl, ?_⟩
  refine ⟨.tuple #[(svF S b.p).getD (snv (.slice none 0 0) snZ), .bool (svF S b.p).isSome], fun u hu => ((hto (Xs := [_, _]) hu).look b.p _).mpr rfl, ?_⟩
  rw [svD_get, svF_is]
  try simp only [fx, Nat.reduceAdd, forall_const]
  refine efS_i (alloc_s hs3 (A_api_Snow w3) fun g6 w4 hs4 => ⟨hs4.tail, ?_⟩)
  refine efC_stN (St_api_Snow (b := snr (svD S b.p).1 (svD S b.p).2) hs4 (one_api_Snow ((hto (Xs := [_, _, _]) hs4).rwD b.p).one1) fun w5 hs5 => ?_)
  simp only [fx, Nat.reduceAdd, forall_const, L_api_Snow (Sep.blk hs5), L_api_Snow__List (Sep.blk hs5), L_api_Snow__Pref (Sep.blk hs5), L_api_Snow__Flake (Sep.blk hs5), L_api_Snow__Conf (Sep.blk hs5), L_api_Snow__Done (Sep.blk hs5), ((hto (Xs := [_, _, _]) hs5).rwD b.p).len]
  have hf5 := hs5.fr0
  obtain ⟨L6, hL6⟩ : ∃ L6, L6 = blk g6 (Rdr.cells Q_api_Snow (snr (svD S b.p).1 (svD S b.p).2)).toArray T_api_Snow :: blk g4 (Rdr.cells (rVec 32) (vz 32)).toArray T_api_ID :: blk g3 (Rdr.cells Q_api_Block (b.p, b.h, v)).toArray T_api_Block :: (toH g gt gm gs ov p t N c S ++ As) := ⟨_, rfl⟩
  have hdL : ∀ A ∈ As, A ∈ L6 := fun A hA => by
    rw [hL6]
    exact List.mem_cons_of_mem _ (List.mem_cons_of_mem _ (List.mem_cons_of_mem _ (List.mem_append_right _ hA)))
  have hbL : ∀ {z : World}, Sep w0 z L6 → RdB z.heap v b.d := fun h => by
    rw [hL6] at h
    exact hbz (Xs := [_, _, _, _, _, _, _, _]) h
  rw [cnd_bool]
  refine ⟨fun h => ?_, fun h => ?_⟩
  · -- there is no room
    obtain ⟨v0, x, hS0, hx, hD⟩ := (sv_cases S b.p).resolve_left (by rintro ⟨h1, _⟩; rw [h1] at h; simp at h)
    have h32 : 32 ≤ x.l.length := by
      rw [hD] at h
      simp only [Bool.and_eq_true, decide_eq_true_eq] at h
      have := h.2
      omega
    have hE : addTE t N (svM S) b = if addE t N b ≠ 0 then addE t N b else 6 := by
      unfold addTE
      rw [hx]
      simp only [if_pos h32]
    have hE0 : addTE t N (svM S) b ≠ 0 := by
      rw [hE]
      split
      · assumption
      · decide
    have hend : ∀ {z : World} {e : Int}, e = addTE t N (svM S) b → Sep w0 z (toH g gt gm gs ov p t N c S ++ As) → R (.tuple #[kv (vz 32), .int .i64 e]) z := fun he hz =>
      hR _ _ ⟨N, ov, c, S, [], by rw [he, addTId, if_neg hE0], ⟨fun _ => ⟨rfl, rfl, rfl⟩, fun h => absurd h hE0⟩, hz⟩
    refine drH_S hs5 fun w6 hs6 _ => ?_
    rw [← hL6] at hs6 ⊢
    have htoL : ∀ {u : World}, Sep w0 u L6 → ToR u.heap g gt gm gs ov p t N c S := fun hu => by
      rw [hL6] at hu
      exact hto (Xs := [_, _, _]) hu
    refine ⟨fun a z => a = .int .i64 (addE t N b) ∧ Sep w0 z L6, ?_, ?_⟩
    · refine rdS_ld (v := ptr gt) (fun u hu K hk => (htoL hu).ldt K hk) ?_
      refine ⟨bq b v, fun u hu => ?_, ?_⟩
      · rw [hL6] at hu
        exact (L_api_Block (Sep.blk (Sep.p2 hu)) _).mpr rfl
      refine ⟨?_, ?_, trivial⟩
      · refine efS_i (cal_i (tClone_spec (htoL hs6).tr hn) ?_)
        rintro _ w7 ⟨g', gm', ov', c', rfl, hs7⟩
        replace hs7 := hs6.join hs7
        refine ⟨Sep.dropL (As := trH g' gm' ov' t N c') hs7, ?_, ?_, trivial⟩
        · refine efC_cut (cal_i (AddU [] L6 (g := g') hs7 (hd.sub hdL) hi.tm.w (hC.fr hs7.fr0) (hbL (Sep.dropL (As := trH g' gm' ov' t N c') hs7)) hh hn) ?_)
          rintro _ w8 ⟨N2, ov2, c2, E2, rfl, _, hs8⟩
          have hs9 : Sep w0 w8 L6 := Sep.dropL (As := E2) (Sep.dropL (As := trH g' gm' ov2 t N2 c2) hs8)
          refine ⟨fun u => Sep w0 u L6, hs9, ?_⟩
          try simp only [fx, Nat.reduceAdd, forall_const]
          refine efS_i (alloc_s hs9 (A_api_ID w8) fun g8 w10 hs10 => ⟨hs10.tail, ?_⟩)
          refine efC_stN (St_api_ID (b := addId t N b) hs10 fun w11 hs11 => ?_)
          exact ⟨by first | rfl | trivial, hs11.tail⟩
        · refine efS_i (alloc_s hs7 (A_api_ID w7) fun g8 w8 hs8 => ⟨Sep.dropL (As := trH g' gm' ov' t N c') hs8.tail, ?_⟩)
          refine efC_cut (cal_i (AddU [] (blk g8 (Rdr.cells (rVec 32) (vz 32)).toArray T_api_ID :: L6) (g := g') (Sep.pick hs8 [1, 2, 3, 0] 4) (hd.sub fun A hA => List.mem_cons_of_mem _ (hdL A hA)) hi.tm.w (hC.fr hs8.fr0) (hbL (Sep.dropL (As := trH g' gm' ov' t N c') hs8.tail)) hh hn) ?_)
          rintro _ w9 ⟨N2, ov2, c2, E2, rfl, _, hs9⟩
          have hs10 : Sep w0 w9 (blk g8 (Rdr.cells (rVec 32) (vz 32)).toArray T_api_ID :: L6) := Sep.dropL (As := E2) (Sep.dropL (As := trH g' gm' ov2 t N2 c2) hs9)
          refine ⟨fun u => Sep w0 u L6, hs10.tail, ?_⟩
          try simp only [fx, Nat.reduceAdd, forall_const]
          refine efC_stN (St_api_ID (b := addId t N b) hs10 fun w11 hs11 => ?_)
          exact ⟨by first | rfl | trivial, hs11.tail⟩
      · refine efS_i (alloc_s hs6 (A_api_ID w6) fun g8 w7 hs7 => ⟨hs7.tail, ?_⟩)
        refine efS_i (cal_i (tClone_spec (htoL hs7.tail).tr hn) ?_)
        rintro _ w8 ⟨g', gm', ov', c', rfl, hs8⟩
        replace hs8 := hs7.join hs8
        refine ⟨(Sep.dropL (As := trH g' gm' ov' t N c') hs8).tail, ?_⟩
        refine efC_cut (cal_i (AddU [] (blk g8 (Rdr.cells (rVec 32) (vz 32)).toArray T_api_ID :: L6) (g := g') hs8 (hd.sub fun A hA => List.mem_cons_of_mem _ (hdL A hA)) hi.tm.w (hC.fr hs8.fr0) (hbL (Sep.dropL (As := trH g' gm' ov' t N c') hs8).tail) hh hn) ?_)
        rintro _ w9 ⟨N2, ov2, c2, E2, rfl, _, hs9⟩
        have hs10 : Sep w0 w9 (blk g8 (Rdr.cells (rVec 32) (vz 32)).toArray T_api_ID :: L6) := Sep.dropL (As := E2) (Sep.dropL (As := trH g' gm' ov2 t N2 c2) hs9)
        refine ⟨fun u => Sep w0 u L6, hs10.tail, ?_⟩
        try simp only [fx, Nat.reduceAdd, forall_const]
        refine efC_stN (St_api_ID (b := addId t N b) hs10 fun w11 hs11 => ?_)
        exact ⟨by first | rfl | trivial, hs11.tail⟩
    rintro _ w7 ⟨rfl, hs7⟩ _
    rw [hL6] at hs7
    try simp only [fx, Nat.reduceAdd, forall_const]
    rw [cnd_bool]
    refine ⟨fun h2 => ?_, fun h2 => ?_⟩
    · have h2 : addE t N b ≠ 0 := by simpa using h2
      rw [B_ID0]
      refine St_api_ID hs7.p1 fun w8 hs8 => ?_
      simp only [L_api_ID hs8.blk]
      exact hend (by rw [hE, if_pos h2]) (Sep.dropL (As := [_, _, _]) hs8)
    · have h2 : ¬ addE t N b ≠ 0 := by simpa using h2
      rw [B_ID0]
      refine St_api_ID hs7.p1 fun w8 hs8 => ?_
      simp only [L_api_ID hs8.blk]
      exact hend (by rw [hE, if_neg h2]) (Sep.dropL (As := [_, _, _]) hs8)
  · -- there is room
    have hroom : ∀ x, svM S b.p = some x → x.l.length < 32 := fun x hx => by
      obtain ⟨v0, hS0⟩ := svM_some hx
      have hD : svD S b.p = (v0, x) := by unfold svD; rw [hS0]; rfl
      rw [hD, hS0] at h
      simp only [Option.isSome_some, Bool.true_and, decide_eq_false_iff_not] at h
      have h : ¬ (32 : Int) ≤ x.l.length := h
      omega
    have hE : addTE t N (svM S) b = addE t N b := by
      unfold addTE
      split
      · rfl
      · rename_i h1
        have h1 : addE t N b = 0 := by simpa using h1
        rw [h1]
        cases hx : svM S b.p with
        | none => rfl
        | some x =>
          have := hroom x hx
          simp only
          rw [if_neg (by omega)]
    refine drH_S hs5 fun w6 hs6 _ => ?_
    refine ⟨fun a e z => ∃ g10 N' ov' c' E, a = ptr g10 ∧ e = .int .i64 (addE t N b) ∧ AddRel t N b N' E ∧ Sep w0 z (blk g10 (Rdr.cells (rVec 32) (addId t N b)).toArray T_api_ID :: blk g6 (Rdr.cells Q_api_Snow (snr (svD S b.p).1 (svD S b.p).2)).toArray T_api_Snow :: blk g4 (Rdr.cells (rVec 32) (vz 32)).toArray T_api_ID :: blk g3 (Rdr.cells Q_api_Block (b.p, b.h, v)).toArray T_api_Block ::
      blk g (Rdr.cells Q_topo_Topo (toq p gt gs)).toArray T_topo_Topo :: mpK gs (svF S) :: (trH gt gm ov' t N' c' ++ (E ++ As))), ?_, ?_⟩
    · refine rdS_ld (v := ptr gt) (fun u hu K hk => (hto (Xs := [_, _, _]) hu).ldt K hk) ?_
      refine ⟨bq b v, fun u hu => (L_api_Block (Sep.blk (Sep.p2 hu)) _).mpr rfl, ?_⟩
      refine ⟨?_, ?_, trivial⟩
      · refine efC_cut (cal_i (AddU [blk g6 (Rdr.cells Q_api_Snow (snr (svD S b.p).1 (svD S b.p).2)).toArray T_api_Snow, blk g4 (Rdr.cells (rVec 32) (vz 32)).toArray T_api_ID, blk g3 (Rdr.cells Q_api_Block (b.p, b.h, v)).toArray T_api_Block, blk g (Rdr.cells Q_topo_Topo (toq p gt gs)).toArray T_topo_Topo, mpK gs (svF S)] As (g := gt) (Sep.pick hs6 [5, 6, 7, 0, 1, 2, 3, 4] 8) (hd.sub fun A hA => List.mem_append_right _ hA) hi.tm.w (hC.fr hs6.fr0) (hbz (Xs := [_, _, _, _, _, _, _, _]) hs6) hh hn) ?_)
        rintro _ w7 ⟨N', ov', c', E, rfl, hAR, hs7⟩
        refine ⟨fun u => Sep w0 u _, hs7, ?_⟩
        try simp only [fx, Nat.reduceAdd, forall_const]
        refine efS_i (alloc_s hs7 (A_api_ID w7) fun g10 w8 hs8 => ⟨hs8.tail, ?_⟩)
        refine efC_stN (St_api_ID (b := addId t N b) hs8 fun w9 hs9 => ?_)
        exact ⟨g10, N', ov', c', E, by first | rfl | trivial, by first | rfl | trivial, hAR, Sep.pick hs9 [0, 4, 5, 6, 7, 8, 1, 2, 3] 9⟩
      · refine efS_i (alloc_s hs6 (A_api_ID w6) fun g10 w7 hs7 => ⟨hs7.tail, ?_⟩)
        refine efC_cal (cal_i (AddU [blk g10 (Rdr.cells (rVec 32) (vz 32)).toArray T_api_ID, blk g6 (Rdr.cells Q_api_Snow (snr (svD S b.p).1 (svD S b.p).2)).toArray T_api_Snow, blk g4 (Rdr.cells (rVec 32) (vz 32)).toArray T_api_ID, blk g3 (Rdr.cells Q_api_Block (b.p, b.h, v)).toArray T_api_Block, blk g (Rdr.cells Q_topo_Topo (toq p gt gs)).toArray T_topo_Topo, mpK gs (svF S)] As (g := gt) (Sep.pick hs7 [6, 7, 8, 0, 1, 2, 3, 4, 5] 9) (hd.sub fun A hA => List.mem_append_right _ hA) hi.tm.w (hC.fr hs7.fr0) (hbz (Xs := [_, _, _, _, _, _, _, _, _]) hs7) hh hn) ?_)
        rintro _ w8 ⟨N', ov', c', E, rfl, hAR, hs8⟩
        try simp only [fx, Nat.reduceAdd, forall_const]
        refine efC_stN (St_api_ID (b := addId t N b) (Sep.pick hs8 [3, 0, 1, 2, 4, 5, 6, 7, 8] 9) fun w9 hs9 => ?_)
        exact ⟨g10, N', ov', c', E, by first | rfl | trivial, by first | rfl | trivial, hAR, Sep.pick hs9 [0, 4, 5, 6, 7, 8, 1, 2, 3] 9⟩
    rintro _ _ w7 ⟨g10, N', ov', c', E, rfl, rfl, hAR, hs7⟩ _
    try simp only [fx, Nat.reduceAdd, forall_const]
    rw [cnd_bool]
    refine ⟨fun h2 => ?_, fun h2 => ?_⟩
    · have h2 : addE t N b ≠ 0 := by simpa using h2
      obtain ⟨_, rfl, rfl⟩ := hAR.resolve_right fun hq => h2 hq.1
      rw [B_ID0]
      refine St_api_ID hs7.p2 fun w8 hs8 => ?_
      simp only [L_api_ID hs8.blk]
      have hE0 : addTE t N' (svM S) b ≠ 0 := by rw [hE]; exact h2
      exact hR _ _ ⟨N', ov', c', S, [], by rw [addTId, if_neg hE0, hE], ⟨fun _ => ⟨rfl, rfl, rfl⟩, fun hq => absurd hq hE0⟩, Sep.dropL (As := [_, _, _, _]) hs8⟩
    have h2 : addE t N b = 0 := by simpa using h2
    obtain ⟨_, vd, cc, rfl, rfl⟩ := hAR.resolve_left fun hq => hq.1 h2
    have hE0 : addTE t N (svM S) b = 0 := by rw [hE]; exact h2
    have hid : addId t N b = b.id := by rw [addId, if_pos h2]
    rw [hid] at hs7
    obtain ⟨a1, a2, a3, a4, a5, a6⟩ := addE_ok h2
    refine ⟨fun a z => ∃ v1 x1, a = .int .i64 0 ∧ svM (updV S b.p (v1, x1)) = addTS p (svM S) b b.id ∧ Sep w0 z (rows Q_api_Choice v1 x1.l :: blk g10 (Rdr.cells (rVec 32) b.id).toArray T_api_ID :: blk g6 (Rdr.cells Q_api_Snow (snr v1 x1)).toArray T_api_Snow :: blk g4 (Rdr.cells (rVec 32) (vz 32)).toArray T_api_ID :: blk g3 (Rdr.cells Q_api_Block (b.p, b.h, v)).toArray T_api_Block ::
      blk g (Rdr.cells Q_topo_Topo (toq p gt gs)).toArray T_topo_Topo :: mpK gs (svF S) :: (trH gt gm ov' t (N ++ [(b.id, b, vd, cc)]) c' ++ ([ownB vd b.d] ++ As))), ?_, ?_⟩
    · change cnd _ _ _
      rw [cnd_bool]
      refine ⟨fun h3 => ?_, fun h3 => ?_⟩
      · obtain ⟨v0, x, hS0, hx, hD⟩ := (sv_cases S b.p).resolve_left (by rintro ⟨h1, _⟩; rw [h1] at h3; cases h3)
        have hmx := hi.may _ _ hx
        have hadd : addM p x b.id = ({ x with l := x.l ++ [(b.id, 0)] }, 0) := by
          rcases add_may (id := b.id) hmx with hq | ⟨hq, _⟩
          · exfalso
            have hno : ¬ 0 ≤ plc x.l b.id := fun hp => by
              obtain ⟨i, d, _, hd, hd1, _⟩ := plc_pos hp
              have : b.id ∈ x.l.map (·.1) := by rw [← hd1]; exact List.mem_map_of_mem (List.mem_of_getElem? hd)
              rw [(hi.kids _ x hx).2, kid_iff hi.tm.w hi.tm.nd, a2] at this
              cases this.2.1
            apply hq
            have := hroom x hx
            rw [addM, if_neg (by simpa using may_iff.2 hmx), if_neg hno, if_neg (by omega)]
          · exact hq
        rw [hD] at hs7
        have hrow : ∀ {z : World} {Xs : List Asn}, Sep w0 z (Xs ++ ([ownB vd b.d] ++ As)) → Rows' Q_api_Choice z.heap v0 x.l := fun {z Xs} hz => by
          obtain ⟨F, hF⟩ := hz.onL (A := rows Q_api_Choice v0 x.l) (List.mem_append_right _ (List.mem_append_right _ (hsd b.p (v0, x) hS0)))
          exact Own.cel hF
        refine drH_S hs7 fun w8 hs8 _ => ?_
        refine ⟨pav p, fun u hu => (L_topo_Topo__p (Sep.blk (Sep.p4 hu)) _).mpr rfl, ?_⟩
        refine ⟨snv v0 x, fun u hu => (L_api_Snow (Sep.blk hu.p1) _).mpr rfl, ?_⟩
        refine ⟨kv b.id, fun u hu => (L_api_ID (Sep.blk hu) _).mpr rfl, ?_⟩
        have hrw := hrow (Xs := [_, _, _, _, _, _, _, _, _]) hs8
        refine efC_cal (cal_i (snAdd_spec hrw (by have := hmx.n2; omega) hrw.one1) ?_)
        rintro _ w9 ⟨v1, rfl, hs9⟩
        rw [hadd] at hs9 ⊢
        have hs10 := hs8.join hs9
        try simp only [fx, Nat.reduceAdd, forall_const]
        refine efC_stN (St_api_Snow (b := snr v1 { x with l := x.l ++ [(b.id, 0)] }) (Sep.pick hs10 [2, 0, 1, 3, 4, 5, 6, 7, 8, 9] 10) (one_api_Snow (Sep.oneR hs10)) fun w11 hs11 => ?_)
        refine ⟨v1, { x with l := x.l ++ [(b.id, 0)] }, by first | rfl | trivial, ?_, Sep.pick hs11 [1, 2, 0, 3, 4, 5, 6, 7, 8, 9] 10⟩
        rw [svM_upd]
        unfold addTS
        rw [hx]
      · have hx : svM S b.p = none := by
          unfold svM
          cases hq : S b.p with
          | none => rfl
          | some q => rw [hq] at h3; cases h3
        obtain ⟨_, hn2, _, _⟩ := new_may (id := b.id) hi.par
        refine drH_S hs7 fun w8 hs8 _ => ?_
        refine ⟨pav p, fun u hu => (L_topo_Topo__p (Sep.blk (Sep.p4 hu)) _).mpr rfl, ?_⟩
        refine ⟨kv b.id, fun u hu => (L_api_ID (Sep.blk hu) _).mpr rfl, ?_⟩
        refine efC_cal (cal_i snNew_spec ?_)
        rintro _ w9 ⟨v1, rfl, hs9⟩
        rw [hn2]
        have hs10 := hs8.join hs9
        try simp only [fx, Nat.reduceAdd, forall_const]
        refine efC_stN (St_api_Snow (b := snr v1 (newM p b.id).1) (Sep.pick hs10 [2, 0, 1, 3, 4, 5, 6, 7, 8, 9] 10) (one_api_Snow (Sep.oneR hs10)) fun w11 hs11 => ?_)
        refine ⟨v1, (newM p b.id).1, by first | rfl | trivial, ?_, Sep.pick hs11 [1, 2, 0, 3, 4, 5, 6, 7, 8, 9] 10⟩
        rw [svM_upd]
        unfold addTS
        rw [hx]
    rintro _ w8 ⟨v1, x1, rfl, hSM, hs8⟩ _
    refine ⟨fun z => Sep w0 z (rows Q_api_Choice v1 x1.l :: blk g10 (Rdr.cells (rVec 32) b.id).toArray T_api_ID :: blk g4 (Rdr.cells (rVec 32) (vz 32)).toArray T_api_ID ::
      blk g (Rdr.cells Q_topo_Topo (toq p gt gs)).toArray T_topo_Topo :: mpK gs (svF (updV S b.p (v1, x1))) :: (trH gt gm ov' t (N ++ [(b.id, b, vd, cc)]) c' ++ ([ownB vd b.d] ++ As))), ?_, ?_⟩
    · try simp only [fx, Nat.reduceAdd, forall_const, show ((0 : Int) == 0) = true from rfl]
      refine drH_S hs8 fun w9 hs9 _ => ?_
      refine rdS_ld (v := .map (some gs)) (fun u hu K hk => (L_topo_Topo__snows (Sep.blk (Sep.p5 hu)) K).mpr hk) ?_
      refine ⟨kv b.p, fun u hu => (L_api_Block__Parent (Sep.blk (Sep.p4 hu)) _).mpr rfl, ?_⟩
      refine ⟨snv v1 x1, fun u hu => (L_api_Snow (Sep.blk (Sep.p2 hu)) _).mpr rfl, ?_⟩
      refine efC_efU (putK_s U_map_api_ID_api_Snow KT (Sep.pick hs9 [6, 0, 1, 3, 5, 7, 8, 9] 10) fun w10 hs10 => ?_)
      rw [svF_upd S b.p (v1, x1)] at hs10
      exact Sep.pick hs10 [1, 2, 3, 4, 0] 5
    rintro w9 hs9 _
    simp only [L_api_ID (Sep.blk hs9.p1)]
    refine St_api_ID hs9.p2 fun w10 hs10 => ?_
    simp only [L_api_ID (Sep.blk hs10)]
    refine hR _ _ ⟨N ++ [(b.id, b, vd, cc)], ov', c', updV S b.p (v1, x1), [rows Q_api_Choice v1 x1.l, ownB vd b.d], by rw [addTId, if_pos hE0, hE0], ⟨fun hq => absurd hE0 hq, fun _ => ⟨vd, cc, v1, x1, rfl, rfl, hSM, rfl⟩⟩, ?_⟩
    exact Sep.pick hs10 [3, 4, 5, 6, 7, 1, 8] 9
end
end Go.Fx
set_option linter.unusedVariables false
set_option linter.unusedSimpArgs false
namespace Go.Fx
def tlI0 : Vec 32 := ⟨[135, 143, 50, 247, 107, 21, 148, 148, 245, 163, 159, 147, 33, 97, 108, 96, 104, 205, 184, 46, 136, 223, 137, 188, 199, 57, 187, 193, 234, 120, 225, 249], by decide⟩
def tlIA : Vec 32 := ⟨[62, 253, 43, 128, 233, 213, 25, 64, 19, 138, 112, 192, 69, 117, 141, 110, 224, 187, 73, 199, 3, 47, 27, 66, 188, 217, 192, 69, 156, 95, 161, 204], by decide⟩
def tlIB : Vec 32 := ⟨[14, 29, 244, 54, 134, 100, 220, 212, 83, 189, 125, 81, 230, 184, 242, 135, 211, 169, 170, 163, 239, 228, 185, 3, 98, 215, 115, 60, 241, 136, 174, 250], by decide⟩
def tl0 : Blk := ⟨vz 32, 0, []⟩
def tlA : Blk := ⟨tlI0, 1, [97]⟩
def tlB : Blk := ⟨tlIA, 2, [98]⟩
set_option maxRecDepth 1000000 in
theorem tl0_id : tl0.id = tlI0 := by
  apply Subtype.ext
  show (shaL tl0.bytes).flatMap wOut = _
  rw [sha_one _ (by decide +kernel)]
  decide +kernel
set_option maxRecDepth 1000000 in
theorem tlA_id : tlA.id = tlIA := by
  apply Subtype.ext
  show (shaL tlA.bytes).flatMap wOut = _
  rw [sha_one _ (by decide +kernel)]
  decide +kernel
set_option maxRecDepth 1000000 in
theorem tlB_id : tlB.id = tlIB := by
  apply Subtype.ext
  show (shaL tlB.bytes).flatMap wOut = _
  rw [sha_one _ (by decide +kernel)]
  decide +kernel
theorem tl0_chk : tl0.chk = 0 := by decide +kernel
theorem tlA_chk : tlA.chk = 0 := by decide +kernel
def tlP : Par := (1, 1, 1, 1)
def tlT : Tr := ⟨tlI0, 0, 9⟩
def tAddV (t : Tr) (N : List TN) (b : Blk) (k : Vec 32) : Int :=
  if b.chk ≠ 0 then b.chk else if has t N k = true then 110 else if has t N b.p = false ∨ b.h < 1 ∨ b.h - 1 ≠ levH t N b.p then 31 else if t.most ≤ N.length then 6 else 0
def tAddVE (t : Tr) (N : List TN) (S : SM) (b : Blk) (k : Vec 32) : Int := if tAddV t N b k ≠ 0 then tAddV t N b k else match S b.p with
  | some x => if 32 ≤ x.l.length then 6 else 0
  | none => 0
theorem tAddVE_eq {t : Tr} {N : List TN} {S : SM} {b : Blk} {k : Vec 32} (h : b.id = k) : addTE t N S b = tAddVE t N S b k := by subst h; rfl
def tlS0 : SM := fun _ => none
def tlSA : SM := addTS tlP tlS0 tlA tlIA
def tlS : SM := addTS tlP tlSA tlB tlIB
abbrev tlN (v1 v2 : Value) (c1 c2 : Nat) : List TN := [(tlIA, tlA, v1, c1), (tlIB, tlB, v2, c2)]
theorem tlE1 : tAddVE tlT [] tlS0 tlA tlIA = 0 := by kernel_rfl
theorem tlE2 (v1 : Value) (c1 : Nat) : tAddVE tlT [(tlIA, tlA, v1, c1)] tlSA tlB tlIB = 0 := by kernel_rfl
def tlx (k : Vec 32) : Sn := ⟨[(k, 0)], k, k, 0, false⟩
def tly (k : Vec 32) : Sn := ⟨[(k, 1)], k, k, 1, true⟩
theorem tlS_0 : tlS tlI0 = some (tlx tlIA) := by kernel_rfl
theorem tlS_A : tlS tlIA = some (tlx tlIB) := by kernel_rfl
theorem tlS_B : tlS tlIB = none := by kernel_rfl
abbrev tlV : List Vt := [(tlIB, 1)]
theorem tlV_ok : bagOk tlV := fun j v hv => by
  rcases j with _ | j
  · simp only [List.getElem?_cons_zero, Option.some.injEq] at hv
    subst hv
    exact ⟨fun u h => absurd h (by omega), by decide, by decide⟩
  · simp at hv
theorem tl_poll {k : Vec 32} (hm : May tlP (tlx k)) : (pollM tlP (tlx k) k 1).1 = tly k := by
  rw [pollM_up (k := 0) (c := (k, 0)) (may_iff.2 hm) (by decide) (plc_at rfl rfl fun j d hj => absurd hj (by omega)) rfl rfl (by decide)]
  have e : cfM tlP (tlx k) k 1 = 1 := by
    unfold cfM
    rw [if_neg (by decide), if_pos (show k = (tlx k).flake from rfl)]
    rfl
  show ({ updM (tlx k) k 0 (k, 0) with conf := cfM tlP (tlx k) k 1, dn := decide (cfM tlP (tlx k) k 1 = 1) } : Sn) = tly k
  rw [e]
  unfold updM
  show (⟨[(k, 1)], if _ then k else k, k, 1, true⟩ : Sn) = _
  rw [ite_self]
  rfl
/-! The poll. -/
def tl1 : PS := ⟨tlT, tlN undef undef 0 0, updS tlS tlI0 (tly tlIA), tlI0, [], [], [tlI0]⟩
def tl2 : PS := ⟨⟨tlIA, 1, 9⟩, [(tlIB, tlB, undef, 0)], updS tlS tlI0 (tly tlIA), tlIA, [tlIA], [], [tlI0]⟩
def tl3 : PS := ⟨⟨tlIA, 1, 9⟩, [(tlIB, tlB, undef, 0)], updS (updS tlS tlI0 (tly tlIA)) tlIA (tly tlIB), tlIA, [tlIA], [], [tlIA, tlI0]⟩
def tl4 : PS := ⟨⟨tlIB, 2, 9⟩, [], updS (updS tlS tlI0 (tly tlIA)) tlIA (tly tlIB), tlIB, [tlIA, tlIB], [], [tlIA, tlI0]⟩
theorem tlb0 : (⟨tlT, tlN undef undef 0 0, tlS, tlI0, [], [], []⟩ : PS).best tlV = (tlIA, 1) := by kernel_rfl
theorem tlb2 : tl2.best tlV = (tlIB, 1) := by kernel_rfl
theorem tlq1 (v1 v2 : Value) (c1 c2 : Nat) (h : ∀ k x, tlS k = some x → May tlP x) : pstep tlP tlV (ps0 tlT (tlN v1 v2 c1 c2) tlS) = some tl1 := by
  show pstep tlP tlV ⟨tlT, tlN undef undef 0 0, tlS, tlI0, [], [], []⟩ = some tl1
  unfold pstep
  simp only [tlS_0, tlb0, tl_poll (h _ _ tlS_0)]
  rw [if_neg (by simp [tlx]), if_neg (by decide)]
  show some (⟨tlT, tlN undef undef 0 0, updS tlS tlI0 (tly tlIA), if tlI0 ≠ tlI0 ∨ (tly tlIA).dn = false then tlIA else tlI0, [], [], [tlI0]⟩ : PS) = some tl1
  rw [if_neg (by simp [tly])]
  rfl
theorem tlq2 : pstep tlP tlV tl1 = some tl2 := by
  have e : tl1.S tl1.pos = some (tly tlIA) := by kernel_rfl
  unfold pstep
  simp only [e]
  rw [if_pos ⟨rfl, rfl⟩]
  show some (⟨mvT tlT (tlN undef undef 0 0) tlIA, mvN tlT (tlN undef undef 0 0) tlIA, updS tlS tlI0 (tly tlIA), tlIA, [] ++ [tlIA], [] ++ mvGone tlT (tlN undef undef 0 0) tlIA, [tlI0]⟩ : PS) = some tl2
  have e1 : mvT tlT (tlN undef undef 0 0) tlIA = ⟨tlIA, 1, 9⟩ := by kernel_rfl
  have e2 : mvN tlT (tlN undef undef 0 0) tlIA = [(tlIB, tlB, undef, 0)] := by kernel_rfl
  have e3 : mvGone tlT (tlN undef undef 0 0) tlIA = [] := by kernel_rfl
  rw [e1, e2, e3]
  rfl
theorem tlq3 (h : ∀ k x, tlS k = some x → May tlP x) : pstep tlP tlV tl2 = some tl3 := by
  have e : tl2.S tl2.pos = some (tlx tlIB) := by kernel_rfl
  unfold pstep
  simp only [e, tlb2, tl_poll (h _ _ tlS_A)]
  rw [if_neg (by simp [tlx]), if_neg (by decide)]
  show some (⟨⟨tlIA, 1, 9⟩, [(tlIB, tlB, undef, 0)], updS (updS tlS tlI0 (tly tlIA)) tlIA (tly tlIB), if tlIA ≠ tlIA ∨ (tly tlIB).dn = false then tlIB else tlIA, [tlIA], [], [tlIA, tlI0]⟩ : PS) = some tl3
  rw [if_neg (by simp [tly])]
  rfl
theorem tlq4 : pstep tlP tlV tl3 = some tl4 := by
  have e : tl3.S tl3.pos = some (tly tlIB) := by kernel_rfl
  unfold pstep
  simp only [e]
  rw [if_pos ⟨rfl, rfl⟩]
  show some (⟨mvT ⟨tlIA, 1, 9⟩ [(tlIB, tlB, undef, 0)] tlIB, mvN ⟨tlIA, 1, 9⟩ [(tlIB, tlB, undef, 0)] tlIB, updS (updS tlS tlI0 (tly tlIA)) tlIA (tly tlIB), tlIB, [tlIA] ++ [tlIB], [] ++ mvGone ⟨tlIA, 1, 9⟩ [(tlIB, tlB, undef, 0)] tlIB, [tlIA, tlI0]⟩ : PS) = some tl4
  have e1 : mvT ⟨tlIA, 1, 9⟩ [(tlIB, tlB, undef, 0)] tlIB = ⟨tlIB, 2, 9⟩ := by kernel_rfl
  have e2 : mvN ⟨tlIA, 1, 9⟩ [(tlIB, tlB, undef, 0)] tlIB = [] := by kernel_rfl
  have e3 : mvGone ⟨tlIA, 1, 9⟩ [(tlIB, tlB, undef, 0)] tlIB = [] := by kernel_rfl
  rw [e1, e2, e3]
  rfl
theorem tl4_S : tl4.S tlIB = none := by kernel_rfl
theorem tlq5 : pstep tlP tlV tl4 = none := by
  have e : tl4.S tl4.pos = none := tl4_S
  unfold pstep
  simp only [e]
theorem tl_out {v1 v2 : Value} {c1 c2 : Nat} {s : PS} (h : ∀ k x, tlS k = some x → May tlP x) (ho : PollOut tlP tlV tlT (tlN v1 v2 c1 c2) tlS s) : s = tl4 :=
  Reach.one ho.reach ((((Reach.step (.refl _) (tlq1 v1 v2 c1 c2 h)).step tlq2).step (tlq3 h)).step tlq4) ho.fin tlq5
theorem tl_pref : IsPref tlT tlS tlIB := by
  have h1 : PrefTo tlS tlI0 (prf (tlx tlIA)) := (PrefTo.refl _).step tlS_0
  have h2 : PrefTo tlS tlI0 (prf (tlx tlIB)) := PrefTo.step (b := tlIA) h1 tlS_A
  exact ⟨h2, tlS_B⟩
theorem TpI.start {p : Par} {t : Tr} (hp : parE p = 0) (ht : 0 ≤ t.ht) : TpI p 0 t [] fun _ => none :=
  ⟨TM.nil ht, hp, fun _ _ h => (by cases h), fun k hk _ => (by unfold kidsT; rw [if_pos hk]; rfl), fun _ _ h => (by cases h), fun _ h => (by cases h)⟩
theorem one19_spec {w : World} : cal P f_law19_one [] w fun r w' => r = pav tlP ∧ Fr [] w w' := by
  refine s_law19_one fun R hR => ?_
  unfold c_law19_one
  refine alloc_s (Sep.start w) (A_api_Params w) fun g w1 hs1 => ?_
  rw [B_api_Params_0_1_2_3]
  refine St_api_Params hs1 one_api_Params fun w2 hs2 => ?_
  simp only [L_api_Params hs2.blk, L_api_Params__K hs2.blk, L_api_Params__AlphaPref hs2.blk, L_api_Params__AlphaConf hs2.blk, L_api_Params__Beta hs2.blk]
  exact hR _ _ ⟨rfl, hs2.fr0⟩
set_option maxHeartbeats 1000000 in
theorem live19_spec {w : World} (hC : Cub w) : cal P f_law19_live [] w fun r w' => r = .bool true ∧ Fr [] w w' := by
  refine s_law19_live fun R hR => ?_
  unfold c_law19_live
  refine cal_i (First_spec (RdB.nil _ 0)) ?_
  rintro _ w1 ⟨v1, rfl, hs1⟩
  have eg : (Blk.first []).mk' = tl0 := by
    show (if tl0.chk = 0 then tl0 else Blk.none) = tl0
    rw [if_pos tl0_chk]
  have ec : (Blk.first []).chk = 0 := tl0_chk
  rw [eg] at hs1
  rw [eg, ec]
  simp only [fx, Nat.reduceAdd, forall_const]
  refine alloc_s hs1 (A_api_Block w1) fun g2 w2 hs2 => ?_
  refine St_api_Block hs2 (one_api_Block (Sep.one hs2.p1)) fun w3 hs3 => ?_
  simp only [L_api_Block hs3.blk, L_api_Block__Parent hs3.blk, L_api_Block__Height hs3.blk, L_api_Block__Data hs3.blk]
  refine cal_i (bkID_spec (b := tl0) (hC.fr hs3.fr0) (Sep.rd hs3.p1) (by decide +kernel)) ?_
  rintro _ w4 ⟨rfl, hf4⟩
  have hs4 := hs3.old hf4
  have en : tl0.name = tlI0 := by rw [Blk.name, if_pos tl0_chk, tl0_id]
  rw [en, tl0_chk]
  try simp only [fx, Nat.reduceAdd, forall_const]
  refine alloc_s hs4 (A_api_ID w4) fun g5 w5 hs5 => ?_
  refine St_api_ID hs5 fun w6 hs6 => ?_
  refine drH_S hs6 fun w7 hs7 _ => ?_
  refine ⟨kv tlI0, fun u hu => (L_api_ID (Sep.blk hu) _).mpr rfl, ?_⟩
  refine efS_i (cal_i one19_spec ?_)
  rintro _ w8 ⟨rfl, hf8⟩
  have hs8 := hs7.old hf8
  refine ⟨hs8, ?_⟩
  refine efC_cal (cal_i (oNew_spec tlP tlI0 0 9) ?_)
  rintro _ w9 (⟨e, he, _, hno, _⟩ | ⟨_, g, gt, gm, gs, rfl, hs9⟩)
  · exact absurd hno (by decide)
  replace hs9 := hs8.join hs9
  change Sep w w9 (toH g gt gm gs (.slice none 0 0) tlP tlT [] 0 (fun _ => none) ++ _) at hs9
  try simp only [fx, Nat.reduceAdd, forall_const, Option.isNone_some, show ((0 : Int) != 0) = false from rfl]
  have hb : ∀ (x : UInt8) (w : World), (Instr.buildSlice T_sl_uint8 1 #[(0, bv x)]).run P w = .ok (.slice (some ⟨w.heap.size, 0, none⟩) 1 1) (w.alloc (.cells (bvs [x]).toArray T_uint8)) := fun x w => by kernel_rfl
  have hs9' := Sep.pick hs9 [6, 5, 7, 0, 1, 2, 3, 4] 8
  simp only [L_api_Block hs9'.blk, L_api_Block__Parent hs9'.blk, L_api_Block__Height hs9'.blk, L_api_Block__Data hs9'.blk]
  refine lit_s (l := [97]) hs9' U_sl_uint8 U_uint8 rfl (hb 97 w9) fun ga w10 hs10 => ?_
  refine cal_i (Child_spec (b := tl0) (d := [97]) (hC.fr hs10.fr0) (Sep.rd (Sep.p3 hs10)) (Sep.rda hs10) (by decide +kernel)) ?_
  rintro _ w11 ⟨va, rfl, hs11⟩
  have hkA : tl0.kidOk [97] := ⟨tl0_chk, by decide +kernel, by decide⟩
  have ekA : tl0.child [97] = tlA := by rw [Blk.child, if_pos hkA, Blk.kid, tl0_id]; rfl
  have eeA : tl0.childE [97] = 0 := by rw [Blk.childE, if_pos hkA]
  rw [ekA] at hs11
  rw [ekA, eeA]
  replace hs11 := hs10.join hs11
  try simp only [fx, Nat.reduceAdd, forall_const]
  refine alloc_s hs11 (A_api_Block w11) fun g7 w12 hs12 => ?_
  refine St_api_Block hs12 (one_api_Block (Sep.one hs12.p1)) fun w13 hs13 => ?_
  simp only [L_api_Block hs13.blk, L_api_Block__Parent hs13.blk, L_api_Block__Height hs13.blk, L_api_Block__Data hs13.blk]
  refine lit_s (l := [98]) hs13 U_sl_uint8 U_uint8 rfl (hb 98 w13) fun gb w14 hs14 => ?_
  refine cal_i (Child_spec (b := tlA) (d := [98]) (hC.fr hs14.fr0) (Sep.rd (Sep.p2 hs14)) (Sep.rda hs14) (by decide +kernel)) ?_
  rintro _ w15 ⟨vb, rfl, hs15⟩
  have hkB : tlA.kidOk [98] := ⟨tlA_chk, by decide +kernel, by decide⟩
  have ekB : tlA.child [98] = tlB := by rw [Blk.child, if_pos hkB, Blk.kid, tlA_id]; rfl
  have eeB : tlA.childE [98] = 0 := by rw [Blk.childE, if_pos hkB]
  rw [ekB] at hs15
  rw [ekB, eeB]
  replace hs15 := hs14.join hs15
  try simp only [fx, Nat.reduceAdd, forall_const]
  refine alloc_s hs15 (A_api_Block w15) fun g8 w16 hs16 => ?_
  refine St_api_Block hs16 (one_api_Block (Sep.one hs16.p1)) fun w17 hs17 => ?_
  have hs18 : Sep w w17 (toH g gt gm gs (.slice none 0 0) tlP tlT [] 0 (fun _ => none) ++ [blk g8 (Rdr.cells Q_api_Block (tlB.p, tlB.h, vb)).toArray T_api_Block, ownB vb tlB.d, blk g7 (Rdr.cells Q_api_Block (tlA.p, tlA.h, va)).toArray T_api_Block, ownB va tlA.d]) := Sep.pick hs17 [9, 10, 11, 12, 13, 0, 1, 3, 4] 14
  have hd0 : Dat ([] : List TN) [blk g8 (Rdr.cells Q_api_Block (tlB.p, tlB.h, vb)).toArray T_api_Block, ownB vb tlB.d, blk g7 (Rdr.cells Q_api_Block (tlA.p, tlA.h, va)).toArray T_api_Block, ownB va tlA.d] := fun x hx => by cases hx
  have hsd0 : SDat (fun _ => none) [blk g8 (Rdr.cells Q_api_Block (tlB.p, tlB.h, vb)).toArray T_api_Block, ownB vb tlB.d, blk g7 (Rdr.cells Q_api_Block (tlA.p, tlA.h, va)).toArray T_api_Block, ownB va tlA.d] := fun k q h => by cases h
  have hi0 : TpI tlP 0 tlT [] (svM fun _ => none) := TpI.start (by decide) (by decide)
  simp only [L_api_Block (Sep.blk (Sep.pick hs18 [7] 8)), L_api_Block__Parent (Sep.blk (Sep.pick hs18 [7] 8)), L_api_Block__Height (Sep.blk (Sep.pick hs18 [7] 8)), L_api_Block__Data (Sep.blk (Sep.pick hs18 [7] 8))]
  refine cal_i (oAdd_spec hs18 hd0 hsd0 hi0 hC (fun z hz => Sep.rd (Sep.p3 hz)) (by decide +kernel) (by simp)) ?_
  rintro _ w19 ⟨N1, ov1, c1, S1, E1, rfl, hA1, hs19⟩
  obtain ⟨hd1, hsd1⟩ := hA1.dat hd0 hsd0
  have e1 : addTE tlT [] (svM fun _ => none) tlA = 0 := (tAddVE_eq tlA_id).trans tlE1
  obtain ⟨vd1, cc1, vx1, x1, rfl, _, hS1, rfl⟩ := hA1.yes e1
  have hi1 := hi0.addx (b := tlA) (vd := vd1) (c := cc1) e1 (by decide +kernel)
  rw [← hS1] at hi1
  rw [addTId, if_pos e1, e1, tlA_id]
  simp only [tlA_id] at hs19 hd1 hi1 hS1
  try simp only [fx, Nat.reduceAdd, forall_const]
  refine alloc_s hs19 (A_api_ID w19) fun g9 w20 hs20 => ?_
  refine St_api_ID hs20 fun w21 hs21 => ?_
  have hs22 : Sep w w21 (toH g gt gm gs ov1 tlP tlT ([] ++ [(tlIA, tlA, vd1, cc1)]) c1 S1 ++ (blk g9 (Rdr.cells (rVec 32) tlIA).toArray T_api_ID :: ([rows Q_api_Choice vx1 x1.l, ownB vd1 tlA.d] ++ [blk g8 (Rdr.cells Q_api_Block (tlB.p, tlB.h, vb)).toArray T_api_Block, ownB vb tlB.d, blk g7 (Rdr.cells Q_api_Block (tlA.p, tlA.h, va)).toArray T_api_Block, ownB va tlA.d]))) := Sep.pick hs21 [1, 2, 3, 4, 5, 0, 6, 7, 8, 9, 10, 11] 12
  simp only [L_api_Block (Sep.blk (Sep.pick hs22 [8] 9)), L_api_Block__Parent (Sep.blk (Sep.pick hs22 [8] 9)), L_api_Block__Height (Sep.blk (Sep.pick hs22 [8] 9)), L_api_Block__Data (Sep.blk (Sep.pick hs22 [8] 9))]
  have e2 : addTE tlT ([] ++ [(tlIA, tlA, vd1, cc1)]) (svM S1) tlB = 0 := by rw [hS1]; exact (tAddVE_eq tlB_id).trans (tlE2 vd1 cc1)
  refine cal_i (oAdd_spec (m := 1) hs22 (hd1.sub fun A hA => List.mem_cons_of_mem _ hA) (hsd1.sub fun A hA => List.mem_cons_of_mem _ hA) hi1 hC (fun z hz => Sep.rd (Sep.pick hz [4] 5)) (by decide +kernel) (by simp)) ?_
  rintro _ w23 ⟨N2, ov2, c2, S2, E2, rfl, hA2, hs23⟩
  have hd12 := hd1.sub fun A hA => List.mem_cons_of_mem (blk g9 (Rdr.cells (rVec 32) tlIA).toArray T_api_ID) hA
  have hsd12 := hsd1.sub fun A hA => List.mem_cons_of_mem (blk g9 (Rdr.cells (rVec 32) tlIA).toArray T_api_ID) hA
  obtain ⟨hd2, hsd2⟩ := hA2.dat hd12 hsd12
  obtain ⟨vd2, cc2, vx2, x2, rfl, _, hS2, rfl⟩ := hA2.yes e2
  have hi2 := hi1.addx (b := tlB) (vd := vd2) (c := cc2) e2 (by decide +kernel)
  rw [← hS2] at hi2
  rw [addTId, if_pos e2, e2, tlB_id]
  simp only [tlB_id] at hs23 hd2 hi2 hS2
  rw [hS1] at hS2
  change svM S2 = tlS at hS2
  change Sep w w23 (toH g gt gm gs ov2 tlP tlT (tlN vd1 vd2 cc1 cc2) c2 S2 ++ _) at hs23
  change TpI tlP 2 tlT (tlN vd1 vd2 cc1 cc2) (svM S2) at hi2
  try simp only [fx, Nat.reduceAdd, forall_const]
  refine alloc_s hs23 (A_api_ID w23) fun g11 w24 hs24 => ?_
  refine St_api_ID hs24 fun w25 hs25 => ?_
  have hs25' : Sep w w25 (toH g gt gm gs ov2 tlP tlT (tlN vd1 vd2 cc1 cc2) c2 S2 ++ (blk g11 (Rdr.cells (rVec 32) tlIB).toArray T_api_ID :: ([rows Q_api_Choice vx2 x2.l, ownB vd2 tlB.d] ++ (blk g9 (Rdr.cells (rVec 32) tlIA).toArray T_api_ID :: ([rows Q_api_Choice vx1 x1.l, ownB vd1 tlA.d] ++ [blk g8 (Rdr.cells Q_api_Block (tlB.p, tlB.h, vb)).toArray T_api_Block, ownB vb tlB.d, blk g7 (Rdr.cells Q_api_Block (tlA.p, tlA.h, va)).toArray T_api_Block, ownB va tlA.d]))))) := Sep.pick hs25 [1, 2, 3, 4, 5, 0, 6, 7, 8, 9, 10, 11, 12, 13, 14] 15
  have hd3 : Dat (tlN vd1 vd2 cc1 cc2) (blk g11 (Rdr.cells (rVec 32) tlIB).toArray T_api_ID :: ([rows Q_api_Choice vx2 x2.l, ownB vd2 tlB.d] ++ (blk g9 (Rdr.cells (rVec 32) tlIA).toArray T_api_ID :: ([rows Q_api_Choice vx1 x1.l, ownB vd1 tlA.d] ++ [blk g8 (Rdr.cells Q_api_Block (tlB.p, tlB.h, vb)).toArray T_api_Block, ownB vb tlB.d, blk g7 (Rdr.cells Q_api_Block (tlA.p, tlA.h, va)).toArray T_api_Block, ownB va tlA.d])))) := Dat.sub hd2 fun A hA => List.mem_cons_of_mem _ hA
  have hsd3 : SDat S2 (blk g11 (Rdr.cells (rVec 32) tlIB).toArray T_api_ID :: ([rows Q_api_Choice vx2 x2.l, ownB vd2 tlB.d] ++ (blk g9 (Rdr.cells (rVec 32) tlIA).toArray T_api_ID :: ([rows Q_api_Choice vx1 x1.l, ownB vd1 tlA.d] ++ [blk g8 (Rdr.cells Q_api_Block (tlB.p, tlB.h, vb)).toArray T_api_Block, ownB vb tlB.d, blk g7 (Rdr.cells Q_api_Block (tlA.p, tlA.h, va)).toArray T_api_Block, ownB va tlA.d])))) := SDat.sub hsd2 fun A hA => List.mem_cons_of_mem _ hA
  obtain ⟨As, hAs⟩ : ∃ As, As = blk g11 (Rdr.cells (rVec 32) tlIB).toArray T_api_ID :: ([rows Q_api_Choice vx2 x2.l, ownB vd2 tlB.d] ++ (blk g9 (Rdr.cells (rVec 32) tlIA).toArray T_api_ID :: ([rows Q_api_Choice vx1 x1.l, ownB vd1 tlA.d] ++ [blk g8 (Rdr.cells Q_api_Block (tlB.p, tlB.h, vb)).toArray T_api_Block, ownB vb tlB.d, blk g7 (Rdr.cells Q_api_Block (tlA.p, tlA.h, va)).toArray T_api_Block, ownB va tlA.d]))) := ⟨_, rfl⟩
  rw [← hAs] at hs25' hd3 hsd3
  have r9 : ∀ {z : World} {Xs : List Asn}, Sep w z (Xs ++ As) → z.heap[g9]? = some (.cells (Rdr.cells (rVec 32) tlIA).toArray T_api_ID (0, 0)) := fun h => by
    have h := Sep.dropL h
    rw [hAs] at h
    exact Sep.blk (Sep.p3 h)
  have r11 : ∀ {z : World} {Xs : List Asn}, Sep w z (Xs ++ As) → z.heap[g11]? = some (.cells (Rdr.cells (rVec 32) tlIB).toArray T_api_ID (0, 0)) := fun h => by
    have h := Sep.dropL h
    rw [hAs] at h
    exact Sep.blk h
  refine drH_S hs25' fun w26 hs26 _ => ?_
  try simp only [fx, Nat.reduceAdd, forall_const, show ((0 : Int) != 0) = false from rfl]
  refine jn1_dup ?_
  refine ⟨kv tlIB, fun u hu => (L_api_ID (r11 hu) _).mpr rfl, ?_⟩
  refine efS_i (cal_i (oPref_spec hi2 (toH_rd hs26 hd3 hsd3)) ?_)
  rintro _ w27 ⟨k, hk, rfl, hf27⟩
  rw [hS2] at hk
  obtain rfl : k = tlIB := hk.one tl_pref
  have hs27 := hs26.old hf27
  refine ⟨hs27, ?_⟩
  refine ⟨.bool (!decide (tlIB = tlIB)), fun u hu => (ne_api_ID _).mpr rfl, ?_⟩
  simp only [fx, Nat.reduceAdd, forall_const, L_api_ID (r11 hs27), decide_true, Bool.not_true]
  rw [B_api_Vote_0_1]
  refine rows_lit (q := Q_api_Vote) hs27 S_sl_api_Vote (l := tlV) (V := fun a => .agg (Rdr.cells Q_api_Vote a).toArray) (fun a => rfl) rfl rfl (by decide) (by decide) fun gv w28 hs28 => ?_
  have hs28' : Sep w w28 (toH g gt gm gs ov2 tlP tlT (tlN vd1 vd2 cc1 cc2) c2 S2 ++ (rows Q_api_Vote (.slice (some ⟨gv, 0, none⟩) 1 1) tlV :: As)) := Sep.pick hs28 [1, 2, 3, 4, 5, 0] 6
  refine cal_i (oPoll_spec (V := tlV) hs28' (hd3.sub fun A hA => List.mem_cons_of_mem _ hA) hsd3 (fun A hA => List.mem_cons_of_mem _ hA) hi2 (fun z hz => Sep.rows hz) (by decide) (by simp)) ?_
  have e0 : pollE tlP tlV = 0 := by rw [pollE, if_neg (by simpa using tlV_ok), if_neg (by decide)]
  rintro _ w30 (⟨he, _⟩ | ⟨_, s, av, rv, gs', ov', N', S', E, hPO, rfl, hsN, _, hS', hsd', hs30⟩)
  · exact absurd e0 he
  rw [hS2] at hPO
  have hPI := hPO.reach.pi (hS2 ▸ hi2.pi) tlV_ok (by decide)
  have hfin := hPO.fin
  obtain rfl : s = tl4 := tl_out (fun k x hx => hi2.may k x (by rw [hS2]; exact hx)) hPO
  have hN' : N' = [] := by
    cases N' with
    | nil => rfl
    | cons a l => cases hsN
  subst hN'
  have hi3 := hPI.fails tlV hfin (fun x hx => by
    have : tl4.S tl4.t.root = none := tl4_S
    rw [this] at hx; cases hx) hsN
  rw [← hS'] at hi3
  have hp3 : IsPref tl4.t (svM S') tlIB := by
    refine ⟨.refl _, ?_⟩
    rw [hS']
    unfold failS
    split
    · rw [tl4_S]; rfl
    · rfl
  have hs31 : Sep w w30 (toH g gt gm gs' ov' tlP tl4.t [] c2 S' ++ (rows (rVec 32) av [tlIA, tlIB] :: rows (rVec 32) rv [] :: (E ++ (rows Q_api_Vote (.slice (some ⟨gv, 0, none⟩) 1 1) tlV :: As)))) := hs30
  try simp only [fx, Nat.reduceAdd, forall_const]
  refine drH_S hs31 fun w32 hs32 _ => ?_
  try simp only [fx, Nat.reduceAdd, forall_const, show ((0 : Int) == 0) = true from rfl]
  refine jn1_dup ?_
  have hAs2 : ∀ {z : World} {Xs : List Asn}, Sep w z (Xs ++ (toH g gt gm gs' ov' tlP tl4.t [] c2 S' ++ (rows (rVec 32) av [tlIA, tlIB] :: rows (rVec 32) rv [] :: (E ++ (rows Q_api_Vote (.slice (some ⟨gv, 0, none⟩) 1 1) tlV :: As))))) → Sep w z As := fun {z Xs} h =>
    (Sep.dropL (As := E) (Sep.dropL (As := toH g gt gm gs' ov' tlP tl4.t [] c2 S') (Sep.dropL (As := Xs) h)).tail.tail).tail
  refine ⟨kv tlIA, fun u hu => (L_api_ID (r9 (Xs := []) (hAs2 (Xs := []) hu)) _).mpr rfl, ?_⟩
  refine ⟨kv tlIB, fun u hu => (L_api_ID (r11 (Xs := []) (hAs2 (Xs := []) hu)) _).mpr rfl, ?_⟩
  refine efS_i (rows_lit hs32 S_sl_api_ID (l := [tlIA, tlIB]) (V := fun a => .agg (Rdr.cells (rVec 32) a).toArray) (fun a => rfl) rfl rfl (by decide) (by decide) fun g33 w33 hs33 => ?_)
  refine ⟨hs33.tail, ?_⟩
  refine efS_i (cal_i (idsEqual_spec (Sep.rows (Sep.pick hs33 [6] 7)) (Sep.rows hs33) (by simp)) ?_)
  rintro _ w34 ⟨rfl, hf34⟩
  have hs34 := hs33.tail.old hf34
  refine ⟨hs34, ?_⟩
  have hto : ToR w34.heap g gt gm gs' ov' tlP tl4.t [] c2 S' := toH_rd hs34 (fun x hx => by cases hx) (hsd'.sub fun A hA => by
    rcases List.mem_append.1 hA with h | h
    · exact List.mem_cons_of_mem _ (List.mem_cons_of_mem _ (List.mem_append_left _ h))
    · exact List.mem_cons_of_mem _ (List.mem_cons_of_mem _ (List.mem_append_right _ (List.mem_cons_of_mem _ h))))
  have hglen : lenS rv = fun K => K (.int .i64 0) := by
    funext K
    have := (Sep.rows (Sep.pick hs34 [6] 7)).len K
    simpa using this
  simp only [fx, Nat.reduceAdd, forall_const, decide_true, hglen, show ((0 : Int) == 0) = true from rfl]
  refine jn1_dup ?_
  refine ⟨kv tlIB, fun u hu => (L_api_ID (r11 (Xs := []) (hAs2 (Xs := []) hu)) _).mpr rfl, ?_⟩
  refine efS_i (cal_i (oPref_spec hi3 hto) ?_)
  rintro _ w35 ⟨k, hk, rfl, hf35⟩
  obtain rfl : k = tlIB := hk.one hp3
  have hs35 := hs34.old hf35
  refine ⟨hs35, ?_⟩
  refine ⟨.bool (decide (tlIB = tlIB)), fun u hu => (eq_api_ID _).mpr rfl, ?_⟩
  simp only [fx, Nat.reduceAdd, forall_const, decide_true]
  refine jn1_dup ?_
  have hto2 : ToR w35.heap g gt gm gs' ov' tlP tl4.t [] c2 S' := toH_rd hs35 (fun x hx => by cases hx) (hsd'.sub fun A hA => by
    rcases List.mem_append.1 hA with h | h
    · exact List.mem_cons_of_mem _ (List.mem_cons_of_mem _ (List.mem_append_left _ h))
    · exact List.mem_cons_of_mem _ (List.mem_cons_of_mem _ (List.mem_append_right _ (List.mem_cons_of_mem _ h))))
  refine efS_i (cal_i (oLen_spec hto2 (by simp)) ?_)
  rintro _ _ ⟨rfl, rfl⟩
  refine ⟨hs35, ?_⟩
  simp only [fx, Nat.reduceAdd, forall_const, List.length_nil]
  exact hR _ _ ⟨rfl, hs35.fr0⟩

end Go.Fx
