/-
  What acts do to instances: plain laws.
-/
import Derived.Test.YtgiklllplfcikaaSnJ
set_option linter.unusedVariables false
set_option linter.unusedSimpArgs false
namespace Go.Fx
/-- What may be, in parts. -/
structure May (p : Par) (x : Sn) : Prop where
  par : parE p = 0
  n1 : 1 ≤ x.l.length
  n2 : x.l.length ≤ 32
  pref : 0 ≤ plc x.l x.pref
  flake : 0 ≤ plc x.l x.flake
  c0 : 0 ≤ x.conf
  c1 : x.conf ≤ p.2.2.2
  dn : x.dn = decide (x.conf = p.2.2.2)
  own : ∀ (i : Nat) (c : Cho), x.l[i]? = some c → plc x.l c.1 = i ∧ 0 ≤ c.2 ∧ c.2 ≤ 1073741824 ∧ c.2 ≤ best x
theorem may_iff {p : Par} {x : Sn} : snE p x = 0 ↔ May p x := by
  constructor
  · intro h
    obtain ⟨h1, h2, h3⟩ := snE_zero h
    unfold headBad at h2
    refine ⟨h1, by omega, by omega, by omega, by omega, by omega, by omega, Classical.not_not.1 fun hd => h2 (.inr (.inr (.inr (.inr (.inr (.inr hd)))))), fun i c hc => ?_⟩
    have := h3 i c hc
    simp [goodAt] at this
    omega
  · intro h
    refine snE_ok h.par (fun hb => ?_) fun i c hc => ?_
    · unfold headBad at hb
      have := h.n1; have := h.n2; have := h.pref; have := h.flake; have := h.c0; have := h.c1
      rcases hb with hb | hb | hb | hb | hb | hb | hb
      · omega
      · omega
      · omega
      · omega
      · omega
      · omega
      · exact hb h.dn
    · have := h.own i c hc
      simp [goodAt]
      omega
theorem plc_pos {l : List Cho} {id : Id} (h : 0 ≤ plc l id) : ∃ i c, plc l id = ((i : Nat) : Int) ∧ l[i]? = some c ∧ c.1 = id ∧ ∀ (j : Nat) (d : Cho), j < i → l[j]? = some d → d.1 ≠ id := by
  rcases plc_cases l id with ⟨h1, _⟩ | h1
  · omega
  · exact h1
theorem plc_app {l m : List Cho} {id : Id} (h : 0 ≤ plc l id) : plc (l ++ m) id = plc l id := by
  obtain ⟨i, c, h1, h2, h3, h4⟩ := plc_pos h
  have hlt := (List.getElem?_eq_some_iff.1 h2).1
  rw [h1]
  refine plc_at (c := c) (by rw [List.getElem?_append_left hlt]; exact h2) h3 fun j d hj hd => ?_
  rw [List.getElem?_append_left (by omega)] at hd
  exact h4 j d hj hd
theorem plc_last {l : List Cho} {id : Id} {s : Int} (h : plc l id < 0) : plc (l ++ [(id, s)]) id = l.length := by
  refine plc_at (c := (id, s)) (by simp) rfl fun j d hj hd => ?_
  rw [List.getElem?_append_left (by omega)] at hd
  rcases plc_cases l id with ⟨_, h2⟩ | ⟨i, c, h1, _⟩
  · exact h2 j d hd
  · omega
/-- A list that grew: old choices stay, none weaker. -/
def Grows (l m : List Cho) : Prop := ∀ (i : Nat) (c : Cho), l[i]? = some c → ∃ d, m[i]? = some d ∧ d.1 = c.1 ∧ c.2 ≤ d.2
theorem Grows.rfl' (l : List Cho) : Grows l l := fun i c hc => ⟨c, hc, rfl, Int.le_refl _⟩
theorem Grows.len {l m : List Cho} (h : Grows l m) : l.length ≤ m.length := by
  rcases Nat.lt_or_ge m.length l.length with hlt | h'
  · obtain ⟨d, hd, _⟩ := h m.length _ (List.getElem?_eq_getElem hlt)
    simp at hd
  · exact h'
def prf (x : Sn) : Id := bif x.dn then x.flake else x.pref
theorem best_at {x : Sn} {i : Nat} {c : Cho} (h : plc x.l x.pref = i) (hc : x.l[i]? = some c) : best x = c.2 := by rw [best, h, Int.toNat_natCast, hc]; rfl
theorem May.best {p : Par} {x : Sn} (h : May p x) : ∃ i c, plc x.l x.pref = ((i : Nat) : Int) ∧ x.l[i]? = some c ∧ best x = c.2 := by
  obtain ⟨i, c, h1, h2, _⟩ := plc_pos h.pref
  exact ⟨i, c, h1, h2, best_at h1 h2⟩
theorem add_may {p : Par} {x : Sn} {id : Id} (h : May p x) : ((addM p x id).2 ≠ 0) ∨ (addM p x id = ({ x with l := x.l ++ [(id, 0)] }, 0) ∧ May p { x with l := x.l ++ [(id, 0)] }) := by
  by_cases h1 : 0 ≤ plc x.l id
  · left; rw [addM, if_neg (by simpa using may_iff.2 h), if_pos h1]; decide
  by_cases h2 : 32 ≤ x.l.length
  · left; rw [addM, if_neg (by simpa using may_iff.2 h), if_neg h1, if_pos h2]; decide
  right
  refine ⟨by rw [addM, if_neg (by simpa using may_iff.2 h), if_neg h1, if_neg h2], ?_⟩
  obtain ⟨i, c, hi, hc, hb⟩ := h.best
  have hlt := (List.getElem?_eq_some_iff.1 hc).1
  have hb' : Go.Fx.best { x with l := x.l ++ [(id, 0)] } = c.2 := best_at (x := { x with l := x.l ++ [(id, 0)] }) (by show plc (x.l ++ _) x.pref = _; rw [plc_app h.pref]; exact hi) (by show (x.l ++ _)[i]? = _; rw [List.getElem?_append_left hlt]; exact hc)
  have hc0 := h.own i c hc
  refine ⟨h.par, by simp, by simp; omega, by show 0 ≤ plc (x.l ++ _) x.pref; rw [plc_app h.pref]; exact h.pref, by show 0 ≤ plc (x.l ++ _) x.flake; rw [plc_app h.flake]; exact h.flake, h.c0, h.c1, h.dn, fun j d hd => ?_⟩
  rw [hb']
  have hd : (x.l ++ [(id, 0)])[j]? = some d := hd
  by_cases hj : j < x.l.length
  · rw [List.getElem?_append_left hj] at hd
    obtain ⟨q1, q2, q3, q4⟩ := h.own j d hd
    refine ⟨?_, q2, q3, by rw [← hb]; exact q4⟩
    show plc (x.l ++ _) d.1 = _
    rw [plc_app (by omega)]
    exact q1
  · have hje : j = x.l.length := by have := (List.getElem?_eq_some_iff.1 hd).1; simp at this; omega
    subst hje
    simp at hd
    subst hd
    refine ⟨?_, by simp, by simp, hc0.2.1⟩
    show plc (x.l ++ _) id = _
    exact plc_last (by omega)
theorem fail_may {p : Par} {x : Sn} (h : May p x) : May p (failM p x).1 ∧ (failM p x).1.l = x.l ∧ prf (failM p x).1 = prf x ∧ (x.dn = true → (failM p x).1 = x) ∧ (failM p x).1.dn = x.dn ∧ (x.dn = false → (failM p x).1.conf = 0 ∧ (failM p x).1.flake = x.flake) := by
  have he : (failM p x).1 = if x.dn then x else { x with conf := 0 } := by rw [failM, if_neg (by simpa using may_iff.2 h)]
  rw [he]
  by_cases hd : x.dn = true
  · rw [if_pos hd]
    exact ⟨h, rfl, rfl, fun _ => rfl, rfl, fun h => by rw [hd] at h; cases h⟩
  · rw [if_neg hd]
    have hd : x.dn = false := by simpa using hd
    obtain ⟨_, _, _, _, _, q6, _⟩ := parE_zero h.par
    refine ⟨⟨h.par, h.n1, h.n2, h.pref, h.flake, by simp, by simp; omega, ?_, h.own⟩, rfl, ?_, (fun h => by rw [hd] at h; cases h), rfl, fun _ => ⟨rfl, rfl⟩⟩
    · have : decide ((0 : Int) = p.2.2.2) = false := by simp; omega
      show x.dn = decide ((0 : Int) = p.2.2.2)
      rw [this, hd]
    · show (bif x.dn then _ else _) = (bif x.dn then _ else _)
      rw [hd]
/-- Votes enough: what a poll makes. -/
theorem up_may {p : Par} {x : Sn} {k : Nat} {c : Cho} {n : Int} (h : May p x) (hc : x.l[k]? = some c) (hd : x.dn = false) {y : Sn}
    (hy : y = { updM x c.1 k c with conf := cfM p x c.1 n, dn := decide (cfM p x c.1 n = p.2.2.2) }) :
    May p y ∧ y.l = x.l.set k (c.1, min (c.2 + 1) 1073741824) ∧ y.flake = c.1 ∧ (y.pref = x.pref ∨ (y.pref = c.1 ∧ ∃ s, plc x.l x.pref = ((s : Nat) : Int) ∧ ∃ d, y.l[s]? = some d ∧ d.2 < min (c.2 + 1) 1073741824)) := by
  have hklt := (List.getElem?_eq_some_iff.1 hc).1
  obtain ⟨q1, q2, q3, q4⟩ := h.own k c hc
  obtain ⟨_, _, _, _, _, r6, _⟩ := parE_zero h.par
  obtain ⟨i, b, hi, hb, hbest⟩ := h.best
  have hilt := (List.getElem?_eq_some_iff.1 hb).1
  generalize hs : min (c.2 + 1) 1073741824 = s at *
  have hs1 : c.2 ≤ s ∧ 0 ≤ s ∧ s ≤ 1073741824 := by omega
  have hyl : y.l = x.l.set k (c.1, s) := by rw [hy, updM, hs]
  have hplc : ∀ z, plc y.l z = plc x.l z := fun z => by rw [hyl, plc_set hc]
  obtain ⟨b', hb', hbb⟩ : ∃ b', y.l[i]? = some b' ∧ b.2 ≤ b'.2 := by
    rw [hyl]
    by_cases hik : k = i
    · subst hik
      rw [hc] at hb; cases hb
      exact ⟨_, List.getElem?_set_self hklt, hs1.1⟩
    · exact ⟨b, by rw [List.getElem?_set_ne hik]; exact hb, Int.le_refl _⟩
  have hbx1 : best { x with l := x.l.set k (c.1, s) } = b'.2 := best_at (x := { x with l := x.l.set k (c.1, s) }) (by show plc (x.l.set _ _) x.pref = _; rw [plc_set hc]; exact hi) (by rw [← hyl]; exact hb')
  have hyp : y.pref = if b'.2 < s then c.1 else x.pref := by rw [hy, updM, hs, hbx1]
  have hyf : y.flake = c.1 := by rw [hy, updM]
  have hyc : y.conf = cfM p x c.1 n := by rw [hy]
  have hyd : y.dn = decide (cfM p x c.1 n = p.2.2.2) := by rw [hy]
  have hcf : x.conf ≠ p.2.2.2 := fun he => by have := h.dn; rw [hd, he] at this; simp at this
  have hcb : 0 ≤ cfM p x c.1 n ∧ cfM p x c.1 n ≤ p.2.2.2 := by
    have := h.c0; have := h.c1
    unfold cfM
    repeat' split
    all_goals omega
  have hky : y.l[k]? = some (c.1, s) := by rw [hyl]; exact List.getElem?_set_self hklt
  have hby : b'.2 ≤ best y ∧ s ≤ best y := by
    by_cases hlt : b'.2 < s
    · rw [if_pos hlt] at hyp
      have : best y = s := best_at (c := (c.1, s)) (i := k) (by rw [hplc, hyp]; exact q1) hky
      omega
    · rw [if_neg hlt] at hyp
      have : best y = b'.2 := best_at (i := i) (by rw [hplc, hyp]; exact hi) hb'
      omega
  refine ⟨⟨h.par, by rw [hyl]; simpa using h.n1, by rw [hyl]; simpa using h.n2, ?_, by rw [hplc, hyf]; omega, by rw [hyc]; exact hcb.1, by rw [hyc]; exact hcb.2, by rw [hyd, hyc], fun j d hj => ?_⟩, hyl, hyf, ?_⟩
  · rw [hplc, hyp]
    split
    · omega
    · exact h.pref
  · rw [hplc]
    by_cases hjk : k = j
    · subst hjk
      rw [hky] at hj
      cases hj
      exact ⟨q1, hs1.2.1, hs1.2.2, hby.2⟩
    · rw [hyl, List.getElem?_set_ne hjk] at hj
      obtain ⟨e1, e2, e3, e4⟩ := h.own j d hj
      exact ⟨e1, e2, e3, by omega⟩
  · by_cases hlt : b'.2 < s
    · right
      rw [if_pos hlt] at hyp
      exact ⟨hyp, i, hi, b', hb', hlt⟩
    · left
      rw [if_neg hlt] at hyp
      exact hyp
theorem poll_cases {p : Par} {x : Sn} {k : Nat} {c : Cho} {n : Int} (h : May p x) (hc : x.l[k]? = some c) (h0 : 0 ≤ n) (hk : n ≤ p.1) :
    (x.dn = true ∧ (pollM p x c.1 n).1 = x) ∨ (x.dn = false ∧ n < p.2.1 ∧ (pollM p x c.1 n).1 = (failM p x).1) ∨
      (x.dn = false ∧ p.2.1 ≤ n ∧ (pollM p x c.1 n).1 = { updM x c.1 k c with conf := cfM p x c.1 n, dn := decide (cfM p x c.1 n = p.2.2.2) }) := by
  have hE := may_iff.2 h
  have hpl := (h.own k c hc).1
  cases hd : x.dn with
  | true => left; exact ⟨rfl, by rw [pollM, if_neg (by simpa using hE), if_neg (by omega), if_neg (by omega), if_pos hd]⟩
  | false =>
    right
    by_cases hn : n < p.2.1
    · left
      refine ⟨rfl, hn, ?_⟩
      rw [pollM, if_neg (by simpa using hE), if_neg (by omega), if_neg (by omega), if_neg (by simp [hd]), if_pos hn, failM, if_neg (by simpa using hE), if_neg (by simp [hd])]
    · right
      refine ⟨rfl, by omega, ?_⟩
      rw [pollM_up hE (by omega) hpl hc hd hn]
theorem grows_set {l : List Cho} {k : Nat} {c : Cho} {s : Int} (hc : l[k]? = some c) (hs : c.2 ≤ s) : Grows l (l.set k (c.1, s)) := fun i d hd => by
  by_cases hik : k = i
  · subst hik
    rw [hc] at hd; cases hd
    exact ⟨_, List.getElem?_set_self (List.getElem?_eq_some_iff.1 hc).1, rfl, hs⟩
  · exact ⟨d, by rw [List.getElem?_set_ne hik]; exact hd, rfl, Int.le_refl _⟩
/-- What an act does to an instance that may be. -/
inductive Does (p : Par) (x : Sn) (a : Act) : Sn × Id × Int → Prop
  | add (y : Sn) (l : List Cho) : a.2.2.1 = true → y = { x with l := l } → May p y → Grows x.l l → Does p x a (y, vz 32, -1)
  | none (id : Id) (n : Int) (y : Sn) : a.2.2.1 = false → 0 ≤ n → n < p.2.1 ∨ x.dn = true → (x.dn = false → y = { x with conf := 0 }) → (x.dn = true → y = x) → May p y → Does p x a (y, id, n)
  | up (k : Nat) (c : Cho) (n : Int) (y : Sn) : a.2.2.1 = false → x.l[k]? = some c → x.dn = false → p.2.1 ≤ n → y = { updM x c.1 k c with conf := cfM p x c.1 n, dn := decide (cfM p x c.1 n = p.2.2.2) } → Does p x a (y, c.1, n)
theorem step_does {p : Par} {x : Sn} (a : Act) (h : May p x) : Does p x a (stepM p x a) := by
  obtain ⟨f1, f2, f3, f4, f5, f6⟩ := fail_may h
  have hE := may_iff.2 h
  have hfe : (failM p x).1 = if x.dn then x else { x with conf := 0 } := by rw [failM, if_neg (by simpa using hE)]
  have hff : x.dn = false → (failM p x).1 = { x with conf := 0 } := fun hd => by rw [hfe, if_neg (by simp [hd])]
  obtain ⟨r1, r2, r3, r4, r5, r6, r7⟩ := parE_zero h.par
  unfold stepM
  by_cases ha : a.2.2.1 = true
  · rw [if_pos ha]
    rcases add_may (id := a.2.2.2) h with h1 | ⟨h1, h2⟩
    · rw [if_pos h1]
      exact .add x x.l ha rfl h (Grows.rfl' _)
    · rw [h1, if_neg (by simp)]
      refine .add _ _ ha rfl h2 fun i c hc => ⟨c, ?_, rfl, Int.le_refl _⟩
      rw [List.getElem?_append_left (List.getElem?_eq_some_iff.1 hc).1]
      exact hc
  · rw [if_neg ha]
    have ha : a.2.2.1 = false := by simpa using ha
    by_cases hn : actN p a < 0
    · rw [if_pos hn]
      exact .none _ 0 _ ha (by omega) (.inl (by omega)) hff f4 f1
    · rw [if_neg hn]
      have hlt : a.1 % x.l.length < x.l.length := Nat.mod_lt _ (by have := h.n1; omega)
      obtain ⟨c, hc⟩ : ∃ c, x.l[a.1 % x.l.length]? = some c := ⟨_, List.getElem?_eq_getElem hlt⟩
      have hid : actId x a = c.1 := by rw [actId, hc]; rfl
      rw [hid]
      rcases poll_cases h hc (n := actN p a) (by omega) (by unfold actN; omega) with ⟨hd, he⟩ | ⟨hd, hn2, he⟩ | ⟨hd, hn2, he⟩
      · rw [he]
        exact .none _ _ _ ha (by omega) (.inr hd) (fun h => by rw [hd] at h; cases h) (fun _ => rfl) h
      · rw [he]
        exact .none _ _ _ ha (by omega) (.inl hn2) hff f4 f1
      · exact .up _ _ _ _ ha hc hd hn2 he
theorem does_may {p : Par} {x : Sn} {a : Act} {m : Sn × Id × Int} (h : May p x) (hd : Does p x a m) : May p m.1 ∧ Grows x.l m.1.l := by
  cases hd with
  | add y l h1 h2 h3 h4 => subst h2; exact ⟨h3, h4⟩
  | none id n y h1 h2 h3 h4 h5 h6 =>
    refine ⟨h6, ?_⟩
    cases hdn : x.dn with
    | true => rw [h5 hdn]; exact Grows.rfl' _
    | false => rw [h4 hdn]; exact Grows.rfl' _
  | up k c n y h1 h2 h3 h4 h5 =>
    obtain ⟨u1, u2, _⟩ := up_may (n := n) h h2 h3 h5
    refine ⟨u1, ?_⟩
    show Grows x.l y.l
    rw [u2]
    have := h.own k c h2
    exact grows_set h2 (by omega)
theorem does_stays {p : Par} {x : Sn} {a : Act} {m : Sn × Id × Int} (h : May p x) (hd : Does p x a m) :
    (prf x = prf m.1 ∨ (m.1.dn = true ∧ x.dn = false ∧ prf m.1 = m.2.1) ∨ (strM m.1.l (prf x) < strM m.1.l (prf m.1) ∧ prf m.1 = m.2.1)) ∧ (x.dn = true → a.2.2.1 = false → m.1 = x) := by
  cases hd with
  | add y l h1 h2 h3 h4 =>
    subst h2
    exact ⟨.inl rfl, fun _ h => by rw [h1] at h; cases h⟩
  | none id n y h1 h2 h3 h4 h5 h6 =>
    refine ⟨.inl ?_, fun hd _ => h5 hd⟩
    show prf x = prf y
    cases hdn : x.dn with
    | true => rw [h5 hdn]
    | false => rw [h4 hdn]; simp [prf, hdn]
  | up k c n y h1 h2 h3 h4 h5 =>
    refine ⟨?_, fun hd => by rw [h3] at hd; cases hd⟩
    show prf x = prf y ∨ (y.dn = true ∧ x.dn = false ∧ prf y = c.1) ∨ (strM y.l (prf x) < strM y.l (prf y) ∧ prf y = c.1)
    obtain ⟨u1, u2, u3, u4⟩ := up_may (n := n) h h2 h3 h5
    have hpx : prf x = x.pref := by rw [prf, h3]; rfl
    cases hyd : y.dn with
    | true => right; left; exact ⟨rfl, h3, by rw [prf, hyd]; exact u3⟩
    | false =>
      have hpy : prf y = y.pref := by rw [prf, hyd]; rfl
      rw [hpx, hpy]
      rcases u4 with u4 | ⟨u4, s, hs, d, hds, hlt⟩
      · left; exact u4.symm
      · right; right
        refine ⟨?_, u4⟩
        have e1 : strM y.l x.pref = d.2 := by rw [strM, u2, plc_set h2, hs, if_neg (by omega), Int.toNat_natCast, ← u2, hds]; rfl
        have e2 : strM y.l c.1 = min (c.2 + 1) 1073741824 := by
          rw [strM, u2, plc_set h2, (h.own k c h2).1, if_neg (by omega), Int.toNat_natCast, List.getElem?_set_self (List.getElem?_eq_some_iff.1 h2).1]
          rfl
        rw [u4, e1, e2]
        exact hlt
def rowN (p : Par) (row : Int) (last id : Id) (n : Int) : Int := if n < 0 then row else if n < p.2.2.1 then 0 else if id = last then row + 1 else 1
def lastN (p : Par) (last id : Id) (n : Int) : Id := if p.2.1 ≤ n then id else last
structure RowI (p : Par) (x : Sn) (row : Int) (last : Id) (dn : Bool) : Prop where
  may : May p x
  isdn : x.dn = dn
  row : dn = false → row = x.conf ∧ (row = 0 ∨ last = x.flake)
theorem does_row {p : Par} {x : Sn} {a : Act} {m : Sn × Id × Int} {row : Int} {last : Id} {dn : Bool} (h : RowI p x row last dn) (hd : Does p x a m) :
    (dn = false → rowN p row last m.2.1 m.2.2 = p.2.2.2 → m.1.dn = true ∧ prf m.1 = m.2.1) ∧ RowI p m.1 (rowN p row last m.2.1 m.2.2) (lastN p last m.2.1 m.2.2) (dn || decide (rowN p row last m.2.1 m.2.2 = p.2.2.2)) ∧ (dn = true → prf m.1 = prf x) := by
  obtain ⟨hm, hdn, hrow⟩ := h
  obtain ⟨r1, r2, r3, r4, r5, r6, r7⟩ := parE_zero hm.par
  have hb : x.dn = decide (x.conf = p.2.2.2) := hm.dn
  cases hd with
  | add y l h1 h2 h3 h4 =>
    subst h2
    have hr : rowN p row last (vz 32) (-1) = row := by rw [rowN, if_pos (by decide)]
    have hl : lastN p last (vz 32) (-1) = last := by rw [lastN, if_neg (by omega)]
    show (dn = false → rowN p row last (vz 32) (-1) = _ → _) ∧ RowI p _ (rowN p row last (vz 32) (-1)) (lastN p last (vz 32) (-1)) _ ∧ _
    rw [hr, hl]
    have hne : dn = false → ¬ row = p.2.2.2 := fun hf he => by
      rw [hdn, hf, ← (hrow hf).1, he] at hb
      simp at hb
    refine ⟨fun hf he => absurd he (hne hf), ⟨h3, ?_, fun hf => ?_⟩, fun _ => rfl⟩
    · show x.dn = _
      cases dn with
      | true => simpa using hdn
      | false => simpa [hne rfl] using hdn
    · cases dn with
      | true => cases hf
      | false => exact hrow rfl
  | none id n y h1 h2 h3 h4 h5 h6 =>
    show (dn = false → rowN p row last id n = _ → y.dn = true ∧ prf y = id) ∧ RowI p y (rowN p row last id n) (lastN p last id n) _ ∧ (_ → prf y = prf x)
    cases dn with
    | true =>
      rw [h5 hdn]
      exact ⟨fun h => (by cases h), ⟨hm, by simpa using hdn, fun h => (by cases h)⟩, fun _ => rfl⟩
    | false =>
      have hn : n < p.2.1 := by
        rcases h3 with h3 | h3
        · exact h3
        · rw [hdn] at h3; cases h3
      have hr : rowN p row last id n = 0 := by rw [rowN, if_neg (by omega), if_pos (by omega)]
      have hy := h4 hdn
      rw [hr]
      have hne : ¬ (0 : Int) = p.2.2.2 := by omega
      refine ⟨fun _ he => absurd he hne, ⟨h6, ?_, fun _ => ⟨by rw [hy], .inl rfl⟩⟩, fun h => (by cases h)⟩
      rw [hy]
      simpa [hne] using hdn
  | up k c n y h1 h2 h3 h4 h5 =>
    obtain ⟨u1, u2, u3, u4⟩ := up_may (n := n) hm h2 h3 h5
    have hf : dn = false := by rw [← hdn]; exact h3
    subst hf
    obtain ⟨e1, e2⟩ := hrow rfl
    have hr : rowN p row last c.1 n = cfM p x c.1 n := by
      rw [rowN, if_neg (by omega), cfM]
      by_cases hn : n < p.2.2.1
      · rw [if_pos hn, if_pos hn]
      · rw [if_neg hn, if_neg hn]
        rcases e2 with e2 | e2
        · have e3 : x.conf = 0 := by omega
          rw [e2, e3]
          split <;> split <;> rfl
        · rw [e2, e1]
    have hl : lastN p last c.1 n = c.1 := by rw [lastN, if_pos h4]
    have hyd : y.dn = decide (cfM p x c.1 n = p.2.2.2) := by rw [h5]
    have hyc : y.conf = cfM p x c.1 n := by rw [h5]
    show (false = false → rowN p row last c.1 n = _ → y.dn = true ∧ prf y = c.1) ∧ RowI p y (rowN p row last c.1 n) (lastN p last c.1 n) (false || decide (rowN p row last c.1 n = _)) ∧ (false = true → prf y = prf x)
    rw [hr, hl]
    refine ⟨fun _ he => ?_, ⟨u1, by rw [hyd]; simp, fun _ => ⟨hyc.symm, .inr u3.symm⟩⟩, fun h => by cases h⟩
    have : y.dn = true := by rw [hyd]; simpa using he
    exact ⟨this, by rw [prf, this]; exact u3⟩
theorem new_may {p : Par} {id : Id} (h : parE p = 0) : May p (newM p id).1 ∧ (newM p id).2 = 0 ∧ (newM p id).1.dn = false ∧ (newM p id).1.conf = 0 := by
  obtain ⟨r1, r2, r3, r4, r5, r6, r7⟩ := parE_zero h
  have he : newM p id = (⟨[(id, 0)], id, id, 0, false⟩, 0) := by rw [newM, if_neg (by simpa using h)]
  have hp : plc [(id, 0)] id = ((0 : Nat) : Int) := plc_at (c := (id, 0)) rfl rfl fun j d hj => by omega
  rw [he]
  refine ⟨⟨h, by simp, by simp, by show 0 ≤ plc [(id, 0)] id; omega, by show 0 ≤ plc [(id, 0)] id; omega, by simp, by show (0 : Int) ≤ _; omega, ?_, fun i c hc => ?_⟩, rfl, rfl, rfl⟩
  · have : decide ((0 : Int) = p.2.2.2) = false := by simp; omega
    exact this.symm
  · match i, hc with
    | 0, hc =>
      cases hc
      have hb : best ⟨[(id, 0)], id, id, 0, false⟩ = 0 := best_at (i := 0) (c := (id, 0)) hp rfl
      rw [hb]
      exact ⟨hp, by simp, by simp, by simp⟩
    | i + 1, hc => simp at hc
end Go.Fx
