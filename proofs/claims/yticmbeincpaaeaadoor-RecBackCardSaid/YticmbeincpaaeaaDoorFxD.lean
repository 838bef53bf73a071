/-
  The reading of a function's code is sound: what it asks is enough for the model's run of the code.
-/
import Derived.Test.YticmbeincpaaeaaDoorFxC
set_option linter.unusedVariables false
namespace Go.Fx

/-- What is known behind a piece of code. -/
def Post (n : Nat) (W : List Nat) (e : Env) (KN : Env → World → Prop) (KX : Nat → Env → World → Prop) (KR : Env → World → Prop) : Exit → Act → World → Prop
  | .normal, a, w => ∃ e', Rel n a e' ∧ Agree W e e' ∧ KN e' w
  | .exit i, a, w => ∃ e', Rel n a e' ∧ Agree W e e' ∧ KX i e' w
  | .ret, a, w => ∃ e', Rel n a e' ∧ Agree W e e' ∧ KR e' w
  | _, _, _ => False
theorem Post.mono {n : Nat} {W W' : List Nat} {e e0 : Env} {KN KN' KR KR' : Env → World → Prop} {KX KX' : Nat → Env → World → Prop} (hW : ∀ t, t ∈ W → t ∈ W') (he : Agree W' e0 e)
    (hN : ∀ e' w, Agree W' e0 e' → KN e' w → KN' e' w) (hX : ∀ i e' w, KX i e' w → KX' i e' w) (hR : ∀ e' w, KR e' w → KR' e' w) (x : Exit) (a : Act) (w : World)
    (h : Post n W e KN KX KR x a w) : Post n W' e0 KN' KX' KR' x a w := by
  cases x with
  | normal => obtain ⟨e', h1, h2, h3⟩ := h; exact ⟨e', h1, he.trans (h2.mono hW), hN _ _ (he.trans (h2.mono hW)) h3⟩
  | exit i => obtain ⟨e', h1, h2, h3⟩ := h; exact ⟨e', h1, he.trans (h2.mono hW), hX _ _ _ h3⟩
  | ret => obtain ⟨e', h1, h2, h3⟩ := h; exact ⟨e', h1, he.trans (h2.mono hW), hR _ _ h3⟩
  | _ => exact h

/-! ### Joins -/
theorem joinN_sound {slots W : List Nat} {e : Env} {body : (Env → World → Prop) → Prop} {rest : Env → World → Prop} (h : joinN slots W e body rest) :
    ∃ k : Env → World → Prop, body k ∧ ∀ e' w, Agree W e e' → k e' w → ∃ e'', (∀ t, e'' t = e' t) ∧ rest e'' w := by
  unfold joinN at h
  split at h
  · obtain ⟨J, hb, hr⟩ := h
    exact ⟨_, hb, fun e' w ha hk => ⟨_, junkify_self ha, hr _ hk e'⟩⟩
  · obtain ⟨J, hb, hr⟩ := h
    exact ⟨_, hb, fun e' w ha hk => ⟨_, upd_self (junkify_self ha) _, hr _ _ hk e'⟩⟩
  · obtain ⟨J, hb, hr⟩ := h
    exact ⟨_, hb, fun e' w ha hk => ⟨_, upd_self (upd_self (junkify_self ha) _) _, hr _ _ _ hk e'⟩⟩
  · obtain ⟨J, hb, hr⟩ := h
    exact ⟨_, hb, fun e' w ha hk => ⟨_, upd_self (upd_self (upd_self (junkify_self ha) _) _) _, hr _ _ _ _ hk e'⟩⟩
  · obtain ⟨J, hb, hr⟩ := h
    exact ⟨_, hb, fun e' w ha hk => ⟨_, upd_self (upd_self (upd_self (upd_self (junkify_self ha) _) _) _) _, hr _ _ _ _ _ hk e'⟩⟩
  · obtain ⟨J, hb, hr⟩ := h
    exact ⟨_, hb, fun e' w ha hk => ⟨_, upd_self (upd_self (upd_self (upd_self (upd_self (junkify_self ha) _) _) _) _) _, hr _ _ _ _ _ _ hk e'⟩⟩
  · exact h.elim

/-! ### Loops -/
theorem loopN_sound {slots W : List Nat} {e : Env} {w : World} {body : Env → World → (Env → World → Prop) → Prop} (h : loopN slots W e w body) :
    ∃ (I : Env → World → Prop) (μ : Env → World → Nat), I e w ∧ (∀ e' e'' w, (∀ t, e' t = e'' t) → (I e' w → I e'' w) ∧ μ e' w = μ e'' w) ∧
      ∀ e' w, Agree W e e' → I e' w → ∃ e'', (∀ t, e'' t = e' t) ∧ body e'' w fun e3 w3 => I e3 w3 ∧ μ e3 w3 < μ e' w := by
  unfold loopN at h
  split at h
  · obtain ⟨I, μ, h0, hr⟩ := h
    exact ⟨fun _ w => I w, fun _ w => μ w, h0, fun e' e'' w he => ⟨id, rfl⟩, fun e' w ha hi => ⟨_, junkify_self ha, hr _ hi e'⟩⟩
  · obtain ⟨I, μ, h0, hr⟩ := h
    exact ⟨fun e w => I (e _) w, fun e w => μ (e _) w, h0, fun e' e'' w he => by simp only [he]; exact ⟨id, trivial⟩, fun e' w ha hi => ⟨_, upd_self (junkify_self ha) _, hr _ _ hi e'⟩⟩
  · obtain ⟨I, μ, h0, hr⟩ := h
    exact ⟨fun e w => I (e _) (e _) w, fun e w => μ (e _) (e _) w, h0, fun e' e'' w he => by simp only [he]; exact ⟨id, trivial⟩, fun e' w ha hi => ⟨_, upd_self (upd_self (junkify_self ha) _) _, hr _ _ _ hi e'⟩⟩
  · obtain ⟨I, μ, h0, hr⟩ := h
    exact ⟨fun e w => I (e _) (e _) (e _) w, fun e w => μ (e _) (e _) (e _) w, h0, fun e' e'' w he => by simp only [he]; exact ⟨id, trivial⟩, fun e' w ha hi => ⟨_, upd_self (upd_self (upd_self (junkify_self ha) _) _) _, hr _ _ _ _ hi e'⟩⟩
  · obtain ⟨I, μ, h0, hr⟩ := h
    exact ⟨fun e w => I (e _) (e _) (e _) (e _) w, fun e w => μ (e _) (e _) (e _) (e _) w, h0, fun e' e'' w he => by simp only [he]; exact ⟨id, trivial⟩,
      fun e' w ha hi => ⟨_, upd_self (upd_self (upd_self (upd_self (junkify_self ha) _) _) _) _, hr _ _ _ _ _ hi e'⟩⟩
  · obtain ⟨I, μ, h0, hr⟩ := h
    exact ⟨fun e w => I (e _) (e _) (e _) (e _) (e _) w, fun e w => μ (e _) (e _) (e _) (e _) (e _) w, h0, fun e' e'' w he => by simp only [he]; exact ⟨id, trivial⟩,
      fun e' w ha hi => ⟨_, upd_self (upd_self (upd_self (upd_self (upd_self (junkify_self ha) _) _) _) _) _, hr _ _ _ _ _ _ hi e'⟩⟩
  · exact h.elim

/-! ### Regions -/
/-- A way to run operations one by one. -/
structure Runner (P : Program) (n : Nat) (ops : Array Oper) (m : Md) (Q : Exit → Act → World → Prop) (G : List Nat → Act → World → Prop) : Prop where
  nil : ∀ a w, Q .normal a w → G [] a w
  exec : ∀ i l o a e w (K : Value → World → Prop), ops[i]? = some o → Rel n a e → Region.wanted o (yielded ops a.tmps) = true → callOk P o.op = true → stepOp P m o e w K →
    (∀ v w', K v w' → G l (a.put o.dst v) w') → G (i :: l) a w
  skip : ∀ i l o a w, ops[i]? = some o → Region.wanted o (yielded ops a.tmps) = false → G l (a.put o.dst undef) w → G (i :: l) a w

theorem yielded_rel {n : Nat} {ops : Array Oper} {a : Act} {e : Env} (h : Rel n a e) (j : Nat) : yielded ops a.tmps j = (match gval ops e j with | .bool b => some b | _ => none) := by
  unfold yielded gval gslot
  cases ho : ops[j]? with
  | none => rfl
  | some o =>
    cases hd : o.dst with
    | none => simp [hd, undef]
    | some d =>
      have hg := h.get d
      rw [Array.getD_eq_getD_getElem?] at hg
      cases ht : a.tmps[d]? with
      | none =>
        rw [ht] at hg
        simp only [Option.getD_none] at hg
        simp [hd, ht, ← hg, undef]
      | some v =>
        rw [ht] at hg
        simp only [Option.getD_some] at hg
        subst hg
        simp only [Option.bind_some, hd, ht]
        cases e d <;> rfl
theorem wanted_some {n : Nat} {ops : Array Oper} {a : Act} {e : Env} (h : Rel n a e) {o : Oper} {j : Nat} {b : Bool} (hg : o.guard = some (j, b)) :
    Region.wanted o (yielded ops a.tmps) = true ↔ gval ops e j = .bool b := by
  unfold Region.wanted
  rw [hg]
  simp only [yielded_rel h]
  cases hv : gval ops e j <;> simp
theorem wanted_none {ops : Array Oper} {a : Act} {o : Oper} (hg : o.guard = none) : Region.wanted o (yielded ops a.tmps) = true := by simp [Region.wanted, hg]

theorem chkOps_spec {P : Program} {n : Nat} {ops : Array Oper} (h : chkOps P n ops = true) {i : Nat} {o : Oper} (ho : ops[i]? = some o) :
    chkOp P n o = true ∧ guardOk ops o = true ∧ selfOk ops i = true := by
  have hi := (Array.getElem?_eq_some_iff.1 ho).1
  have := (List.all_eq_true.1 h) i (List.mem_range.2 hi)
  simp only [ho, Bool.and_eq_true] at this
  exact ⟨this.1.1, this.1.2, this.2⟩
theorem chkOp_spec {P : Program} {n : Nat} {o : Oper} (h : chkOp P n o = true) : (∀ d, o.dst = some d → d < n) ∧ callOk P o.op = true ∧ ∀ cs b, o.op ≠ .select cs b := by
  unfold chkOp at h
  simp only [Bool.and_eq_true] at h
  refine ⟨fun d hd => ?_, h.1.2, fun cs b hs => ?_⟩
  · have := h.1.1
    rw [hd] at this
    simpa [Nat.blt_eq] using this
  · have := h.2
    rw [hs] at this
    cases this
theorem gval_updO {ops : Array Oper} {e : Env} {i j : Nat} {o : Oper} {b : Bool} {o' : Oper} (ho' : o'.guard = some (j, b)) (hgk : guardOk ops o' = true) (ho : ops[i]? = some o) (hij : i ≠ j) (v : Value) :
    gval ops (updO e o.dst v) j = gval ops e j := by
  unfold guardOk at hgk
  simp only [ho'] at hgk
  unfold gval
  cases hs : gslot ops j with
  | none => rfl
  | some d =>
    simp only [hs] at hgk
    have hi := (Array.getElem?_eq_some_iff.1 ho).1
    have := (List.all_eq_true.1 hgk) i (List.mem_range.2 hi)
    have hb : Nat.beq i j = false := by cases hb : Nat.beq i j with | false => rfl | true => exact absurd (Nat.eq_of_beq_eq_true hb) hij
    simp only [hb, Bool.false_or, dstOf, ho, Bool.not_eq_true', beq_eq_false_iff_ne, ne_eq] at this
    cases hd : o.dst with
    | none => rfl
    | some d' => exact upd_ne e v fun h => this (by rw [hd, h])

section
variable {P : Program} {n : Nat} {ops : Array Oper} {m : Md} {Q : Exit → Act → World → Prop} {G : List Nat → Act → World → Prop}
theorem mem_writesOps {l : List Nat} {i : Nat} {o : Oper} (hi : i ∈ l) (ho : ops[i]? = some o) (d : Nat) (hd : o.dst = some d) : d ∈ writesOps ops l :=
  List.mem_filterMap.2 ⟨i, hi, by simp [dstOf, ho, hd]⟩
theorem sameG_spec {g : Nat × Bool} {i : Nat} (h : sameG ops g i = true) : ∃ o, ops[i]? = some o ∧ o.guard = some g := by
  unfold sameG at h
  split at h
  · rename_i o ho
    split at h
    · rename_i j b hg
      simp only [Bool.and_eq_true, beq_iff_eq] at h
      exact ⟨o, ho, by rw [hg]; obtain ⟨g1, g2⟩ := g; simp only at h; rw [Nat.eq_of_beq_eq_true h.1, h.2]⟩
    · cases h
  · cases h
/-- A group of one guard that says yes. -/
theorem runGrp_sound (R : Runner P n ops m Q G) (hc : chkOps P n ops = true) (g : Nat × Bool) (rest : List Nat) : ∀ (l : List Nat) (a : Act) (e : Env) (w : World) (K : Env → World → Prop),
    (∀ i ∈ l, ∃ o, ops[i]? = some o ∧ o.guard = some g) → Rel n a e → gval ops e g.1 = .bool g.2 → runGrp P ops m l e w K →
    (∀ a' e' w', Rel n a' e' → Agree (writesOps ops l) e e' → K e' w' → G rest a' w') → G (l ++ rest) a w
  | [], a, e, w, K, _, hr, _, h, hk => hk a e w hr (Agree.refl _ _) h
  | i :: l, a, e, w, K, hl, hr, hg, h, hk => by
    obtain ⟨o, ho, hog⟩ := hl i (by simp)
    obtain ⟨h1, h2, h3⟩ := chkOps_spec hc ho
    obtain ⟨hd, hcall, _⟩ := chkOp_spec h1
    simp only [runGrp, ho] at h
    have hij : i ≠ g.1 := by
      intro he
      simp only [selfOk, ho, hog] at h3
      obtain ⟨g1, g2⟩ := g
      simp only at he
      subst he
      simp at h3
    refine R.exec i (l ++ rest) o a e w _ ho hr ((wanted_some hr hog).2 hg) hcall h fun v w' hv => ?_
    refine runGrp_sound R hc g rest l _ _ w' K (fun i hi => hl i (by simp [hi])) (hr.put o.dst v hd) ?_ hv ?_
    · rw [gval_updO hog h2 ho hij]; exact hg
    · intro a' e' w'' hr' ha hK
      refine hk a' e' w'' hr' ?_ hK
      have h1 : Agree (writesOps ops (i :: l)) e (updO e o.dst v) := Agree.updO _ _ _ _ fun d hd => mem_writesOps (by simp) ho d hd
      exact h1.trans (ha.mono fun t ht => by
        obtain ⟨x, hx, hxt⟩ := List.mem_filterMap.1 ht
        exact List.mem_filterMap.2 ⟨x, by simp [hx], hxt⟩)
theorem skips_sound (R : Runner P n ops m Q G) (hc : chkOps P n ops = true) (g : Nat × Bool) (rest : List Nat) : ∀ (l : List Nat) (a : Act) (e : Env) (w : World),
    (∀ i ∈ l, ∃ o, ops[i]? = some o ∧ o.guard = some g) → Rel n a e → gval ops e g.1 ≠ .bool g.2 →
    (∀ a', Rel n a' (skips ops l e) → Agree (writesOps ops l) e (skips ops l e) → G rest a' w) → G (l ++ rest) a w
  | [], a, e, w, _, hr, _, hk => hk a hr (Agree.refl _ _)
  | i :: l, a, e, w, hl, hr, hg, hk => by
    obtain ⟨o, ho, hog⟩ := hl i (by simp)
    obtain ⟨h1, h2, h3⟩ := chkOps_spec hc ho
    obtain ⟨hd, hcall, _⟩ := chkOp_spec h1
    have hij : i ≠ g.1 := by
      intro he
      simp only [selfOk, ho, hog] at h3
      obtain ⟨g1, g2⟩ := g
      simp only at he
      subst he
      simp at h3
    refine R.skip i (l ++ rest) o a w ho (by rw [← Bool.not_eq_true, wanted_some hr hog]; exact hg) ?_
    have hds : dstOf ops i = o.dst := by simp [dstOf, ho]
    refine skips_sound R hc g rest l _ (updO e o.dst undef) w (fun i hi => hl i (by simp [hi])) (hr.put o.dst undef hd) ?_ ?_
    · rw [gval_updO hog h2 ho hij]; exact hg
    · intro a' hr' ha
      have he : skips ops (i :: l) e = skips ops l (updO e o.dst undef) := by simp [skips, hds]
      rw [← he] at hr'
      refine hk a' hr' ?_
      rw [he]
      have h1 : Agree (writesOps ops (i :: l)) e (updO e o.dst undef) := Agree.updO _ _ _ _ fun d hd => mem_writesOps (by simp) ho d hd
      exact h1.trans (ha.mono fun t ht => by
        obtain ⟨x, hx, hxt⟩ := List.mem_filterMap.1 ht
        exact List.mem_filterMap.2 ⟨x, by simp [hx], hxt⟩)
theorem writesOps_append (l l' : List Nat) : writesOps ops (l ++ l') = writesOps ops l ++ writesOps ops l' := by simp [writesOps]
theorem runOps_sound (R : Runner P n ops m Q G) (hc : chkOps P n ops = true) : ∀ (fuel : Nat) (gs : List (List Nat)) (l : List Nat) (a : Act) (e : Env) (w : World) (K : Env → World → Prop),
    Rel n a e → runOps P ops m fuel gs l e w K → (∀ a' e' w', Rel n a' e' → Agree (writesOps ops l) e e' → K e' w' → Q .normal a' w') → G l a w
  | fuel, gs, [], a, e, w, K, hr, h, hk => by
    refine R.nil a w (hk a e w hr (Agree.refl _ _) ?_)
    unfold runOps at h
    exact h
  | 0, gs, i :: l, a, e, w, K, hr, h, hk => by
    unfold runOps at h
    exact h.elim
  | fuel + 1, gs, i :: l, a, e, w, K, hr, h, hk => by
    rw [runOps] at h
    cases ho : ops[i]? with
    | none => simp [ho] at h
    | some o =>
      simp only [ho] at h
      obtain ⟨h1, h2, h3⟩ := chkOps_spec hc ho
      obtain ⟨hd, hcall, _⟩ := chkOp_spec h1
      cases hog : o.guard with
      | none =>
        simp only [hog] at h
        refine R.exec i l o a e w _ ho hr (wanted_none hog) hcall h fun v w' hv => ?_
        refine runOps_sound R hc fuel gs l _ _ w' K (hr.put o.dst v hd) hv fun a' e' w'' hr' ha hK => hk a' e' w'' hr' ?_ hK
        have h1 : Agree (writesOps ops (i :: l)) e (updO e o.dst v) := Agree.updO _ _ _ _ fun d hd => mem_writesOps (by simp) ho d hd
        exact h1.trans (ha.mono fun t ht => by
          obtain ⟨x, hx, hxt⟩ := List.mem_filterMap.1 ht
          exact List.mem_filterMap.2 ⟨x, by simp [hx], hxt⟩)
      | some g =>
        simp only [hog] at h
        cases gs with
        | nil => exact h.elim
        | cons slots gs' =>
          simp only at h
          obtain ⟨k, hb, hrest⟩ := joinN_sound h
          have hall : ∀ j ∈ i :: l.takeWhile (sameG ops g), ∃ o, ops[j]? = some o ∧ o.guard = some g := by
            intro j hj
            rcases List.mem_cons.1 hj with rfl | hj
            · exact ⟨o, ho, hog⟩
            · exact sameG_spec (List.all_eq_true.1 (List.all_takeWhile) j hj)
          have hsplit : i :: l = (i :: l.takeWhile (sameG ops g)) ++ l.dropWhile (sameG ops g) := by simp
          have hgo : ∀ a' e' w', Rel n a' e' → Agree (writesOps ops (i :: l.takeWhile (sameG ops g))) e e' → k e' w' → G (l.dropWhile (sameG ops g)) a' w' := by
            intro a' e' w' hr' ha hk'
            obtain ⟨e'', he, hR⟩ := hrest e' w' ha hk'
            refine runOps_sound R hc fuel gs' _ a' e'' w' K (hr'.congr fun t => (he t).symm) hR fun a2 e2 w2 hr2 ha2 hK => hk a2 e2 w2 hr2 ?_ hK
            have hsub : Agree (writesOps ops (i :: l)) e' e2 := by
              intro t ht
              have := ha2 t (fun hm => ht (by rw [hsplit, writesOps_append]; simp [hm]))
              rw [this, he]
            refine Agree.trans (ha.mono fun t ht => ?_) hsub
            rw [hsplit, writesOps_append]
            simp [ht]
          rw [hsplit]
          by_cases hv : gval ops e g.1 = .bool g.2
          · exact runGrp_sound R hc g _ _ a e w k hall hr hv (hb.1 hv) hgo
          · exact skips_sound R hc g _ _ a e w hall hr hv fun a' hr' ha => hgo a' _ w hr' ha (hb.2 hv)
end
end Go.Fx
