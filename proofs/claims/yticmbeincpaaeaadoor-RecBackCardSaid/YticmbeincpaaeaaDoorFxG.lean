/-
  Drawn regions with cuts: behind an operation for which all others either have come up or wait, the held condition may be chosen anew.
-/
import Derived.OrdersHeld
set_option linter.unusedVariables false
set_option linter.unusedSimpArgs false
namespace Go.Fx
section
variable {P : Program} {ops : Array Oper} {Q : Exit → Act → World → Prop} {md : Region.Mode} {C : Nat → Bool}
def wpAnyC (P : Program) (md : Region.Mode) (ops : Array Oper) (Q : Exit → Act → World → Prop) (C : Nat → Bool) : Nat → (World → Prop) → Array Bool → Act → World → Prop
  | 0, S, listed, a, w => Region.ready md ops listed = [] ∧ Q .normal a w
  | fuel + 1, S, listed, a, w =>
    (Region.ready md ops listed = [] → Q .normal a w) ∧
    ∀ i ∈ Region.ready md ops listed, wpOp P ops Q i (fun a' w' => ∃ S' : World → Prop, (C i = false → S' = S) ∧ S' w' ∧ wpAnyC P md ops Q C fuel S' (listed.setIfInBounds i true) a' w') a w
theorem wpAny_of_cut : ∀ (fuel : Nat) (S : World → Prop) (listed : Array Bool) (a : Act) (w : World), wpAnyC P md ops Q C fuel S listed a w → wpAny P md ops Q fuel listed a w
  | 0, _, _, _, _, h => h
  | fuel + 1, _, _, _, _, h => ⟨h.1, fun i hi => wpOp_mono (fun a' w' ⟨S', _, _, h'⟩ => wpAny_of_cut fuel S' _ a' w' h') (h.2 i hi)⟩
/-- Whatever has come up, all that it waited for has. -/
def Closed (md : Region.Mode) (ops : Array Oper) (listed : Array Bool) : Prop :=
  ∀ j oj, ops[j]? = some oj → listed.getD j false = true → ∀ e ∈ oj.after, Region.binds md e = true → listed.getD e.on false = true
theorem closed_step {listed : Array Bool} {j : Nat} (hc : Closed md ops listed) (hj : j ∈ Region.ready md ops listed) : Closed md ops (listed.setIfInBounds j true) := by
  obtain ⟨hjun, oj, hoj, hall⟩ := mem_ready.1 hj
  have hne : ∀ k, j ≠ k → (listed.setIfInBounds j true).getD k false = listed.getD k false := fun k hjk => by
    simp [Array.getD_eq_getD_getElem?, Array.getElem?_setIfInBounds, hjk]
  have hself : (listed.setIfInBounds j true).getD j false = true := by
    have hlt : j < listed.size := by
      rcases Nat.lt_or_ge j listed.size with h | h
      · exact h
      · simp [Array.getD_eq_getD_getElem?, Array.getElem?_eq_none h] at hjun
    simp [Array.getD_eq_getD_getElem?, Array.getElem?_setIfInBounds, hlt]
  intro k ok hok hk e he hb
  by_cases hje : j = e.on
  · rw [← hje]; exact hself
  · rw [hne _ hje]
    by_cases hjk : j = k
    · subst hjk
      rw [hoj] at hok
      cases hok
      exact hall e he hb
    · rw [hne _ hjk] at hk
      exact hc k ok hok hk e he hb
/-- What an operation waits for, and what that waits for .. -/
def needs (md : Region.Mode) (ops : Array Oper) (i : Nat) : Nat → Nat → Bool
  | 0, _ => false
  | f + 1, j => match ops[j]? with
    | some o => o.after.any fun e => Region.binds md e && (Nat.beq e.on i || needs md ops i f e.on)
    | none => false
theorem needs_listed {listed : Array Bool} (hc : Closed md ops listed) {i : Nat} : ∀ (f j : Nat), needs md ops i f j = true → listed.getD j false = true → listed.getD i false = true
  | 0, _, h, _ => by simp [needs] at h
  | f + 1, j, h, hj => by
    unfold needs at h
    split at h
    · rename_i o ho
      obtain ⟨e, he, h⟩ := Array.any_eq_true'.1 h
      simp only [Bool.and_eq_true, Bool.or_eq_true] at h
      have h1 := hc j o ho hj e he h.1
      rcases h.2 with h2 | h2
      · rw [Nat.eq_of_beq_eq_true h2] at h1; exact h1
      · exact needs_listed hc f e.on h2 h1
    · cases h
/-- An operation that is ready needs only what has come up. -/
theorem needs_ready {listed : Array Bool} (hc : Closed md ops listed) {i j f : Nat} (hj : j ∈ Region.ready md ops listed) (hn : needs md ops i f j = true) : listed.getD i false = true := by
  obtain ⟨hjun, oj, hoj, hall⟩ := mem_ready.1 hj
  cases f with
  | zero => simp [needs] at hn
  | succ f =>
    unfold needs at hn
    rw [hoj] at hn
    obtain ⟨e, he, h⟩ := Array.any_eq_true'.1 hn
    simp only [Bool.and_eq_true, Bool.or_eq_true] at h
    have h1 := hall e he h.1
    rcases h.2 with h2 | h2
    · rw [Nat.eq_of_beq_eq_true h2] at h1; exact h1
    · exact needs_listed hc f e.on h2 h1
theorem unlisted {listed : Array Bool} {i : Nat} (h : listed.getD i true = false) : listed.getD i false = false := by
  rcases Nat.lt_or_ge i listed.size with h' | h'
  · simp [h'] at h ⊢; exact h
  · simp [Array.getD_eq_getD_getElem?, Array.getElem?_eq_none h'] at h
/-- An operation that may come up is taken first, if it yields its value in every world that meets S, and every cut still to come needs it. -/
theorem wpAnyC_first {S : World → Prop} {i : Nat} {oi : Oper} {v : Value} (hi : ops[i]? = some oi) (hsel : ∀ (j : Nat) (o : Oper) cs b, ops[j]? = some o → o.op ≠ .select cs b)
    (hQ : ∀ c a w, Q (.panic c) (a.put oi.dst v) w → Q (.panic c) a w) :
    ∀ (fuel : Nat) (listed : Array Bool) (a : Act) (w : World), Closed md ops listed → (∀ j, C j = true → listed.getD j false = true ∨ ∃ f, needs md ops i f j = true) →
      (∀ j oj, ops[j]? = some oj → j ≠ i → listed.getD j true = false → (∀ e ∈ oj.after, Region.binds md e = true → e.on ≠ i) → oi.apart ops oj = true) →
      i ∈ Region.ready md ops listed → YieldsIf P ops S oi v a → S w →
      wpAnyC P md ops Q C fuel S (listed.setIfInBounds i true) (a.put oi.dst v) w → wpAnyC P md ops Q C (fuel + 1) S listed a w := by
  intro fuel
  induction fuel with
  | zero =>
    intro listed a w _ _ _ hr hy hS H
    refine ⟨fun h => (by rw [h] at hr; cases hr), fun j hj => ?_⟩
    by_cases hji : j = i
    · subst hji; exact hy.wpOp hi hS ⟨S, fun _ => rfl, hS, H⟩
    · have := ready_mono hj hji
      rw [H.1] at this
      cases this
  | succ fuel ih =>
    intro listed a w hcl hcut hfree hr hy hS H
    refine ⟨fun h => (by rw [h] at hr; cases hr), fun j hj => ?_⟩
    by_cases hji : j = i
    · subst hji; exact hy.wpOp hi hS ⟨S, fun _ => rfl, hS, H⟩
    · have hui := unlisted (mem_ready.1 hr).1
      have hCj : C j = false := by
        cases hc : C j with
        | false => rfl
        | true =>
          rcases hcut j hc with h | ⟨f, hn⟩
          · rw [unlisted (mem_ready.1 hj).1] at h; cases h
          · rw [needs_ready hcl hj hn] at hui; cases hui
      have h1 := H.2 j (ready_mono hj hji)
      obtain ⟨hjun, oj, hoj, hall⟩ := mem_ready.1 hj
      have hnot : ∀ e ∈ oj.after, Region.binds md e = true → e.on ≠ i := fun e he hb heq => by
        have h1 := hall e he hb
        rw [heq, hui] at h1
        cases h1
      have h2 := wpOp_putIf hoj (hfree j oj hoj hji hjun hnot) (fun cs b => hsel i oi cs b hi) (fun cs b => hsel j oj cs b hoj) hQ hy h1
      have hfree' : ∀ k ok, ops[k]? = some ok → k ≠ i → (listed.setIfInBounds j true).getD k true = false →
          (∀ e ∈ ok.after, Region.binds md e = true → e.on ≠ i) → oi.apart ops ok = true := fun k ok hk hki hun hno => by
        refine hfree k ok hk hki ?_ hno
        by_cases hjk : j = k
        · subst hjk; exact hjun
        · rw [getD_set_ne true hjk] at hun; exact hun
      have hcut' : ∀ k, C k = true → (listed.setIfInBounds j true).getD k false = true ∨ ∃ f, needs md ops i f k = true := fun k hk => (hcut k hk).imp getD_set_true id
      refine wpOp_mono (fun a' w' h3 => ?_) h2
      obtain ⟨hy', S', hS', hSw, h4⟩ := h3
      obtain rfl := hS' hCj
      refine ⟨S', fun _ => rfl, hSw, ih (listed.setIfInBounds j true) a' w' (closed_step hcl hj) hcut' hfree' (ready_mono hr (Ne.symm hji)) hy' hSw ?_⟩
      rw [Array.setIfInBounds_comm _ _ hji]
      exact h4
/-- The same for an operation that yields its value in every world. -/
theorem wpAnyC_still {i : Nat} {oi : Oper} {v : Value} (hi : ops[i]? = some oi) (hsel : ∀ (j : Nat) (o : Oper) cs b, ops[j]? = some o → o.op ≠ .select cs b)
    (hQ : ∀ c a w, Q (.panic c) (a.put oi.dst v) w → Q (.panic c) a w) (hCi : C i = false) :
    ∀ (fuel : Nat) (S : World → Prop) (listed : Array Bool) (a : Act) (w : World), Closed md ops listed →
      (∀ j oj, ops[j]? = some oj → j ≠ i → listed.getD j true = false → (∀ e ∈ oj.after, Region.binds md e = true → e.on ≠ i) → oi.apart ops oj = true) →
      i ∈ Region.ready md ops listed → YieldsIf P ops (fun _ => True) oi v a → S w →
      wpAnyC P md ops Q C fuel S (listed.setIfInBounds i true) (a.put oi.dst v) w → wpAnyC P md ops Q C (fuel + 1) S listed a w := by
  intro fuel
  induction fuel with
  | zero =>
    intro S listed a w _ _ hr hy hS H
    refine ⟨fun h => (by rw [h] at hr; cases hr), fun j hj => ?_⟩
    by_cases hji : j = i
    · subst hji; exact hy.wpOp hi trivial ⟨S, fun _ => rfl, hS, H⟩
    · have := ready_mono hj hji
      rw [H.1] at this
      cases this
  | succ fuel ih =>
    intro S listed a w hcl hfree hr hy hS H
    refine ⟨fun h => (by rw [h] at hr; cases hr), fun j hj => ?_⟩
    by_cases hji : j = i
    · subst hji; exact hy.wpOp hi trivial ⟨S, fun _ => rfl, hS, H⟩
    · have hui := unlisted (mem_ready.1 hr).1
      have h1 := H.2 j (ready_mono hj hji)
      obtain ⟨hjun, oj, hoj, hall⟩ := mem_ready.1 hj
      have hnot : ∀ e ∈ oj.after, Region.binds md e = true → e.on ≠ i := fun e he hb heq => by
        have h1 := hall e he hb
        rw [heq, hui] at h1
        cases h1
      have h2 := wpOp_putIf hoj (hfree j oj hoj hji hjun hnot) (fun cs b => hsel i oi cs b hi) (fun cs b => hsel j oj cs b hoj) hQ hy h1
      have hfree' : ∀ k ok, ops[k]? = some ok → k ≠ i → (listed.setIfInBounds j true).getD k true = false →
          (∀ e ∈ ok.after, Region.binds md e = true → e.on ≠ i) → oi.apart ops ok = true := fun k ok hk hki hun hno => by
        refine hfree k ok hk hki ?_ hno
        by_cases hjk : j = k
        · subst hjk; exact hjun
        · rw [getD_set_ne true hjk] at hun; exact hun
      refine wpOp_mono (fun a' w' h3 => ?_) h2
      obtain ⟨hy', S', hS', hSw, h4⟩ := h3
      refine ⟨S', hS', hSw, ih S' (listed.setIfInBounds j true) a' w' (closed_step hcl hj) hfree' (ready_mono hr (Ne.symm hji)) hy' hSw ?_⟩
      rw [Array.setIfInBounds_comm _ _ hji]
      exact h4
end
end Go.Fx
