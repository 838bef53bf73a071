/-
  The reading of a function's code is sound: regions in the order of the text, regions that draw their order, joins, loops; and at last a call.
-/
import Derived.Test.YticmbeincpaaeaaDoorFxD
set_option linter.unusedVariables false
namespace Go.Fx
section
variable {P : Program} {n : Nat} {ops : Array Oper} {Q : Exit → Act → World → Prop}

theorem wp_eff {o : Oper} {a : Act} {w : World} {f : World → (Value → World → Prop) → Prop} {K : Value → World → Prop} {next : Act → World → Prop} (hok : EffOk P a.eval o f) (h : f w K)
    (hk : ∀ v w', K v w' → next (a.put o.dst v) w') : o.wp P a w next Q := by
  unfold Oper.wp
  rcases hok w K h with ⟨v, w', hv, hr | ⟨hr, rfl⟩⟩ | ⟨g, args, hr, hcall⟩
  · rw [hr]; exact hk _ _ hv
  · rw [hr]; exact hk _ _ hv
  · rw [hr]
    refine Calls.mono hcall fun e w' ⟨v, he, hv⟩ => ?_
    subst he
    exact hk _ _ hv
theorem wp_val {o : Oper} {a : Act} {w : World} {v : Value} {next : Act → World → Prop} (hr : (execOp a.eval o).run P w = .ok (.value v) w) (hk : next (a.put o.dst v) w) : o.wp P a w next Q := by
  unfold Oper.wp
  rw [hr]
  exact hk
theorem cls_act {a : Act} {e : Env} (h : Rel n a e) {o : Oper} (hc : callOk P o.op = true) : ClsOk P a.eval o (cls P (ev e) o.op o.type) := by
  rw [← h.eval]
  exact cls_ok (fun _ => rfl) (fun _ => rfl) hc

theorem runner_plain : Runner P n ops .plain Q (wpOps P ops Q) where
  nil a w h := h
  exec i l o a e w K ho hr hw hc h hk := by
    have hcl := cls_act (P := P) hr hc
    simp only [wpOps, ho, hw, if_true]
    refine .inl ?_
    unfold stepOp at h
    simp only at h
    cases hcs : cls P (ev e) o.op o.type with
    | pure f =>
      rw [hcs] at h hcl
      obtain ⟨v, hv, hrun⟩ := hcl _ h
      exact wp_val (hrun w) (hk _ _ hv)
    | read f =>
      rw [hcs] at h hcl
      obtain ⟨v, hv, hrun⟩ := hcl _ _ h
      exact wp_val hrun (hk _ _ hv)
    | eff f =>
      rw [hcs] at h hcl
      exact wp_eff hcl h hk
  skip i l o a w ho hw h := by
    simp only [wpOps, ho, hw, Bool.false_eq_true, if_false]
    exact h

def heldG (P : Program) (ops : Array Oper) (Q : Exit → Act → World → Prop) (S : World → Prop) (l : List Nat) (a : Act) (w : World) : Prop :=
  S w → ∀ listed, planOk P ops l listed = true → wpAnyH P .any ops Q S l.length listed a w
theorem planOk_cons {i : Nat} {l : List Nat} {listed : Array Bool} {o : Oper} (h : planOk P ops (i :: l) listed = true) (ho : ops[i]? = some o) :
    planOk P ops l (listed.setIfInBounds i true) = true ∧
      ((effOp P o.op = true ∧ Region.ready .any ops listed = [i]) ∨ (effOp P o.op = false ∧ (Region.ready .any ops listed).contains i = true ∧ Region.free .any ops listed i = true)) := by
  simp only [planOk, ho, Bool.and_eq_true] at h
  refine ⟨h.2, ?_⟩
  cases he : effOp P o.op with
  | true => have := h.1; rw [he] at this; exact .inl ⟨rfl, by simpa using this⟩
  | false => have := h.1; rw [he] at this; simp only [cond_false, Bool.and_eq_true] at this; exact .inr ⟨rfl, this⟩
theorem held_nil {S : World → Prop} (a : Act) (w : World) (h : Q .normal a w) : heldG P ops Q S [] a w := by
  intro _ listed hp
  simp only [planOk, List.isEmpty_iff] at hp
  exact ⟨hp, h⟩
theorem held_skip {S : World → Prop} (hs : Region.noSelect ops = true) (hQ : ∀ c a dst v w, Q (.panic c) (a.put dst v) w → Q (.panic c) a w) {i : Nat} {l : List Nat} {o : Oper} {a : Act} {w : World}
    (ho : ops[i]? = some o) (hw : Region.wanted o (yielded ops a.tmps) = false) (h : heldG P ops Q S l (a.put o.dst undef) w) : heldG P ops Q S (i :: l) a w := by
  intro hS listed hp
  obtain ⟨hp', ⟨he, hr⟩ | ⟨he, hr, hf⟩⟩ := planOk_cons hp ho
  · refine wpAnyH_all hr (by simp) ?_
    intro j hj
    obtain rfl : j = i := by simpa using hj
    unfold wpOp
    simp only [ho, hw, Bool.false_eq_true, if_false]
    exact ⟨hS, h hS _ hp'⟩
  · exact wpAnyH_take ho hs hf hr (fun c a w => hQ c a _ _ w) (.inr ⟨hw, rfl⟩) hS (h hS _ hp')
theorem runner_held {S : World → Prop} (hs : Region.noSelect ops = true) (hQ : ∀ c a dst v w, Q (.panic c) (a.put dst v) w → Q (.panic c) a w) : Runner P n ops (.held S) Q (heldG P ops Q S) where
  nil := held_nil
  exec i l o a e w K ho hr hw hc h hk := by
    intro hS listed hp
    have hcl := cls_act (P := P) hr hc
    obtain ⟨hp', ⟨he, hrd⟩ | ⟨he, hrd, hf⟩⟩ := planOk_cons hp ho
    · refine wpAnyH_all hrd (by simp) ?_
      intro j hj
      obtain rfl : j = i := by simpa using hj
      unfold wpOp
      simp only [ho, hw, if_true]
      refine .inl ?_
      unfold stepOp at h
      simp only [he, cond_true] at h
      cases hcs : cls P (ev e) o.op o.type with
      | pure f => rw [hcs] at h; exact h.elim
      | read f => rw [hcs] at h; exact h.elim
      | eff f =>
        rw [hcs] at h hcl
        exact wp_eff hcl h fun v w' ⟨hS', hv⟩ => ⟨hS', hk v w' hv hS' _ hp'⟩
    · unfold stepOp at h
      simp only [he, cond_false] at h
      cases hcs : cls P (ev e) o.op o.type with
      | pure f =>
        rw [hcs] at h hcl
        obtain ⟨v, hv, hrun⟩ := hcl _ h
        exact wpAnyH_take ho hs hf hrd (fun c a w => hQ c a _ _ w) (.inl ⟨hw, fun w' _ => hrun w'⟩) hS (hk _ _ hv hS _ hp')
      | read f =>
        rw [hcs] at h hcl
        obtain ⟨v, hst, hv⟩ := h
        refine wpAnyH_take ho hs hf hrd (fun c a w => hQ c a _ _ w) (v := v) (.inl ⟨hw, fun w' hw' => ?_⟩) hS (hk _ _ hv hS _ hp')
        obtain ⟨v', rfl, hrun⟩ := hcl w' _ (hst w' hw')
        exact hrun
      | eff f => rw [hcs] at h; exact h.elim
  skip i l o a w ho hw h := held_skip hs hQ ho hw h
def quietG (P : Program) (ops : Array Oper) (Q : Exit → Act → World → Prop) (l : List Nat) (a : Act) (w : World) : Prop := heldG P ops Q (fun w' => w' = w) l a w
theorem runner_quiet (hs : Region.noSelect ops = true) (hQ : ∀ c a dst v w, Q (.panic c) (a.put dst v) w → Q (.panic c) a w) : Runner P n ops .quiet Q (quietG P ops Q) where
  nil a w h := held_nil a w h
  exec i l o a e w K ho hr hw hc h hk := by
    intro hS listed hp
    have hcl := cls_act (P := P) hr hc
    obtain ⟨hp', ⟨he, hrd⟩ | ⟨he, hrd, hf⟩⟩ := planOk_cons hp ho
    · unfold stepOp at h
      simp only [he, cond_true] at h
    · unfold stepOp at h
      simp only [he, cond_false] at h
      cases hcs : cls P (ev e) o.op o.type with
      | pure f =>
        rw [hcs] at h hcl
        obtain ⟨v, hv, hrun⟩ := hcl _ h
        exact wpAnyH_take ho hs hf hrd (fun c a w => hQ c a _ _ w) (.inl ⟨hw, fun w' _ => hrun w'⟩) hS (hk _ _ hv rfl _ hp')
      | read f =>
        rw [hcs] at h hcl
        obtain ⟨v, hv, hrun⟩ := hcl _ _ h
        refine wpAnyH_take ho hs hf hrd (fun c a w => hQ c a _ _ w) (v := v) (.inl ⟨hw, fun w' hw' => ?_⟩) hS (hk _ _ hv rfl _ hp')
        subst hw'
        exact hrun
      | eff f => rw [hcs] at h; exact h.elim
  skip i l o a w ho hw h := held_skip hs hQ ho hw h

theorem noSelect_of_chk (h : chkOps P n ops = true) : Region.noSelect ops = true := by
  unfold Region.noSelect
  rw [Array.all_eq_true]
  intro i hi
  have ho : ops[i]? = some ops[i] := by simp [hi]
  obtain ⟨h1, _, _⟩ := chkOps_spec h ho
  obtain ⟨_, _, h3⟩ := chkOp_spec h1
  split
  · rename_i cs b hs; exact absurd hs (h3 _ _)
  · rfl
theorem post_panic {W : List Nat} {e : Env} {KN KR : Env → World → Prop} {KX : Nat → Env → World → Prop} (c : List PanicEntry) (a : Act) (dst : Option Nat) (v : Value) (w : World)
    (h : Post n W e KN KX KR (.panic c) (a.put dst v) w) : Post n W e KN KX KR (.panic c) a w := h.elim
theorem writesOps_mem {l : List Nat} (hl : ∀ i ∈ l, i < ops.size) (t : Nat) (h : t ∈ writesOps ops l) : t ∈ writesOps ops (List.range ops.size) := by
  obtain ⟨i, hi, ht⟩ := List.mem_filterMap.1 h
  exact List.mem_filterMap.2 ⟨i, List.mem_range.2 (hl i hi), ht⟩

theorem region_plain {id : Nat} {gs : List (List Nat)} {a : Act} {e : Env} {w : World} {KN KR : Env → World → Prop} {KX : Nat → Env → World → Prop} (hc : chkOps P n ops = true) (hr : Rel n a e)
    (h : runOps P ops .plain ops.size gs (List.range ops.size) e w KN) : (Code.region id ops false).wp P (Post n (writesOps ops (List.range ops.size)) e KN KX KR) a w :=
  wp_region (runOps_sound runner_plain hc _ _ _ _ _ _ _ hr h fun a' e' w' hr' ha hk => ⟨e', hr', ha, hk⟩)
theorem region_draw {id : Nat} {gs : List (List Nat)} {a : Act} {e : Env} {w : World} {KN KR : Env → World → Prop} {KX : Nat → Env → World → Prop} (hm : P.follows .mixedOrders = true) (hc : chkOps P n ops = true)
    (hp : planOk P ops (List.range ops.size) (Array.replicate ops.size false) = true) (hr : Rel n a e)
    (h : runOps P ops .quiet ops.size gs (List.range ops.size) e { w with drawn := w.drawn + 1 } KN) : (Code.region id ops true).wp P (Post n (writesOps ops (List.range ops.size)) e KN KX KR) a w := by
  refine wp_region_held (S := fun w' => w' = { w with drawn := w.drawn + 1 }) hm ?_
  have := runOps_sound (Q := Post n (writesOps ops (List.range ops.size)) e KN KX KR) (runner_quiet (noSelect_of_chk hc) post_panic) hc _ _ _ _ _ _ _ hr h fun a' e' w' hr' ha hk => ⟨e', hr', ha, hk⟩
  have h2 := this rfl _ hp
  simpa using h2
theorem region_held {id : Nat} {gs : List (List Nat)} {plan : List Nat} {S : World → Prop} {a : Act} {e : Env} {w : World} {KN KR : Env → World → Prop} {KX : Nat → Env → World → Prop} (hm : P.follows .mixedOrders = true)
    (hc : chkOps P n ops = true) (hl : plan.length = ops.size) (hin : ∀ i ∈ plan, i < ops.size)
    (hp : planOk P ops plan (Array.replicate ops.size false) = true) (hr : Rel n a e) (hS : S { w with drawn := w.drawn + 1 })
    (h : runOps P ops (.held S) ops.size gs plan e { w with drawn := w.drawn + 1 } KN) : (Code.region id ops true).wp P (Post n (writesOps ops (List.range ops.size)) e KN KX KR) a w := by
  refine wp_region_held (S := S) hm ?_
  have := runOps_sound (Q := Post n (writesOps ops (List.range ops.size)) e KN KX KR) (runner_held (noSelect_of_chk hc) post_panic) hc _ _ _ _ _ _ _ hr h
    fun a' e' w' hr' ha hk => ⟨e', hr', ha.mono (writesOps_mem hin), hk⟩
  have h2 := this hS _ hp
  rwa [hl] at h2

/-! ### Drawn regions with cuts -/
def heldCG (P : Program) (ops : Array Oper) (Q : Exit → Act → World → Prop) (cuts : List Nat) (S : World → Prop) (l : List Nat) (a : Act) (w : World) : Prop :=
  S w → ∀ listed, Closed .any ops listed → planOkC P ops cuts l listed = true → wpAnyC P .any ops Q (fun i => cuts.any (Nat.beq i)) l.length S listed a w
theorem planOkC_cons {cuts : List Nat} {i : Nat} {l : List Nat} {listed : Array Bool} {o : Oper} (h : planOkC P ops cuts (i :: l) listed = true) (ho : ops[i]? = some o) :
    planOkC P ops cuts l (listed.setIfInBounds i true) = true ∧
      ((effOp P o.op = true ∧ Region.ready .any ops listed = [i]) ∨ (effOp P o.op = false ∧ (Region.ready .any ops listed).contains i = true ∧ Region.free .any ops listed i = true ∧
        (stillOp P o.op = true ∨ ∀ j, cuts.any (Nat.beq j) = true → listed.getD j false = true ∨ ∃ f, needs .any ops i f j = true) ∧ cuts.any (Nat.beq i) = false)) := by
  simp only [planOkC, ho, Bool.and_eq_true] at h
  refine ⟨h.2, ?_⟩
  cases he : effOp P o.op with
  | true => have := h.1; rw [he] at this; exact .inl ⟨rfl, by simpa using this⟩
  | false =>
    have := h.1
    rw [he] at this
    simp only [cond_false, Bool.and_eq_true, Bool.not_eq_true', Bool.or_eq_true] at this
    refine .inr ⟨rfl, this.1.1, this.1.2, this.2.1.imp id fun hall j hj => ?_, this.2.2⟩
    have h2 := List.all_eq_true.1 hall j ((any_beq cuts j).1 hj)
    simp only [Bool.or_eq_true] at h2
    exact h2.imp id fun h => ⟨_, h⟩
theorem wpAnyC_take {C : Nat → Bool} {S : World → Prop} {i : Nat} {oi : Oper} {v : Value} {fuel : Nat} {listed : Array Bool} {a : Act} {w : World} (hi : ops[i]? = some oi)
    (hs : Region.noSelect ops = true) (hf : Region.free .any ops listed i = true) (hr : (Region.ready .any ops listed).contains i = true) (hcl : Closed .any ops listed)
    (hcut : ∀ j, C j = true → listed.getD j false = true ∨ ∃ f, needs .any ops i f j = true)
    (hQ : ∀ c a w, Q (.panic c) (a.put oi.dst v) w → Q (.panic c) a w) (hy : YieldsIf P ops S oi v a) (hS : S w)
    (h : wpAnyC P .any ops Q C fuel S (listed.setIfInBounds i true) (a.put oi.dst v) w) : wpAnyC P .any ops Q C (fuel + 1) S listed a w :=
  wpAnyC_first hi (Region.noSelect_spec hs) hQ fuel listed a w hcl hcut (Region.free_spec hi hf) (by simpa using hr) hy hS h
theorem wpAnyC_take' {C : Nat → Bool} {S : World → Prop} {i : Nat} {oi : Oper} {v : Value} {fuel : Nat} {listed : Array Bool} {a : Act} {w : World} (hi : ops[i]? = some oi)
    (hs : Region.noSelect ops = true) (hf : Region.free .any ops listed i = true) (hr : (Region.ready .any ops listed).contains i = true) (hcl : Closed .any ops listed) (hCi : C i = false)
    (hQ : ∀ c a w, Q (.panic c) (a.put oi.dst v) w → Q (.panic c) a w) (hy : YieldsIf P ops (fun _ => True) oi v a) (hS : S w)
    (h : wpAnyC P .any ops Q C fuel S (listed.setIfInBounds i true) (a.put oi.dst v) w) : wpAnyC P .any ops Q C (fuel + 1) S listed a w :=
  wpAnyC_still hi (Region.noSelect_spec hs) hQ hCi fuel S listed a w hcl (Region.free_spec hi hf) (by simpa using hr) hy hS h
theorem wpAnyC_all {C : Nat → Bool} {S : World → Prop} {i : Nat} {fuel : Nat} {listed : Array Bool} {a : Act} {w : World} (hr : Region.ready .any ops listed = [i])
    (h : wpOp P ops Q i (fun a' w' => ∃ S' : World → Prop, (C i = false → S' = S) ∧ S' w' ∧ wpAnyC P .any ops Q C fuel S' (listed.setIfInBounds i true) a' w') a w) : wpAnyC P .any ops Q C (fuel + 1) S listed a w :=
  ⟨fun h0 => (by rw [hr] at h0; cases h0), fun j hj => (by rw [hr] at hj; obtain rfl : j = i := by simpa using hj
                                                           exact h)⟩
theorem ready_one {listed : Array Bool} {i : Nat} (h : Region.ready .any ops listed = [i]) : i ∈ Region.ready .any ops listed := by rw [h]; simp
theorem runner_heldC {cuts : List Nat} {S : World → Prop} (hs : Region.noSelect ops = true) (hQ : ∀ c a dst v w, Q (.panic c) (a.put dst v) w → Q (.panic c) a w) : Runner P n ops (.held S) Q (heldCG P ops Q cuts S) where
  nil a w h := by
    intro _ listed _ hp
    simp only [planOkC, List.isEmpty_iff] at hp
    exact ⟨hp, h⟩
  exec i l o a e w K ho hr hw hc h hk := by
    intro hS listed hcl hp
    have hcls := cls_act (P := P) hr hc
    obtain ⟨hp', ⟨he, hrd⟩ | ⟨he, hrd, hf, hcut, hci⟩⟩ := planOkC_cons hp ho
    · refine wpAnyC_all hrd ?_
      have hcl' := closed_step hcl (ready_one hrd)
      unfold wpOp
      simp only [ho, hw, if_true]
      refine .inl ?_
      unfold stepOp at h
      simp only [he, cond_true] at h
      cases hcs : cls P (ev e) o.op o.type with
      | pure f => rw [hcs] at h; exact h.elim
      | read f => rw [hcs] at h; exact h.elim
      | eff f =>
        rw [hcs] at h hcls
        exact wp_eff hcls h fun v w' ⟨hS', hv⟩ => ⟨S, fun _ => rfl, hS', hk v w' hv hS' _ hcl' hp'⟩
    · have hcl' := closed_step hcl (by simpa using hrd)
      unfold stepOp at h
      simp only [he, cond_false] at h
      cases hcs : cls P (ev e) o.op o.type with
      | pure f =>
        rw [hcs] at h hcls
        obtain ⟨v, hv, hrun⟩ := hcls _ h
        exact wpAnyC_take' ho hs hf hrd hcl hci (fun c a w => hQ c a _ _ w) (.inl ⟨hw, fun w' _ => hrun w'⟩) hS (hk _ _ hv hS _ hcl' hp')
      | read f =>
        have hcut := hcut.resolve_left fun hst => stillOp_cls hst f hcs
        rw [hcs] at h hcls
        obtain ⟨v, hst, hv⟩ := h
        refine wpAnyC_take ho hs hf hrd hcl hcut (fun c a w => hQ c a _ _ w) (v := v) (.inl ⟨hw, fun w' hw' => ?_⟩) hS (hk _ _ hv hS _ hcl' hp')
        obtain ⟨v', rfl, hrun⟩ := hcls w' _ (hst w' hw')
        exact hrun
      | eff f => rw [hcs] at h; exact h.elim
  skip i l o a w ho hw h := by
    intro hS listed hcl hp
    obtain ⟨hp', ⟨he, hr⟩ | ⟨he, hr, hf, hcut, hci⟩⟩ := planOkC_cons hp ho
    · refine wpAnyC_all hr ?_
      unfold wpOp
      simp only [ho, hw, Bool.false_eq_true, if_false]
      exact ⟨S, fun _ => rfl, hS, h hS _ (closed_step hcl (ready_one hr)) hp'⟩
    · exact wpAnyC_take' ho hs hf hr hcl hci (fun c a w => hQ c a _ _ w) (.inr ⟨hw, rfl⟩) hS (h hS _ (closed_step hcl (by simpa using hr)) hp')
theorem runOpsC_sound {cuts : List Nat} (hs : Region.noSelect ops = true) (hQ : ∀ c a dst v w, Q (.panic c) (a.put dst v) w → Q (.panic c) a w) (hc : chkOps P n ops = true) :
    ∀ (fuel : Nat) (S : World → Prop) (gs : List (List Nat)) (l : List Nat) (a : Act) (e : Env) (w : World) (K : Env → World → Prop),
    Rel n a e → runOpsC P ops cuts fuel S gs l e w K → (∀ a' e' w', Rel n a' e' → Agree (writesOps ops l) e e' → K e' w' → Q .normal a' w') → heldCG P ops Q cuts S l a w
  | fuel, S, gs, [], a, e, w, K, hr, h, hk => by
    refine (runner_heldC (P := P) (n := n) hs hQ).nil a w (hk a e w hr (Agree.refl _ _) ?_)
    unfold runOpsC at h
    exact h
  | 0, S, gs, i :: l, a, e, w, K, hr, h, hk => by
    unfold runOpsC at h
    exact h.elim
  | fuel + 1, S, gs, i :: l, a, e, w, K, hr, h, hk => by
    have R := runner_heldC (P := P) (n := n) (cuts := cuts) (S := S) hs hQ
    rw [runOpsC] at h
    cases ho : ops[i]? with
    | none => simp [ho] at h
    | some o =>
      simp only [ho] at h
      obtain ⟨h1, h2, h3⟩ := chkOps_spec hc ho
      obtain ⟨hd, hcall, _⟩ := chkOp_spec h1
      cases hog : o.guard with
      | none =>
        simp only [hog] at h
        have hnext : ∀ (S' : World → Prop) (v : Value) (w' : World), runOpsC P ops cuts fuel S' gs l (updO e o.dst v) w' K → heldCG P ops Q cuts S' l (a.put o.dst v) w' := fun S' v w' hv =>
          runOpsC_sound hs hQ hc fuel S' gs l _ _ w' K (hr.put o.dst v hd) hv fun a' e' w'' hr' ha hK => hk a' e' w'' hr' (by
            have h1 : Agree (writesOps ops (i :: l)) e (updO e o.dst v) := Agree.updO _ _ _ _ fun d hd => mem_writesOps (by simp) ho d hd
            exact h1.trans (ha.mono fun t ht => by
              obtain ⟨x, hx, hxt⟩ := List.mem_filterMap.1 ht
              exact List.mem_filterMap.2 ⟨x, by simp [hx], hxt⟩)) hK
        cases hcb : cuts.any (Nat.beq i) with
        | false =>
          simp only [hcb, cond_false] at h
          exact R.exec i l o a e w _ ho hr (wanted_none hog) hcall h fun v w' hv => hnext S v w' hv
        | true =>
          simp only [hcb, cond_true] at h
          intro hS listed hcl hp
          have hcls := cls_act (P := P) hr hcall
          obtain ⟨hp', ⟨he, hrd⟩ | ⟨he, hrd, hf, hcut, hci⟩⟩ := planOkC_cons hp ho
          · refine wpAnyC_all hrd ?_
            have hcl' := closed_step hcl (ready_one hrd)
            unfold wpOp
            simp only [ho, wanted_none hog, if_true]
            refine .inl ?_
            cases hcs : cls P (ev e) o.op o.type with
            | pure f => rw [hcs] at h; exact h.elim
            | read f => rw [hcs] at h; exact h.elim
            | eff f =>
              rw [hcs] at h hcls
              exact wp_eff hcls h fun v w' ⟨S', hS', hv⟩ => ⟨S', fun hf => (by rw [hcb] at hf; cases hf), hS', hnext S' v w' hv hS' _ hcl' hp'⟩
          · rw [hcb] at hci; cases hci
      | some g =>
        simp only [hog] at h
        cases gs with
        | nil => exact h.elim
        | cons slots gs' =>
          simp only at h
          obtain ⟨k, hb, hrest⟩ := joinN_sound h
          have hall : ∀ j ∈ i :: l.takeWhile (sameG ops g), ∃ o, ops[j]? = some o ∧ o.guard = some g := by
            intro j hj
            rcases List.mem_cons.1 hj with rfl | hj
            · exact ⟨o, ho, hog⟩
            · exact sameG_spec (List.all_eq_true.1 (List.all_takeWhile) j hj)
          have hsplit : i :: l = (i :: l.takeWhile (sameG ops g)) ++ l.dropWhile (sameG ops g) := by simp
          have hgo : ∀ a' e' w', Rel n a' e' → Agree (writesOps ops (i :: l.takeWhile (sameG ops g))) e e' → k e' w' → heldCG P ops Q cuts S (l.dropWhile (sameG ops g)) a' w' := by
            intro a' e' w' hr' ha hk'
            obtain ⟨e'', he, hR⟩ := hrest e' w' ha hk'
            refine runOpsC_sound hs hQ hc fuel S gs' _ a' e'' w' K (hr'.congr fun t => (he t).symm) hR fun a2 e2 w2 hr2 ha2 hK => hk a2 e2 w2 hr2 ?_ hK
            have hsub : Agree (writesOps ops (i :: l)) e' e2 := by
              intro t ht
              have := ha2 t (fun hm => ht (by rw [hsplit, writesOps_append]; simp [hm]))
              rw [this, he]
            refine Agree.trans (ha.mono fun t ht => ?_) hsub
            rw [hsplit, writesOps_append]
            simp [ht]
          rw [hsplit]
          by_cases hv : gval ops e g.1 = .bool g.2
          · exact runGrp_sound R hc g _ _ a e w k hall hr hv (hb.1 hv) hgo
          · exact skips_sound R hc g _ _ a e w hall hr hv fun a' hr' ha => hgo a' _ w hr' ha (hb.2 hv)
theorem region_cut {id : Nat} {gs : List (List Nat)} {plan cuts : List Nat} {S : World → Prop} {a : Act} {e : Env} {w : World} {KN KR : Env → World → Prop} {KX : Nat → Env → World → Prop} (hm : P.follows .mixedOrders = true)
    (hc : chkOps P n ops = true) (hl : plan.length = ops.size) (hin : ∀ i ∈ plan, i < ops.size)
    (hp : planOkC P ops cuts plan (Array.replicate ops.size false) = true) (hr : Rel n a e) (hS : S { w with drawn := w.drawn + 1 })
    (h : runOpsC P ops cuts ops.size S gs plan e { w with drawn := w.drawn + 1 } KN) : (Code.region id ops true).wp P (Post n (writesOps ops (List.range ops.size)) e KN KX KR) a w := by
  refine wp_region_any hm (wpAny_of_cut (C := fun i => cuts.any (Nat.beq i)) _ S _ _ _ ?_)
  have := runOpsC_sound (Q := Post n (writesOps ops (List.range ops.size)) e KN KX KR) (cuts := cuts) (noSelect_of_chk hc) post_panic hc _ _ _ _ _ _ _ _ hr h
    fun a' e' w' hr' ha hk => ⟨e', hr', ha.mono (writesOps_mem hin), hk⟩
  have h2 := this hS _ (fun j oj _ hj => by
    rcases Nat.lt_or_ge j ops.size with h | h
    · simp [Array.getD_eq_getD_getElem?, h] at hj
    · simp [Array.getD_eq_getD_getElem?, h] at hj) hp
  rwa [hl] at h2

/-! ### Drawn regions in all orders -/
theorem wpOp_one {cuts : List Nat} {S : World → Prop} {fuel i : Nat} {listed : Array Bool} {a : Act} {e : Env} {w : World} {K : (World → Prop) → Env → World → Prop} (hc : chkOps P n ops = true) (hr : Rel n a e) (hS : S w)
    (h : runOne P ops cuts i S e w K) (hk : ∀ o S' v w', ops[i]? = some o → S' w' → K S' (updO e o.dst v) w' → wpAnyC P .any ops Q (fun i => cuts.any (Nat.beq i)) fuel S' listed (a.put o.dst v) w')
    (hne : ∀ o, ops[i]? = some o → effOp P o.op = true ∨ effOp P o.op = false) :
    wpOp P ops Q i (fun a' w' => ∃ S' : World → Prop, ((fun i => cuts.any (Nat.beq i)) i = false → S' = S) ∧ S' w' ∧ wpAnyC P .any ops Q (fun i => cuts.any (Nat.beq i)) fuel S' listed a' w') a w := by
  unfold runOne at h
  cases ho : ops[i]? with
  | none => rw [ho] at h; exact h.elim
  | some o =>
    rw [ho] at h
    simp only at h
    obtain ⟨h1, h2, h3⟩ := chkOps_spec hc ho
    obtain ⟨hd, hcall, _⟩ := chkOp_spec h1
    have hcls := cls_act (P := P) hr hcall
    cases hog : o.guard with
    | some g => rw [hog] at h; exact h.elim
    | none =>
      rw [hog] at h
      simp only at h
      unfold wpOp
      simp only [ho, wanted_none hog, if_true]
      refine .inl ?_
      cases hcb : cuts.any (Nat.beq i) with
      | true =>
        simp only [hcb, cond_true] at h
        cases hcs : cls P (ev e) o.op o.type with
        | pure f => rw [hcs] at h; exact h.elim
        | read f => rw [hcs] at h; exact h.elim
        | eff f =>
          rw [hcs] at h hcls
          exact wp_eff hcls h fun v w' ⟨S', hS', hv⟩ => ⟨S', (fun hf => by cases hf), hS', hk o S' v w' ho hS' hv⟩
      | false =>
        simp only [hcb, cond_false] at h
        unfold stepOp at h
        cases he : effOp P o.op with
        | true =>
          simp only [he, cond_true] at h
          cases hcs : cls P (ev e) o.op o.type with
          | pure f => rw [hcs] at h; exact h.elim
          | read f => rw [hcs] at h; exact h.elim
          | eff f =>
            rw [hcs] at h hcls
            exact wp_eff hcls h fun v w' ⟨hS', hv⟩ => ⟨S, fun _ => rfl, hS', hk o S v w' ho hS' hv⟩
        | false =>
          simp only [he, cond_false] at h
          cases hcs : cls P (ev e) o.op o.type with
          | pure f =>
            rw [hcs] at h hcls
            obtain ⟨v, hv, hrun⟩ := hcls _ h
            exact wp_val (hrun w) ⟨S, fun _ => rfl, hS, hk o S v w ho hS hv⟩
          | read f =>
            rw [hcs] at h hcls
            obtain ⟨v, hst, hv⟩ := h
            obtain ⟨v', rfl, hrun⟩ := hcls w _ (hst w hS)
            exact wp_val hrun ⟨S, fun _ => rfl, hS, hk o S v' w ho hS hv⟩
          | eff f => rw [hcs] at h; exact h.elim
theorem tree_sound {cuts : List Nat} (hs : Region.noSelect ops = true) (hQ : ∀ c a dst v w, Q (.panic c) (a.put dst v) w → Q (.panic c) a w) (hc : chkOps P n ops = true) {e0 : Env} {K : Env → World → Prop}
    (hk : ∀ a' e' w', Rel n a' e' → Agree (writesOps ops (List.range ops.size)) e0 e' → K e' w' → Q .normal a' w') : ∀ (pl : Pl), pl.good = true →
    (pl.isAlt = false → ∀ (S : World → Prop) (a : Act) (e : Env) (w : World) (listed : Array Bool) (fuel : Nat), pl.depth ≤ fuel → planOkT P ops cuts pl listed = true → Closed .any ops listed → S w → Rel n a e →
      Agree (writesOps ops (List.range ops.size)) e0 e → runT P ops cuts pl S e w K → wpAnyC P .any ops Q (fun i => cuts.any (Nat.beq i)) fuel S listed a w) ∧
    (pl.isAlt = true → ∀ (S : World → Prop) (a : Act) (e : Env) (w : World) (listed : Array Bool) (fuel : Nat), pl.depth ≤ fuel + 1 → planOkT P ops cuts pl listed = true → Closed .any ops listed → S w → Rel n a e →
      Agree (writesOps ops (List.range ops.size)) e0 e → runT P ops cuts pl S e w K → ∀ j, pl.heads.any (Nat.beq j) = true →
        wpOp P ops Q j (fun a' w' => ∃ S' : World → Prop, ((fun i => cuts.any (Nat.beq i)) j = false → S' = S) ∧ S' w' ∧ wpAnyC P .any ops Q (fun i => cuts.any (Nat.beq i)) fuel S' (listed.setIfInBounds j true) a' w') a w) := by
  have upd : ∀ {i : Nat} {o : Oper} {e : Env} (v : Value), ops[i]? = some o → Agree (writesOps ops (List.range ops.size)) e0 e → Agree (writesOps ops (List.range ops.size)) e0 (updO e o.dst v) := fun {i o e} v ho ha =>
    ha.trans (Agree.updO _ _ _ _ fun d hd => mem_writesOps (List.mem_range.2 (Array.getElem?_eq_some_iff.1 ho).1) ho d hd)
  intro pl
  induction pl with
  | nil =>
    intro _
    refine ⟨fun _ S a e w listed fuel _ hp _ hS hr ha h => ?_, fun h => by cases h⟩
    simp only [planOkT, List.isEmpty_iff] at hp
    unfold runT at h
    have hq := hk a e w hr ha h
    cases fuel with
    | zero => exact ⟨hp, hq⟩
    | succ fuel => exact ⟨fun _ => hq, fun i hi => by rw [hp] at hi; cases hi⟩
  | non =>
    intro _
    exact ⟨(fun h => by cases h), fun _ S a e w listed fuel _ _ _ _ _ _ _ j hj => by simp [Pl.heads] at hj⟩
  | br p ih =>
    intro hg
    simp only [Pl.good, Bool.and_eq_true] at hg
    refine ⟨fun _ S a e w listed fuel hd hp hcl hS hr ha h => ?_, fun h => by cases h⟩
    simp only [planOkT, Bool.and_eq_true, Bool.not_eq_true', List.all_eq_true] at hp
    obtain ⟨⟨hne, hall⟩, hp⟩ := hp
    unfold runT at h
    have hne' : Region.ready .any ops listed ≠ [] := fun h0 => by rw [h0] at hne; cases hne
    cases fuel with
    | zero =>
      obtain ⟨j, hj⟩ := List.exists_mem_of_ne_nil _ hne'
      have := hall j hj
      cases p with
      | alt i p q => simp only [Pl.depth] at hd; have h9 := Nat.le_trans (Nat.le_max_left (p.depth + 1) q.depth) hd; omega
      | _ => simp [Pl.heads] at this
    | succ fuel => exact ⟨fun h0 => absurd h0 hne', fun j hj => (ih hg.2).2 hg.1 S a e w listed fuel hd hp hcl hS hr ha h j (hall j hj)⟩
  | alt i p q ihp ihq =>
    intro hg
    simp only [Pl.good, Bool.and_eq_true, Bool.not_eq_true'] at hg
    refine ⟨(fun h => by cases h), fun _ S a e w listed fuel hd hp hcl hS hr ha h j hj => ?_⟩
    simp only [planOkT, Bool.and_eq_true] at hp
    obtain ⟨⟨hi, hp1⟩, hp2⟩ := hp
    unfold runT at h
    simp only [Pl.depth] at hd
    have hd1 := Nat.le_trans (Nat.le_max_left (p.depth + 1) q.depth) hd
    have hd2 := Nat.le_trans (Nat.le_max_right (p.depth + 1) q.depth) hd
    by_cases hji : j = i
    · subst hji
      refine wpOp_one hc hr hS h.1 (fun o S' v w' ho hS' hK => ?_) (fun o _ => by cases effOp P o.op <;> simp)
      obtain ⟨hdo, _, _⟩ := chkOp_spec (chkOps_spec hc ho).1
      exact (ihp hg.1.2).1 hg.1.1 S' _ _ w' _ fuel (by omega) hp1 (closed_step hcl (by simpa using hi)) hS' (hr.put o.dst v hdo) (upd v ho ha) hK
    · have hj' : q.heads.any (Nat.beq j) = true := by
        simp only [Pl.heads, List.any_cons, Bool.or_eq_true] at hj
        rcases hj with hj | hj
        · exact absurd (Nat.eq_of_beq_eq_true hj) hji
        · exact hj
      exact (ihq hg.2.2).2 hg.2.1 S a e w listed fuel hd2 hp2 hcl hS hr ha h.2 j hj'
  | step i p ih =>
    intro hg
    simp only [Pl.good, Bool.and_eq_true, Bool.not_eq_true'] at hg
    refine ⟨fun _ S a e w listed fuel hd hp hcl hS hr ha h => ?_, fun h => by cases h⟩
    simp only [planOkT, Bool.and_eq_true] at hp
    obtain ⟨hp1, hp2⟩ := hp
    unfold runT at h
    simp only [Pl.depth] at hd
    obtain ⟨fuel, rfl⟩ : ∃ f, fuel = f + 1 := ⟨fuel - 1, by omega⟩
    cases ho : ops[i]? with
    | none => rw [ho] at hp1; cases hp1
    | some o =>
      rw [ho] at hp1
      simp only at hp1
      obtain ⟨h1, h2, h3⟩ := chkOps_spec hc ho
      obtain ⟨hdo, hcall, _⟩ := chkOp_spec h1
      have hcls := cls_act (P := P) hr hcall
      have go : ∀ (S' : World → Prop) v w', Closed .any ops (listed.setIfInBounds i true) → S' w' → runT P ops cuts p S' (updO e o.dst v) w' K → wpAnyC P .any ops Q (fun i => cuts.any (Nat.beq i)) fuel S' (listed.setIfInBounds i true) (a.put o.dst v) w' :=
        fun S' v w' hcl' hS' hK => (ih hg.2).1 hg.1 S' _ _ w' _ fuel (by omega) hp2 hcl' hS' (hr.put o.dst v hdo) (upd v ho ha) hK
      cases he : effOp P o.op with
      | true =>
        rw [he] at hp1
        have hrd : Region.ready .any ops listed = [i] := by simpa using hp1
        have hcl' := closed_step hcl (ready_one hrd)
        refine wpAnyC_all hrd (wpOp_one hc hr hS h (fun o' S' v w' ho' hS' hK => ?_) (fun o _ => by cases effOp P o.op <;> simp))
        rw [ho] at ho'
        cases ho'
        exact go S' v w' hcl' hS' hK
      | false =>
        rw [he] at hp1
        simp only [cond_false, Bool.and_eq_true, Bool.not_eq_true', Bool.or_eq_true] at hp1
        obtain ⟨⟨hrd, hf⟩, hcut, hci⟩ := hp1
        have hcl' := closed_step hcl (by simpa using hrd)
        unfold runOne at h
        rw [ho] at h
        simp only at h
        cases hog : o.guard with
        | some g => rw [hog] at h; exact h.elim
        | none =>
          rw [hog] at h
          simp only [hci, cond_false] at h
          unfold stepOp at h
          simp only [he, cond_false] at h
          cases hcs : cls P (ev e) o.op o.type with
          | pure f =>
            rw [hcs] at h hcls
            obtain ⟨v, hv, hrun⟩ := hcls _ h
            exact wpAnyC_take' ho hs hf hrd hcl hci (fun c a w => hQ c a _ _ w) (.inl ⟨wanted_none hog, fun w' _ => hrun w'⟩) hS (go S v w hcl' hS hv)
          | read f =>
            have hcut := hcut.resolve_left fun hst => stillOp_cls hst f hcs
            rw [hcs] at h hcls
            obtain ⟨v, hst, hv⟩ := h
            have hcut' : ∀ j, cuts.any (Nat.beq j) = true → listed.getD j false = true ∨ ∃ f, needs .any ops i f j = true := fun j hj => by
              have h2 := List.all_eq_true.1 hcut j ((any_beq cuts j).1 hj)
              simp only [Bool.or_eq_true] at h2
              exact h2.imp id fun h => ⟨_, h⟩
            refine wpAnyC_take ho hs hf hrd hcl hcut' (fun c a w => hQ c a _ _ w) (v := v) (.inl ⟨wanted_none hog, fun w' hw' => ?_⟩) hS (go S v w hcl' hS hv)
            obtain ⟨v', rfl, hrun⟩ := hcls w' _ (hst w' hw')
            exact hrun
          | eff f => rw [hcs] at h; exact h.elim
theorem region_tree {id : Nat} {pl : Pl} {cuts : List Nat} {S : World → Prop} {a : Act} {e : Env} {w : World} {KN KR : Env → World → Prop} {KX : Nat → Env → World → Prop} (hm : P.follows .mixedOrders = true)
    (hc : chkOps P n ops = true) (hp : planOkT P ops cuts pl (Array.replicate ops.size false) = true) (ha : pl.isAlt = false) (hg : pl.good = true) (hd : pl.depth ≤ ops.size) (hr : Rel n a e) (hS : S { w with drawn := w.drawn + 1 })
    (h : runT P ops cuts pl S e { w with drawn := w.drawn + 1 } KN) : (Code.region id ops true).wp P (Post n (writesOps ops (List.range ops.size)) e KN KX KR) a w := by
  refine wp_region_any hm (wpAny_of_cut (C := fun i => cuts.any (Nat.beq i)) _ S _ _ _ ?_)
  have := (tree_sound (Q := Post n (writesOps ops (List.range ops.size)) e KN KX KR) (cuts := cuts) (noSelect_of_chk hc) post_panic hc (e0 := e) (K := KN) (fun a' e' w' hr' ha hk => ⟨e', hr', ha, hk⟩) pl hg).1 ha S a e _ (Array.replicate ops.size false) ops.size hd hp (fun j oj _ hj => by
    rcases Nat.lt_or_ge j ops.size with h | h
    · simp [Array.getD_eq_getD_getElem?, h] at hj
    · simp [Array.getD_eq_getD_getElem?, h] at hj) hS hr (Agree.refl _ _) h
  exact this

/-! ### What is known of a mark: it reads soundly a code, a code's tail ahead of a jump, a code's head up to a label -/
def Snd (P : Program) (n : Nat) (A : An) : Prop := ∀ (c : Code) (e : Env) (w : World) (a : Act) (KN : Env → World → Prop) (KX : Nat → Env → World → Prop) (KR : Env → World → Prop),
    chk P n A c = true → Rel n a e → intp P A c e w KN KX KR → c.wp P (Post n (writes c) e KN KX KR) a w
def PostT (l n : Nat) (W : List Nat) (e : Env) (KN : Env → World → Prop) (KX : Nat → Env → World → Prop) (KR : Env → World → Prop) : Exit → Act → World → Prop
  | .goto l', a, w => l' = l ∧ ∃ e', Rel n a e' ∧ Agree W e e' ∧ KN e' w
  | .normal, _, _ => False
  | x, a, w => Post n W e KN KX KR x a w
def SndT (P : Program) (n : Nat) (A : An) : Prop := spine A = true → ∀ (l : Nat) (c r : Code) (e : Env) (w : World) (a : Act) (KN : Env → World → Prop) (KX : Nat → Env → World → Prop) (KR : Env → World → Prop),
    tailOf l c = some r → chk P n A r = true → Rel n a e → intp P A r e w KN KX KR → c.wp P (PostT l n (writes r) e KN KX KR) a w
def SndH (P : Program) (n : Nat) (A : An) : Prop := spine A = true → ∀ (l : Nat) (c h r : Code) (e : Env) (w : World) (a : Act) (KN : Env → World → Prop) (KX : Nat → Env → World → Prop) (KR : Env → World → Prop) (Q : Exit → Act → World → Prop),
    headOf l c = some h → backOf l c = some r → chk P n A h = true → Rel n a e → intp P A h e w KN KX KR →
    (∀ e' a' w', Rel n a' e' → Agree (writes h) e e' → KN e' w' → r.wp P Q a' w') → (∀ x a' w', x ≠ .normal → Post n (writes h) e KN KX KR x a' w' → Q x a' w') → c.wp P Q a w
theorem tail_writes {l : Nat} : ∀ {c r : Code}, tailOf l c = some r → writes c = writes r
  | .seq a b, r, h => by
    simp only [tailOf, Option.map_eq_some_iff] at h
    obtain ⟨r', h1, rfl⟩ := h
    simp [writes, tail_writes h1]
  | .goto l', r, h => by
    simp only [tailOf] at h
    cases hb : Nat.beq l' l <;> rw [hb] at h <;> simp at h
    subst h; rfl
  | .skip, _, h | .region .., _, h | .cond .., _, h | .block .., _, h | .loop _, _, h | .rangeFunc .., _, h | .exit _, _, h | .scope _, _, h | .label _, _, h | .ret, _, h | .refuse _, _, h => by simp [tailOf] at h
theorem head_find {l : Nat} : ∀ {c h : Code}, headOf l c = some h → ∃ r, backOf l c = some r ∧ findLabel c l = some (.seq .skip r) ∧ ∀ t, (t ∈ writes h ∨ t ∈ writes r) → t ∈ writes c
  | .seq (.label l') b, h, hh => by
    simp only [headOf] at hh
    cases hb : Nat.beq l' l <;> rw [hb] at hh <;> simp at hh
    subst hh
    obtain rfl := Nat.eq_of_beq_eq_true hb
    exact ⟨b, by simp [backOf], by simp [findLabel], by simp [writes]⟩
  | .seq (.seq a1 a2) b, h, hh => by
    simp only [headOf] at hh
    cases hb : (findLabel (.seq a1 a2) l) with
    | some x => rw [hb] at hh; simp at hh
    | none =>
      rw [hb] at hh
      simp only [Option.isNone_none, cond_true, Option.map_eq_some_iff] at hh
      obtain ⟨h', h1, rfl⟩ := hh
      obtain ⟨r, h2, h3, h4⟩ := head_find h1
      refine ⟨r, by simpa [backOf] using h2, by rw [findLabel, hb]; exact h3, fun t ht => ?_⟩
      have := h4 t
      simp only [writes, List.mem_append] at *
      rcases ht with (ht | ht) | ht
      · exact .inl ht
      · exact .inr (this (.inl ht))
      · exact .inr (this (.inr ht))
  | .seq .skip b, h, hh | .seq (.region ..) b, h, hh | .seq (.cond ..) b, h, hh | .seq (.block ..) b, h, hh | .seq (.loop _) b, h, hh | .seq (.rangeFunc ..) b, h, hh | .seq (.exit _) b, h, hh | .seq (.scope _) b, h, hh | .seq (.goto _) b, h, hh | .seq .ret b, h, hh | .seq (.refuse _) b, h, hh => by
    simp only [headOf, findLabel, Option.isNone_none, cond_true, Option.map_eq_some_iff] at hh
    obtain ⟨h', h1, rfl⟩ := hh
    obtain ⟨r, h2, h3, h4⟩ := head_find h1
    refine ⟨r, by simpa [backOf] using h2, by simpa [findLabel] using h3, fun t ht => ?_⟩
    have := h4 t
    simp only [writes, List.mem_append] at *
    rcases ht with (ht | ht) | ht
    · exact .inl ht
    · exact .inr (this (.inl ht))
    · exact .inr (this (.inr ht))
  | .skip, _, h | .region .., _, h | .cond .., _, h | .block .., _, h | .loop _, _, h | .rangeFunc .., _, h | .exit _, _, h | .scope _, _, h | .label _, _, h | .goto _, _, h | .ret, _, h | .refuse _, _, h => by simp [headOf] at h
theorem least_nat {p : Nat → Prop} (h : ∃ m, p m) : ∃ m, p m ∧ ∀ k, p k → m ≤ k := by
  obtain ⟨m, hm⟩ := h
  induction m using Nat.strongRecOn with
  | _ m ih =>
    by_cases hk : ∃ k, k < m ∧ p k
    · obtain ⟨k, hk, hp⟩ := hk
      exact ih k hk hp
    · exact ⟨m, hm, fun k hp => Nat.le_of_not_lt fun hlt => hk ⟨k, hlt, hp⟩⟩
/-- A scope whose run jumps back; the measure may depend on how the jumps began. -/
theorem wp_scope_least {c rest : Code} {Q : Exit → Act → World → Prop} {a : Act} {w : World} (l : Nat) (L : Nat → Act → World → Prop) (hf : findLabel c l = some rest)
    (first : c.wp P (Exit.jump l (fun a w => ∃ m, L m a w) Q) a w)
    (pass : ∀ m a w, L m a w → rest.wp P (Exit.jump l (fun a' w' => ∃ m', L m' a' w' ∧ m' < m) Q) a w) : (Code.scope c).wp P Q a w := by
  classical
  obtain ⟨μ, hμ⟩ : ∃ μ : Act → World → Nat, ∀ a w, (∃ m, L m a w) → L (μ a w) a w ∧ ∀ k, L k a w → μ a w ≤ k := by
    refine ⟨fun a w => if h : ∃ m, L m a w then Classical.choose (least_nat h) else 0, fun a w h => ?_⟩
    simp only [dif_pos h]
    exact Classical.choose_spec (least_nat h)
  refine wp_scope_jumps l (fun a w => ∃ m, L m a w) μ hf first fun a w hJ => ?_
  refine wp_mono (pass _ a w (hμ a w hJ).1) ?_
  intro x a' w' hx
  cases x with
  | goto l' =>
    obtain ⟨h1, m', h2, h3⟩ := hx
    exact ⟨h1, ⟨m', h2⟩, Nat.lt_of_le_of_lt ((hμ a' w' ⟨m', h2⟩).2 m' h2) h3⟩
  | _ => exact hx
theorem intp_all (hm : P.follows .mixedOrders = true) : ∀ (A : An), Snd P n A ∧ SndT P n A ∧ SndH P n A := by
  intro A
  induction A with
  | j slots A ih =>
    refine ⟨?_, fun hsp => by simp [spine] at hsp, fun hsp => by simp [spine] at hsp⟩
    intro c e w a KN KX KR hc hr h
    unfold intp at h
    obtain ⟨k, hb, hrest⟩ := joinN_sound h
    have h1 := ih.1 c e w a k KX KR (by unfold chk at hc; exact hc) hr hb
    refine wp_mono h1 ?_
    intro x a' w' hx
    cases x with
    | normal =>
      obtain ⟨e', h2, h3, h4⟩ := hx
      obtain ⟨e'', he, hk⟩ := hrest e' w' h3 h4
      exact ⟨e'', h2.congr fun t => (he t).symm, fun t ht => (he t).trans (h3 t ht), hk⟩
    | _ => exact hx
  | s A B ihA ihB =>
    refine ⟨?_, fun hsp l c r e w a KN KX KR ht hc hr h => ?_, fun hsp l c hd r e w a KN KX KR Q hh hb hc hr h hN hX => ?_⟩
    · intro c e w a KN KX KR hc hr h
      cases c with
      | seq x y =>
        unfold intp at h
        simp only [chk, Bool.and_eq_true] at hc
        refine wp_seq (wp_mono (ihA.1 x e w a _ KX KR hc.1 hr h) ?_)
        intro z a' w' hz
        cases z with
        | normal =>
          obtain ⟨e', h1, h2, h3⟩ := hz
          refine wp_mono (ihB.1 y e' w' a' KN KX KR hc.2 h1 h3) ?_
          exact Post.mono (fun t ht => by simp [writes, ht]) (h2.mono fun t ht => by simp [writes, ht]) (fun _ _ _ h => h) (fun _ _ _ h => h) (fun _ _ h => h)
        | exit i => obtain ⟨e', h1, h2, h3⟩ := hz; exact ⟨e', h1, h2.mono fun t ht => by simp [writes, ht], h3⟩
        | ret => obtain ⟨e', h1, h2, h3⟩ := hz; exact ⟨e', h1, h2.mono fun t ht => by simp [writes, ht], h3⟩
        | _ => exact hz
      | cond cn x y =>
        unfold intp at h
        simp only [chk, Bool.and_eq_true] at hc
        obtain ⟨b, hb, h1, h2⟩ := h
        refine wp_cond (t := b) (by rw [hr.eval]; exact hb) ?_
        cases b with
        | true => exact wp_mono (ihA.1 x e w a KN KX KR hc.1 hr (h1 rfl)) (Post.mono (fun t ht => by simp [writes, ht]) (Agree.refl _ _) (fun _ _ _ h => h) (fun _ _ _ h => h) (fun _ _ h => h))
        | false => exact wp_mono (ihB.1 y e w a KN KX KR hc.2 hr (h2 rfl)) (Post.mono (fun t ht => by simp [writes, ht]) (Agree.refl _ _) (fun _ _ _ h => h) (fun _ _ _ h => h) (fun _ _ h => h))
      | _ => unfold intp at h; exact h.elim
    · cases c with
      | seq x y =>
        simp only [tailOf, Option.map_eq_some_iff] at ht
        obtain ⟨y', hy, rfl⟩ := ht
        unfold intp at h
        simp only [chk, Bool.and_eq_true] at hc
        refine wp_seq (wp_mono (ihA.1 x e w a _ KX KR hc.1 hr h) ?_)
        intro z a' w' hz
        cases z with
        | normal =>
          obtain ⟨e', h1, h2, h3⟩ := hz
          refine wp_mono (ihB.2.1 (by simpa [spine] using hsp) l y y' e' w' a' KN KX KR hy hc.2 h1 h3) ?_
          have ha : Agree (writes (.seq x y')) e e' := h2.mono fun t ht => by simp [writes, ht]
          have hm : ∀ t, t ∈ writes y' → t ∈ writes (.seq x y') := fun t ht => by simp [writes, ht]
          intro z2 a2 w2 hz2
          cases z2 with
          | goto l' => obtain ⟨h4, e2, h5, h6, h7⟩ := hz2; exact ⟨h4, e2, h5, ha.trans (h6.mono hm), h7⟩
          | normal => exact hz2
          | exit i => obtain ⟨e2, h5, h6, h7⟩ := hz2; exact ⟨e2, h5, ha.trans (h6.mono hm), h7⟩
          | ret => obtain ⟨e2, h5, h6, h7⟩ := hz2; exact ⟨e2, h5, ha.trans (h6.mono hm), h7⟩
          | _ => exact hz2
        | exit i => obtain ⟨e', h1, h2, h3⟩ := hz; exact ⟨e', h1, h2.mono fun t ht => by simp [writes, ht], h3⟩
        | ret => obtain ⟨e', h1, h2, h3⟩ := hz; exact ⟨e', h1, h2.mono fun t ht => by simp [writes, ht], h3⟩
        | _ => exact hz.elim
      | goto l' =>
        simp only [tailOf] at ht
        cases hb : Nat.beq l' l <;> rw [hb] at ht <;> simp at ht
        subst ht
        unfold intp at h
        exact h.elim
      | _ => simp [tailOf] at ht
    · have go : ∀ (x y h' : Code), c = .seq x y → hd = .seq x h' → headOf l y = some h' → backOf l y = some r → c.wp P Q a w := fun x y h' hce hde hy hby => by
        subst hce; subst hde
        unfold intp at h
        simp only [chk, Bool.and_eq_true] at hc
        refine wp_seq (wp_mono (ihA.1 x e w a _ KX KR hc.1 hr h) ?_)
        intro z a' w' hz
        have hmx : ∀ t, t ∈ writes x → t ∈ writes (.seq x h') := fun t ht => by simp [writes, ht]
        have hmy : ∀ t, t ∈ writes h' → t ∈ writes (.seq x h') := fun t ht => by simp [writes, ht]
        cases z with
        | normal =>
          obtain ⟨e', h1, h2, h3⟩ := hz
          refine ihB.2.2 (by simpa [spine] using hsp) l y h' r e' w' a' KN KX KR Q hy hby hc.2 h1 h3 (fun e2 a2 w2 k1 k2 k3 => hN e2 a2 w2 k1 ((h2.mono hmx).trans (k2.mono hmy)) k3) fun z2 a2 w2 hne hp => hX z2 a2 w2 hne ?_
          exact Post.mono hmy (h2.mono hmx) (fun _ _ _ h => h) (fun _ _ _ h => h) (fun _ _ h => h) _ _ _ hp
        | exit i => obtain ⟨e', h1, h2, h3⟩ := hz; exact hX (.exit i) a' w' (by simp) ⟨e', h1, h2.mono hmx, h3⟩
        | ret => obtain ⟨e', h1, h2, h3⟩ := hz; exact hX .ret a' w' (by simp) ⟨e', h1, h2.mono hmx, h3⟩
        | _ => exact hz.elim
      cases c with
      | seq x y =>
        by_cases hlab : ∃ l', x = .label l'
        · obtain ⟨l', rfl⟩ := hlab
          simp only [headOf] at hh
          cases hb2 : Nat.beq l' l <;> rw [hb2] at hh <;> simp at hh
          subst hh
          unfold intp at h
          exact h.elim
        · have e1 : headOf l (.seq x y) = bif (findLabel x l).isNone then (headOf l y).map (.seq x) else none := by
            cases x <;> first | rfl | exact absurd ⟨_, rfl⟩ hlab
          have e2 : backOf l (.seq x y) = backOf l y := by
            cases x <;> first | rfl | exact absurd ⟨_, rfl⟩ hlab
          rw [e1] at hh
          rw [e2] at hb
          cases hfl : (findLabel x l).isNone <;> rw [hfl] at hh <;> simp at hh
          obtain ⟨h', hy, rfl⟩ := hh
          exact go x y h' rfl rfl hy hb
      | _ => simp [headOf] at hh
  | b A ih =>
    refine ⟨?_, fun hsp => by simp [spine] at hsp, fun hsp => by simp [spine] at hsp⟩
    intro c e w a KN KX KR hc hr h
    cases c with
    | block id x =>
      unfold intp at h
      simp only [chk] at hc
      refine wp_block (wp_mono (ih.1 x e w a _ _ KR hc hr h) ?_)
      intro z a' w' hz
      cases z with
      | normal => exact hz
      | exit i =>
        obtain ⟨e', h1, h2, h3⟩ := hz
        cases hb : Nat.beq i id with
        | true =>
          obtain rfl := Nat.eq_of_beq_eq_true hb
          rw [hb] at h3
          simp only [Exit.inBlock, if_true]
          exact ⟨e', h1, h2, h3⟩
        | false =>
          rw [hb] at h3
          have hne : ¬ i = id := fun he => by rw [he, Nat.beq_refl] at hb; cases hb
          simp only [Exit.inBlock, hne, if_false]
          exact ⟨e', h1, h2, h3⟩
      | _ => exact hz
    | _ => unfold intp at h; exact h.elim
  | l slots A ih =>
    refine ⟨?_, fun hsp => by simp [spine] at hsp, fun hsp => by simp [spine] at hsp⟩
    intro c e w a KN KX KR hc hr h
    cases c with
    | loop x =>
      unfold intp at h
      simp only [chk] at hc
      obtain ⟨I, μ, h0, hcongr, hbody⟩ := loopN_sound h
      refine wp_loop (fun a' w' => ∃ e', Rel n a' e' ∧ Agree (writes x) e e' ∧ I e' w') (fun a' w' => μ (fun t => a'.tmps.getD t undef) w') ⟨e, hr, Agree.refl _ _, h0⟩ ?_
      rintro a1 w1 ⟨e1, hr1, ha1, hI⟩
      obtain ⟨e2, he2, hb⟩ := hbody e1 w1 ha1 hI
      refine wp_mono (ih.1 x e2 w1 a1 _ KX KR hc (hr1.congr fun t => (he2 t).symm) hb) ?_
      have ha2 : Agree (writes x) e e2 := fun t ht => (he2 t).trans (ha1 t ht)
      intro z a' w' hz
      cases z with
      | normal =>
        obtain ⟨e', h1, h2, h3, h4⟩ := hz
        refine ⟨⟨e', h1, ha2.trans h2, h3⟩, ?_⟩
        have e3 := (hcongr (fun t => a'.tmps.getD t undef) e' w' h1.get).2
        have e4 := (hcongr (fun t => a1.tmps.getD t undef) e1 w1 hr1.get).2
        show μ (fun t => a'.tmps.getD t undef) w' < μ (fun t => a1.tmps.getD t undef) w1
        rw [e3, e4]
        exact h4
      | exit i => obtain ⟨e', h1, h2, h3⟩ := hz; exact ⟨e', h1, ha2.trans h2, h3⟩
      | ret => obtain ⟨e', h1, h2, h3⟩ := hz; exact ⟨e', h1, ha2.trans h2, h3⟩
      | _ => exact hz
    | _ => unfold intp at h; exact h.elim
  | o =>
    refine ⟨?_, fun hsp l c r e w a KN KX KR ht hc hr h => ?_, fun hsp l c hd r e w a KN KX KR Q hh hb hc hr h hN hX => ?_⟩
    · intro c e w a KN KX KR hc hr h
      cases c with
      | skip => unfold intp at h; exact wp_skip ⟨e, hr, Agree.refl _ _, h⟩
      | ret => unfold intp at h; exact wp_ret ⟨e, hr, Agree.refl _ _, h⟩
      | exit i => unfold intp at h; exact wp_exit ⟨e, hr, Agree.refl _ _, h⟩
      | _ => unfold intp at h; exact h.elim
    · cases c with
      | seq x y =>
        simp only [tailOf, Option.map_eq_some_iff] at ht
        obtain ⟨y', hy, rfl⟩ := ht
        unfold intp at h
        exact h.elim
      | goto l' =>
        simp only [tailOf] at ht
        cases hb : Nat.beq l' l <;> rw [hb] at ht <;> simp at ht
        subst ht
        unfold intp at h
        exact wp_goto ⟨Nat.eq_of_beq_eq_true hb, e, hr, Agree.refl _ _, h⟩
      | _ => simp [tailOf] at ht
    · cases c with
      | seq x y =>
        by_cases hlab : ∃ l', x = .label l'
        · obtain ⟨l', rfl⟩ := hlab
          simp only [headOf] at hh
          cases hb2 : Nat.beq l' l <;> rw [hb2] at hh <;> simp at hh
          subst hh
          obtain rfl := Nat.eq_of_beq_eq_true hb2
          have hby : y = r := by simpa [backOf] using hb
          subst hby
          unfold intp at h
          exact wp_seq (wp_label (hN e a w hr (Agree.refl _ _) h))
        · have e1 : headOf l (.seq x y) = bif (findLabel x l).isNone then (headOf l y).map (.seq x) else none := by
            cases x <;> first | rfl | exact absurd ⟨_, rfl⟩ hlab
          rw [e1] at hh
          cases hfl : (findLabel x l).isNone <;> rw [hfl] at hh <;> simp at hh
          obtain ⟨h', hy, rfl⟩ := hh
          unfold intp at h
          exact h.elim
      | _ => simp [headOf] at hh
  | r gs =>
    refine ⟨?_, fun hsp => by simp [spine] at hsp, fun hsp => by simp [spine] at hsp⟩
    intro c e w a KN KX KR hc hr h
    cases c with
    | region id ops draw =>
      cases draw with
      | false => unfold intp at h; simp only [chk] at hc; exact region_plain hc hr h
      | true => unfold intp at h; simp only [chk, Bool.and_eq_true] at hc; exact region_draw hm hc.1 hc.2 hr h
    | _ => unfold intp at h; exact h.elim
  | d plan gs =>
    refine ⟨?_, fun hsp => by simp [spine] at hsp, fun hsp => by simp [spine] at hsp⟩
    intro c e w a KN KX KR hc hr h
    cases c with
    | region id ops draw =>
      cases draw with
      | false => unfold intp at h; exact h.elim
      | true =>
        unfold intp at h
        simp only [chk, Bool.and_eq_true] at hc
        obtain ⟨S, hS, h⟩ := h
        refine region_held hm hc.1.1 (Nat.eq_of_beq_eq_true hc.1.2.1) (fun i hi => ?_) hc.1.2.2 hr hS h
        have := List.all_eq_true.1 hc.2 i hi
        simpa [Nat.blt_eq] using this
    | _ => unfold intp at h; exact h.elim
  | dc plan cuts gs =>
    refine ⟨?_, fun hsp => by simp [spine] at hsp, fun hsp => by simp [spine] at hsp⟩
    intro c e w a KN KX KR hc hr h
    cases c with
    | region id ops draw =>
      cases draw with
      | false => unfold intp at h; exact h.elim
      | true =>
        unfold intp at h
        simp only [chk, Bool.and_eq_true] at hc
        obtain ⟨S, hS, h⟩ := h
        refine region_cut hm hc.1.1 (Nat.eq_of_beq_eq_true hc.1.2.1) (fun i hi => ?_) hc.1.2.2 hr hS h
        have := List.all_eq_true.1 hc.2 i hi
        simpa [Nat.blt_eq] using this
    | _ => unfold intp at h; exact h.elim
  | dt pl cuts slots =>
    refine ⟨?_, fun hsp => by simp [spine] at hsp, fun hsp => by simp [spine] at hsp⟩
    intro c e w a KN KX KR hc hr h
    cases c with
    | region id ops draw =>
      cases draw with
      | false => unfold intp at h; exact h.elim
      | true =>
        unfold intp at h
        simp only [chk, Bool.and_eq_true, Bool.not_eq_true'] at hc
        obtain ⟨hc, ⟨hp, ha, hg⟩, hd⟩ := hc
        obtain ⟨S, hS, h⟩ := h
        obtain ⟨k, hb, hrest⟩ := joinN_sound h
        refine wp_mono (region_tree (KX := KX) (KR := KR) hm hc hp ha hg (Nat.le_of_ble_eq_true hd) hr hS hb) ?_
        intro x a' w' hx
        cases x with
        | normal =>
          obtain ⟨e', h2, h3, h4⟩ := hx
          obtain ⟨e'', he, hk⟩ := hrest e' w' h3 h4
          exact ⟨e'', h2.congr fun t => (he t).symm, fun t ht => (he t).trans (h3 t ht), hk⟩
        | _ => exact hx
    | _ => unfold intp at h; exact h.elim
  | g l slots A B ihA ihB =>
    refine ⟨?_, fun hsp => by simp [spine] at hsp, fun hsp => by simp [spine] at hsp⟩
    intro c e w a KN KX KR hc hr h
    cases c with
    | scope c =>
      unfold intp at h
      cases hh : headOf l c with
      | none => rw [hh] at h; exact h.elim
      | some hd =>
        obtain ⟨r, hb, hf, hw⟩ := head_find hh
        cases ht : tailOf l r with
        | none => rw [hh, hb] at h; simp only [Option.bind_some, ht] at h
        | some r' =>
          simp only [chk, hh, hb, Option.bind_some, ht, Bool.and_eq_true] at hc
          rw [hh, hb] at h
          simp only [Option.bind_some, ht] at h
          obtain ⟨⟨hsA, hsB⟩, hcA, hcB⟩ := hc
          have hwr := tail_writes ht
          have mh : ∀ t, t ∈ writes hd → t ∈ writes (.scope c) := fun t h => hw t (.inl h)
          have mr : ∀ t, t ∈ writes r' → t ∈ writes (.scope c) := fun t h => hw t (.inr (by rw [hwr]; exact h))
          obtain ⟨L, hL⟩ : ∃ L : Nat → Act → World → Prop, L = fun m a w => ∃ (e1 : Env) (I : Env → World → Prop) (μ : Env → World → Nat), (∀ e' e'' w, (∀ t, e' t = e'' t) → (I e' w → I e'' w) ∧ μ e' w = μ e'' w) ∧
              (∀ e' w, Agree (writes r') e1 e' → I e' w → ∃ e'', (∀ t, e'' t = e' t) ∧ intp P B r' e'' w (fun e3 w3 => I e3 w3 ∧ μ e3 w3 < μ e' w) KX KR) ∧ Agree (writes (.scope c)) e e1 ∧ ∃ e', Rel n a e' ∧ Agree (writes r') e1 e' ∧ I e' w ∧ μ e' w = m := ⟨_, rfl⟩
          have pass : ∀ m a w, L m a w → r.wp P (Exit.jump l (fun a' w' => ∃ m', L m' a' w' ∧ m' < m) (Post n (writes (.scope c)) e KN KX KR)) a w := fun m a w hm => by
            rw [hL] at hm
            obtain ⟨e1, I, μ, hcg, hbody, ha1, e', hr', ha', hI, hμ⟩ := hm
            obtain ⟨e'', he, hb2⟩ := hbody e' w ha' hI
            have ha2 : Agree (writes r') e1 e'' := fun t ht => (he t).trans (ha' t ht)
            refine wp_mono (ihB.2.1 hsB l r r' e'' w a _ KX KR ht hcB (hr'.congr fun t => (he t).symm) hb2) ?_
            intro x a3 w3 hx
            cases x with
            | goto l' =>
              obtain ⟨rfl, e3, h1, h2, h3, h4⟩ := hx
              refine ⟨rfl, μ e3 w3, ?_, by omega⟩
              rw [hL]
              exact ⟨e1, I, μ, hcg, hbody, ha1, e3, h1, ha2.trans h2, h3, rfl⟩
            | exit i => obtain ⟨e3, h1, h2, h3⟩ := hx; exact ⟨e3, h1, ha1.trans ((ha2.trans h2).mono mr), h3⟩
            | ret => obtain ⟨e3, h1, h2, h3⟩ := hx; exact ⟨e3, h1, ha1.trans ((ha2.trans h2).mono mr), h3⟩
            | _ => exact hx.elim
          refine wp_scope_least l L hf ?_ fun m a w hm => wp_seq (wp_skip (pass m a w hm))
          refine ihA.2.2 hsA l c hd r e w a _ KX KR _ hh hb hcA hr h (fun e1 a1 w1 hr1 ha1 hl => ?_) fun x a1 w1 hne hp => ?_
          · obtain ⟨I, μ, h0, hcg, hbody⟩ := loopN_sound hl
            refine wp_mono (pass (μ e1 w1) a1 w1 (by rw [hL]; exact ⟨e1, I, μ, hcg, hbody, ha1.mono mh, e1, hr1, Agree.refl _ _, h0, rfl⟩)) ?_
            intro x a3 w3 hx
            cases x with
            | goto l' => obtain ⟨h1, m', h2, _⟩ := hx; exact ⟨h1, m', h2⟩
            | _ => exact hx
          · cases x with
            | normal => exact absurd rfl hne
            | exit i => obtain ⟨e3, h1, h2, h3⟩ := hp; exact ⟨e3, h1, h2.mono mh, h3⟩
            | ret => obtain ⟨e3, h1, h2, h3⟩ := hp; exact ⟨e3, h1, h2.mono mh, h3⟩
            | _ => exact hp.elim
    | _ => unfold intp at h; exact h.elim
theorem intp_sound (hm : P.follows .mixedOrders = true) (A : An) (c : Code) (e : Env) (w : World) (a : Act) (KN : Env → World → Prop) (KX : Nat → Env → World → Prop) (KR : Env → World → Prop)
    (hc : chk P n A c = true) (hr : Rel n a e) (h : intp P A c e w KN KX KR) : c.wp P (Post n (writes c) e KN KX KR) a w := (intp_all hm A).1 c e w a KN KX KR hc hr h

/-! ### A call -/
def ini : List Value → Env
  | [], _ => undef
  | v :: _, 0 => v
  | _ :: vs, i + 1 => ini vs i
theorem ini_get : ∀ (l : List Value) (t : Nat), ini l t = l.getD t undef
  | [], t => by simp [ini]
  | v :: l, 0 => by simp [ini]
  | v :: l, t + 1 => by simp [ini, ini_get l t]
def resK (P : Program) : List ResultVar → Env → World → (List Value → Prop) → Prop
  | [], _, _, K => K []
  | .tmp t :: l, e, w, K => resK P l e w fun vs => K (e t :: vs)
  | .cell a t :: l, e, w, K => (match cLoad P t (e a) with
    | .read f => f w fun v => resK P l e w fun vs => K (v :: vs)
    | _ => False)
def one : List Value → Value
  | [v] => v
  | l => .tuple l.toArray
def retK (P : Program) (rs : List ResultVar) (R : Value → World → Prop) (e : Env) (w : World) : Prop := resK P rs e w fun vs => R (one vs) w
theorem run_loadK {t : TypeId} {p : Value} {w : World} {K : Value → Prop} (h : (match cLoad P t p with | .read f => f w K | _ => False)) :
    ∃ v, K v ∧ (do loadVar t (← asAddr p) : Sem Value).run P w = .ok v w := by
  unfold cLoad at h
  cases ha : aggr P t with
  | none => rw [ha] at h; exact h.elim
  | some b =>
    rw [ha] at h
    cases b with
    | false =>
      obtain ⟨g, off, cur, ty, fr, v, hp, hg, hv, hk⟩ := h
      have hc : w.cell? ⟨g, off, none⟩ = some v := by simp [World.cell?, hg, hv]
      exact ⟨v, hk, by simp [hp, asAddr, loadVar, run_isAgg ha, hc]⟩
    | true =>
      cases hs : size? P t with
      | none => simp only [hs] at h; exact h.elim
      | some n =>
        simp only [hs] at h
        obtain ⟨g, off, cur, ty, fr, hp, hg, hn, hk⟩ := h
        exact ⟨_, hk, by simp [hp, asAddr, loadVar, run_isAgg ha, run_sizeOf hs, loadCells_ext hg hn]⟩
def resSem (tmps : Array Value) : ResultVar → Sem Value
  | .tmp t => pure (tmps.getD t undef)
  | .cell x t => do loadVar t (← asAddr (tmps.getD x undef))
theorem resK_sound {a : Act} {e : Env} {w : World} (hr : Rel n a e) : ∀ (l : List ResultVar) (K : List Value → Prop), resK P l e w K →
    ∃ vs, K vs ∧ (l.mapM (resSem a.tmps)).run P w = .ok vs w
  | [], K, h => ⟨[], h, by simp⟩
  | .tmp t :: l, K, h => by
    obtain ⟨vs, hk, hrun⟩ := resK_sound hr l _ h
    refine ⟨_, hk, ?_⟩
    rw [List.mapM_cons]
    simp only [resSem, Sem.run_bind, Sem.run_pure, Result.andThen_ok, hrun, hr.get]
  | .cell x t :: l, K, h => by
    obtain ⟨v, hv, hrun⟩ := run_loadK (P := P) (by unfold resK at h; exact h)
    obtain ⟨vs, hk, hrun2⟩ := resK_sound hr l _ hv
    refine ⟨_, hk, ?_⟩
    rw [List.mapM_cons]
    simp only [resSem, hr.get]
    rw [Sem.run_bind, hrun]
    simp only [Result.andThen_ok, Sem.run_bind, Sem.run_pure, hrun2]
theorem results_eq (fn : Func) (tmps : Array Value) : results fn tmps = (do
    let vs ← fn.results.mapM (resSem tmps)
    pure (if h : vs.size = 1 then vs[0] else .tuple vs)) := by
  unfold results
  congr 2
theorem results_sound {fn : Func} {a : Act} {e : Env} {w : World} {R : Value → World → Prop} (hr : Rel n a e) (h : retK P fn.results.toList R e w) :
    ∃ v, (results fn a.tmps).run P w = .ok v w ∧ R v w := by
  obtain ⟨vs, hk, hrun⟩ := resK_sound hr _ _ h
  refine ⟨one vs, ?_, hk⟩
  rw [results_eq, Sem.run_bind, ← Array.toArray_toList (xs := fn.results), List.mapM_toArray, Sem.run_map, hrun]
  simp only [Result.andThen_ok, Sem.run_pure]
  match vs with
  | [] => rfl
  | [v] => rfl
  | _ :: _ :: _ => simp [one]

theorem calls_of {f : FuncId} {fn : Func} {c : Code} {A : An} {args : List Value} {w : World} {R : Value → World → Prop} (hm : P.follows .mixedOrders = true)
    (hf : P.funcs[f]? = some fn) (hb : fn.body = some c) (hn : Nat.ble args.length fn.ntmps = true) (hc : chk P fn.ntmps A c = true)
    (h : intp P A c (ini args) w (retK P fn.results.toList R) (fun _ _ _ => False) (retK P fn.results.toList R)) : Calls P f args.toArray w (Ret R) := by
  refine calls_of_wp hf hb ?_
  have hle := Nat.le_of_ble_eq_true hn
  have hr : Rel fn.ntmps { tmps := args.toArray ++ Array.replicate (fn.ntmps - args.toArray.size) undef, defers := [] } (ini args) := by
    refine ⟨by simp; omega, fun t => ?_, rfl⟩
    rw [ini_get]
    simp only [Array.getD_eq_getD_getElem?, Array.getElem?_append, List.getD_eq_getElem?_getD]
    by_cases ht : t < args.length
    · simp [ht]
    · have h1 : args[t]? = none := List.getElem?_eq_none (by omega)
      simp [ht, Array.getElem?_replicate]
      split <;> rfl
  refine wp_mono (intp_sound hm A c _ w _ _ _ _ hc hr h) ?_
  intro z a' w' hz
  cases z with
  | normal =>
    obtain ⟨e', h1, h2, h3⟩ := hz
    obtain ⟨v, hv, hR⟩ := results_sound h1 h3
    exact ⟨h1.dfr, v, hv, v, rfl, hR⟩
  | ret =>
    obtain ⟨e', h1, h2, h3⟩ := hz
    obtain ⟨v, hv, hR⟩ := results_sound h1 h3
    exact ⟨h1.dfr, v, hv, v, rfl, hR⟩
  | exit i => obtain ⟨e', h1, h2, h3⟩ := hz; exact h3
  | _ => exact hz.elim
end
end Go.Fx
