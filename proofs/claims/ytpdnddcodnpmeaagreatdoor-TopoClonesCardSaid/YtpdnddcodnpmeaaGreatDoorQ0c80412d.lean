/-
  Both, the program's Topo and the document's: a block that is added.
-/
import Derived.KernelRfl
import Derived.Test.YtpdnddcodnpmeaaGreatDoorQ03b4fac6
import Derived.Test.YtpdnddcodnpmeaaGreatDoorQ8ff11086
import Derived.Test.YtpdnddcodnpmeaaGreatDoorQ7b5fe899
import Derived.Test.YtpdnddcodnpmeaaGreatDoorQ52f385ea
import Derived.Test.YtpdnddcodnpmeaaGreatDoorQ3ba871d2
import Derived.Test.YtpdnddcodnpmeaaGreatDoorQ67391b50
import Derived.Test.YtpdnddcodnpmeaaGreatDoorQd963d5f1
import Derived.Test.YtpdnddcodnpmeaaGreatDoorQf186b5bc
import Derived.Test.YtpdnddcodnpmeaaGreatDoorQ738e87f5
import Derived.Test.YtpdnddcodnpmeaaGreatDoorQed4c4d5e
set_option linter.unusedVariables false
set_option linter.unusedSimpArgs false
namespace Go.Fx
section
variable {P : Program} {T E n : Nat} {w0 w : World} {As : List Asn}
theorem XR (k : Vec n) (v : Value) : ∀ l : List (Ent n), (updE k v l).map (·.1) = l.map (·.1)
  | [] => rfl
  | x :: l => by
    unfold updE
    split
    · rename_i h
      rw [List.map_cons, List.map_cons, h]
    · rw [List.map_cons, XR k v l, List.map_cons]
structure KOk (l : List (Ent n)) (c : Nat) (f : Vec n → Option Value) : Prop where
  ok : MOk l c
  nk : (l.map (·.1)).Nodup
  get : ∀ k, getE k l = f k
def mpK (g : Nat) (f : Vec n → Option Value) : Asn := Asn.ex fun l => Asn.ex fun c => (Asn.pr (KOk l c f)).star (mp g l c)
theorem T5 {g : Nat} {f : Vec n → Option Value} (h : Sep w0 w (mpK g f :: As)) : ∃ l c, KOk l c f ∧ Sep w0 w (mp g l c :: As) := by
  unfold mpK at h
  rw [HT] at h
  obtain ⟨l, h⟩ := h
  rw [HT] at h
  obtain ⟨c, h⟩ := h
  rw [Jq, Nm] at h
  exact ⟨l, c, h.1, h.2⟩
theorem Ri {g c : Nat} {f : Vec n → Option Value} {l : List (Ent n)} (hl : KOk l c f) (h : Sep w0 w (mp g l c :: As)) : Sep w0 w (mpK g f :: As) := by
  unfold mpK
  rw [HT]
  refine ⟨l, ?_⟩
  rw [HT]
  exact ⟨c, by rw [Jq, Nm]; exact ⟨hl, h⟩⟩
def MkR (h : Heap) (g : Nat) (f : Vec n → Option Value) : Prop := ∃ l c, KOk l c f ∧ h[g]? = some (.map (ents l) c)
theorem AiL {g : Nat} {f : Vec n → Option Value} (h : Sep w0 w (mpK g f :: As)) : MkR w.heap g f := by
  obtain ⟨l, c, hl, hs⟩ := T5 h
  exact ⟨l, c, hl, hs.map⟩
theorem MkR.mp {h : Heap} {g : Nat} {f : Vec n → Option Value} (hr : MkR h g f) : MpR h g f := by
  obtain ⟨l, c, hl, hs⟩ := hr
  exact ⟨l, c, hl.ok, hl.get, hs⟩
theorem MkR.fr {w w' : World} {g : Nat} {f : Vec n → Option Value} (hr : MkR w.heap g f) (hf : Fr [] w w') : MkR w'.heap g f := by
  obtain ⟨l, c, hl, hs⟩ := hr
  exact ⟨l, c, hl, hf.blk hs (by simp)⟩
theorem MpR.fr {w w' : World} {g : Nat} {f : Vec n → Option Value} (hr : MpR w.heap g f) (hf : Fr [] w w') : MpR w'.heap g f := by
  obtain ⟨l, c, h1, h2, hs⟩ := hr
  exact ⟨l, c, h1, h2, hf.blk hs (by simp)⟩
theorem KOk.nil : KOk ([] : List (Ent n)) 0 fun _ => none := ⟨MOk.nil, by simp, fun _ => rfl⟩
theorem KOk.push {l : List (Ent n)} {c : Nat} {f : Vec n → Option Value} (h : KOk l c f) {k : Vec n} (v : Value) (hk : getE k l = none) : KOk (l ++ [(k, v, c)]) (c + 1) (updF f k v) := by
  refine ⟨h.ok.push k v, ?_, fun k' => by rw [Aae k v c hk, h.get]; rfl⟩
  rw [List.map_append, List.nodup_append]
  refine ⟨h.nk, by simp, fun x hx y hy he => ?_⟩
  simp only [List.map_cons, List.map_nil, List.mem_singleton] at hy
  subst hy
  subst he
  obtain ⟨z, hz, hzk⟩ := List.mem_map.1 hx
  have := (G3 h.nk (k := x) (v := z.2.1)).2 ⟨z, hz, hzk, rfl⟩
  rw [hk] at this
  cases this
theorem RJ {t : TypeId} {K : Value → World → Prop} (hs : Sep w0 w As) (h : ∀ g w', Sep w0 w' (mpK (n := n) g (fun _ => none) :: As) → K (.map (some g)) w') : efP P (Instr.makeMap t none) w K :=
  J1 (n := n) hs fun g w' hs' => h g w' (Ri KOk.nil hs')
theorem U4 {M V g : Nat} {f : Vec n → Option Value} {k : Vec n} {v : Value} {K : World → Prop} (hM : P.underlying M = some (.map T V)) (hT : KeyT P T E n) (hs : Sep w0 w (mpK g f :: As))
    (h : ∀ w', Sep w0 w' (mpK g (updF f k v) :: As) → K w') : efU P (Instr.mapUpdate M (.map (some g)) (kv k) v) w K := by
  obtain ⟨l, c, hok, hs⟩ := T5 hs
  cases hk : getE k l with
  | none => exact N7 hM hT hs hk fun w' hs' => h w' (Ri (hok.push v hk) hs')
  | some y =>
    have hg := hs.map
    obtain ⟨F, ⟨hb, rfl⟩, hu⟩ := hs.upd
    have hfe := Ix k l 0
    rw [hk] at hfe
    obtain ⟨⟨i, y'⟩, hfi, _⟩ := Option.map_eq_some_iff.1 hfe
    obtain ⟨x, hx, hxk, _⟩ := PW k l 0 i y' hfi
    have hm := Ul k v l 0 i y' hfi
    rw [Nat.sub_zero] at hx hm
    have e2 : (ents l).modify i (fun e => { e with key := kv k, val := v }) = ents (updE k v l) := by
      apply Array.ext'
      unfold ents
      rw [Array.toList_modify]
      exact hm
    refine ⟨Cj w g (.map (ents (updE k v l)) c), ?_, h _ (Ri ⟨hok.ok.upd k v, by rw [XR]; exact hok.nk, fun k' => by rw [TS k v k' l (by rw [hk]; rfl)]; unfold updF; rw [hok.get]⟩ (hu _ [g] (mp g _ _) ⟨DA w g _ _ hb, rfl⟩ (Ey w g _) (Grew.refl _ _)))⟩
    have e1 : (((ents l)[i]?).map (·.key)).getD (kv k) = kv k := by
      unfold ents
      rw [List.getElem?_toArray, List.getElem?_map, hx]
      show kv x.1 = kv k
      rw [hxk]
    unfold Instr.mapUpdate
    simp only [Sem.run_bind, run_underlying hM, Result.andThen_ok, Is hg, Lg hT k _ 9998, Gk hT k l, hfi, e1, Yc]
    rw [← e2]
    exact NP _ hg
theorem Ai6 {M V g : Nat} {f : Vec n → Option Value} {z : Value} (hM : P.underlying M = some (.map T V)) (hT : KeyT P T E n) (hz : ∀ w : World, (zeroValue V).run P w = .ok z w) (hg : MpR w.heap g f) (k : Vec n) (K : Value → Prop) :
    rdP P (Instr.lookup M (.map (some g)) (kv k) true) w K = K (.tuple #[(f k).getD z, .bool (f k).isSome]) := by
  obtain ⟨l, c, _, hf, hm⟩ := hg
  rw [Wj hM hT (hz w) hm k, hf]
theorem Afy {n : Nat} {k : Vec n} {l : List (Ent n)} : (getE k l).isSome = true ↔ k ∈ l.map (·.1) := by
  unfold getE
  rw [Option.isSome_map, List.find?_isSome]
  constructor
  · rintro ⟨x, hx, h⟩
    have : k = x.1 := by simpa using h
    exact this ▸ List.mem_map_of_mem hx
  · intro h
    obtain ⟨x, hx, rfl⟩ := List.mem_map.1 h
    exact ⟨x, hx, by simp⟩
def Gp (gi : Nat) (z : World) : Nat := match z.heap[gi]? with
  | some (.mapIter _ _ seen _) => seen.size
  | _ => 0
structure RngK (l : List (Ent n)) (c : Nat) (D U : List (Ent n)) : Prop where
  pm : (D ++ U).Perm l
theorem RngK.end {l D U : List (Ent n)} {c : Nat} {f : Vec n → Option Value} (h : RngK l c D U) (hl : KOk l c f) (hall : ∀ x ∈ l, x.2.2 ∈ D.map (·.2.2)) : U = [] := by
  have hnb : ((D ++ U).map (·.2.2)).Nodup := ((h.pm.map _).nodup_iff).2 hl.ok.nd
  cases U with
  | nil => rfl
  | cons u U =>
    exfalso
    have hu := hall u (h.pm.mem_iff.1 (by simp))
    rw [List.map_append, List.nodup_append] at hnb
    exact hnb.2.2 _ hu _ (by simp) rfl
theorem RngK.next {l D U : List (Ent n)} {c : Nat} {f : Vec n → Option Value} {x : Ent n} (h : RngK l c D U) (hl : KOk l c f) (hx : x ∈ l) (hxn : x.2.2 ∉ D.map (·.2.2)) :
    (∃ U', RngK l c (D ++ [x]) U' ∧ U.length = U'.length + 1) ∧ f x.1 = some x.2.1 ∧ x.1 ∉ D.map (·.1) := by
  have hxU : x ∈ U := by
    have := h.pm.mem_iff.2 hx
    rcases List.mem_append.1 this with h | h
    · exact absurd (List.mem_map_of_mem h) hxn
    · exact h
  obtain ⟨s1, s2, rfl⟩ := List.append_of_mem hxU
  refine ⟨⟨s1 ++ s2, ⟨?_⟩, by simp; omega⟩, ?_, ?_⟩
  · rw [List.append_assoc]
    exact ((List.perm_middle (l₁ := s1) (l₂ := s2) (a := x)).symm.append_left D).trans h.pm
  · rw [← hl.get]
    exact (G3 hl.nk).2 ⟨x, hx, rfl, rfl⟩
  · intro hm
    have hnk : ((D ++ (s1 ++ x :: s2)).map (·.1)).Nodup := ((h.pm.map _).nodup_iff).2 hl.nk
    rw [List.map_append, List.nodup_append] at hnk
    exact hnk.2.2 _ hm _ (by simp) rfl
theorem RngK.keys {l D : List (Ent n)} {c : Nat} {f : Vec n → Option Value} (h : RngK l c D []) (hl : KOk l c f) (k : Vec n) : k ∈ D.map (·.1) ↔ (f k).isSome = true := by
  have hp := h.pm
  rw [List.append_nil] at hp
  rw [(hp.map _).mem_iff, ← hl.get, Afy]
end
end Go.Fx
namespace Go.Fx
abbrev SV := Vec 32 → Option (Value × Sn)
def svF (S : SV) : Vec 32 → Option Value := fun k => (S k).map fun q => snv q.1 q.2
def svM (S : SV) : SM := fun k => (S k).map (·.2)
def updV (S : SV) (k : Vec 32) (q : Value × Sn) : SV := fun k' => if k' = k then some q else S k'
theorem WN (S : SV) (k : Vec 32) (q : Value × Sn) : updF (svF S) k (snv q.1 q.2) = svF (updV S k q) := by
  funext k'
  unfold updF svF updV
  split <;> rfl
theorem RY (S : SV) (k : Vec 32) (q : Value × Sn) : svM (updV S k q) = updS (svM S) k q.2 := by
  funext k'
  unfold svM updV updS
  split <;> rfl
theorem UL {S : SV} {k : Vec 32} {x : Sn} (h : svM S k = some x) : ∃ v, S k = some (v, x) := by
  obtain ⟨⟨v, y⟩, hq, rfl⟩ := Option.map_eq_some_iff.1 h
  exact ⟨v, hq⟩
theorem AB.one1 {α : Type} {q : Rdr α} {h : Heap} {v : Value} {l : List α} (hr : AB q h v l) : v.oneCell' = true := by
  obtain ⟨a, c, rfl, _⟩ := hr
  rfl
def SDat (S : SV) (As : List Asn) : Prop := ∀ k q, S k = some q → rows Ab q.1 q.2.l ∈ As
theorem SDat.sub {S : SV} {As Bs : List Asn} (h : SDat S As) (hs : ∀ A ∈ As, A ∈ Bs) : SDat S Bs := fun k q hq => hs _ (h k q hq)
theorem SDat.upd {S : SV} {As : List Asn} {k : Vec 32} {v : Value} {x : Sn} (h : SDat S As) : SDat (updV S k (v, x)) (rows Ab v x.l :: As) := fun k' q hq => by
  unfold updV at hq
  split at hq
  · simp only [Option.some.injEq] at hq
    subst hq
    simp
  · exact List.mem_cons_of_mem _ (h k' q hq)
abbrev toq (p : Par) (gt gs : Nat) : Value × Par × Value := (.pointer (some ⟨gt, 0, none⟩), p, .map (some gs))
abbrev ptr (g : Nat) : Value := .pointer (some ⟨g, 0, none⟩)
structure ToR (h : Heap) (g gt gm gs : Nat) (ov : Value) (p : Par) (t : Tr) (N : List TN) (c : Nat) (S : SV) : Prop where
  cell : ∃ T fr, h[g]? = some (.cells (Rdr.cells AP (toq p gt gs)).toArray T fr)
  tr : TrR h gt gm ov t N c
  mp : MkR h gs (svF S)
  rw : ∀ k q, S k = some q → AB Ab h q.1 q.2.l
def toH (g gt gm gs : Nat) (ov : Value) (p : Par) (t : Tr) (N : List TN) (c : Nat) (S : SV) : List Asn :=
  blk g (Rdr.cells AP (toq p gt gs)).toArray Bj :: mpK gs (svF S) :: trH gt gm ov t N c
theorem zSn (w : World) : (zeroValue Ak).run P w = .ok (snv (.slice none 0 0) snZ) w := by kernel_rfl
theorem zInt (w : World) : (zeroValue CS).run P w = .ok (.int .i64 0) w := by kernel_rfl
theorem AiQ (w : World) : (zeroValue F9).run P w = .ok (.bool false) w := by kernel_rfl
section
variable {w0 w w' : World} {As : List Asn} {g gt gm gs c : Nat} {ov : Value} {p : Par} {t : Tr} {N : List TN} {S : SV} {m : Nat}
theorem ToR.fr (h : ToR w.heap g gt gm gs ov p t N c S) (hf : Fr [] w w') : ToR w'.heap g gt gm gs ov p t N c S := by
  obtain ⟨T, fr, hc⟩ := h.cell
  exact ⟨⟨T, fr, hf.blk hc (by simp)⟩, h.tr.fr hf, h.mp.fr hf, fun k q hq => (h.rw k q hq).fr hf⟩
theorem Sep.to (h : Sep w0 w As) (hr : ToR w0.heap g gt gm gs ov p t N c S) : ToR w.heap g gt gm gs ov p t N c S := hr.fr h.1
theorem HV (h : Sep w0 w (toH g gt gm gs ov p t N c S ++ As)) (hd : Dat N As) (hs : SDat S As) : ToR w.heap g gt gm gs ov p t N c S := by
  refine ⟨⟨_, _, Sep.blk h⟩, Rl h.tail.tail hd, AiL h.tail, fun k q hq => ?_⟩
  obtain ⟨F, hF⟩ := h.onL (A := rows Ab q.1 q.2.l) (by
    simp only [toH, List.cons_append, List.mem_cons, List.mem_append]
    exact .inr (.inr (.inr (hs k q hq))))
  exact Own.cel hF
theorem ToR.ldt (hr : ToR w.heap g gt gm gs ov p t N c S) (K : Value → Prop) (h : K (ptr gt)) : ld1 (.pointer (some ⟨g, 0, none⟩)) w.heap K := by
  obtain ⟨T, fr, hc⟩ := hr.cell
  exact (E6 hc K).mpr h
theorem ToR.lds (hr : ToR w.heap g gt gm gs ov p t N c S) (K : Value → Prop) (h : K (.map (some gs))) : ld1 (.pointer (some ⟨g, 5, none⟩)) w.heap K := by
  obtain ⟨T, fr, hc⟩ := hr.cell
  exact (C1 hc K).mpr h
theorem ToR.ldp (hr : ToR w.heap g gt gm gs ov p t N c S) (K : Value → Prop) (h : K (pav p)) : ldN 4 (.pointer (some ⟨g, 1, none⟩)) w.heap K := by
  obtain ⟨T, fr, hc⟩ := hr.cell
  exact (EC hc K).mpr h
theorem ToR.look (hr : ToR w.heap g gt gm gs ov p t N c S) (k : Vec 32) (K : Value → Prop) : rdP P (Instr.lookup A4 (.map (some gs)) (kv k) true) w K =
    K (.tuple #[(svF S k).getD (snv (.slice none 0 0) snZ), .bool (svF S k).isSome]) := Ai6 Ch KT zSn hr.mp.mp k K
def svD (S : SV) (k : Vec 32) : Value × Sn := (S k).getD (.slice none 0 0, snZ)
theorem RB (S : SV) (k : Vec 32) : (svF S k).getD (snv (.slice none 0 0) snZ) = snv (svD S k).1 (svD S k).2 := by
  unfold svF svD
  cases S k <;> rfl
theorem Wm (S : SV) (k : Vec 32) : (svF S k).isSome = (S k).isSome := by
  unfold svF
  cases S k <;> rfl
theorem ToR.rwD (hr : ToR w.heap g gt gm gs ov p t N c S) (k : Vec 32) : AB Ab w.heap (svD S k).1 (svD S k).2.l := by
  unfold svD
  cases h : S k with
  | none => exact ⟨none, 0, rfl, by simp [snZ], .inl (by simp [snZ])⟩
  | some q => exact hr.rw k q h
theorem Dj (hr : ToR w.heap g gt gm gs ov p t N c S) : cal P BO [ptr g] w fun r w' => r = .bool false ∧ w = w' := by
  refine T8 fun R hR => ?_
  unfold L2
  try simp only [fx, Nat.reduceAdd, forall_const, Option.isNone_some]
  refine Bu ?_
  refine hr.ldt _ ?_
  try simp only [fx, Nat.reduceAdd, forall_const, Option.isNone_some]
  exact hR _ _ ⟨rfl, rfl⟩
theorem AeC (hr : ToR w.heap g gt gm gs ov p t N c S) : cal P Ir [ptr g] w fun r w' => r = .tuple #[kv t.root, .int .i64 t.ht] ∧ Fr [] w w' := by
  refine Uj fun R hR => ?_
  unfold LF
  refine Av (Sep.start w) (AS w) fun g3 w1 hs1 => ?_
  refine Af (Dj (hs1.to hr)) ?_
  rintro _ _ ⟨rfl, rfl⟩
  try simp only [fx, Nat.reduceAdd, forall_const]
  refine (hs1.to hr).ldt _ ?_
  refine Af (J8 (hs1.to hr).tr) ?_
  rintro _ w2 ⟨rfl, hf2⟩
  have hs2 := hs1.old hf2
  try simp only [fx, Nat.reduceAdd, forall_const]
  refine AE hs2 fun w3 hs3 => ?_
  simp only [Ai hs3.blk]
  exact hR _ _ ⟨rfl, hs3.fr0⟩
theorem XO (hr : ToR w.heap g gt gm gs ov p t N c S) (hl : N.length ≤ 1000000) : cal P GB [ptr g] w fun r w' => r = .int .i64 N.length ∧ w = w' := by
  refine Wv fun R hR => ?_
  unfold MC
  refine Af (Dj hr) ?_
  rintro _ _ ⟨rfl, rfl⟩
  try simp only [fx, Nat.reduceAdd, forall_const]
  refine hr.ldt _ ?_
  refine Af (AgX hr.tr hl) ?_
  rintro _ _ ⟨rfl, rfl⟩
  exact hR _ _ ⟨rfl, rfl⟩
theorem Vu (hr : ToR w.heap g gt gm gs ov p t N c S) (hl : N.length ≤ 1000000) : cal P FJ [ptr g] w fun r w' => ∃ g' gm' ov' c', r = ptr g' ∧ Sep w w' (trH g' gm' ov' t N c') := by
  refine Up fun R hR => ?_
  unfold Lp
  refine Af (Dj hr) ?_
  rintro _ _ ⟨rfl, rfl⟩
  try simp only [fx, Nat.reduceAdd, forall_const]
  refine hr.ldt _ ?_
  exact Af (HQ hr.tr hl) fun r w' h => hR _ _ h
theorem AfY (hr : ToR w.heap g gt gm gs ov p t N c S) (k : Vec 32) : cal P IU [ptr g, kv k] w fun r w' => r = .bool (has t N k) ∧ Fr [] w w' := by
  refine VF fun R hR => ?_
  unfold Mv
  refine bxQ (Sep.start w) fun g3 w1 hs1 => ?_
  refine A0 hs1 fun w2 hs2 _ => ?_
  refine Cl (Af (Dj (hs2.to hr)) ?_)
  rintro _ _ ⟨rfl, rfl⟩
  refine ⟨fun u => Sep w u _, hs2, ?_⟩
  try simp only [fx, Nat.reduceAdd, forall_const]
  refine Bu ?_
  refine AF (v := ptr gt) (fun u hu K hk => (hu.to hr).ldt K hk) ?_
  refine ⟨kv k, fun u hu => (Ai hu.blk _).mpr rfl, ?_⟩
  refine AL (Af (GI (hs2.to hr).tr k) ?_)
  rintro _ w3 ⟨rfl, hf3⟩
  have hs3 := hs2.old hf3
  refine ⟨hs3, ?_⟩
  try simp only [fx, Nat.reduceAdd, forall_const]
  exact hR _ _ ⟨rfl, hs3.fr0⟩
theorem XG (hr : ToR w.heap g gt gm gs ov p t N c S) (hw : TrW t N) (k : Vec 32) : cal P GA [ptr g, kv k] w fun r w' => ∃ v, r = .tuple #[bq (nb k N).1 v, .int .i64 (if (Ba k N).isSome then 0 else 4)] ∧ Sep w w' [ownB v (nb k N).1.d] := by
  refine VG fun R hR => ?_
  unfold Mu
  refine bxQ (Sep.start w) fun g3 w1 hs1 => ?_
  refine Av hs1 (BF w1) fun g4 w2 hs2 => ?_
  refine Af (Dj (hs2.to hr)) ?_
  rintro _ _ ⟨rfl, rfl⟩
  try simp only [fx, Nat.reduceAdd, forall_const]
  refine A0 hs2 fun w3 hs3 _ => ?_
  refine AF (v := ptr gt) (fun u hu K hk => (hu.to hr).ldt K hk) ?_
  refine ⟨kv k, fun u hu => (Ai (Sep.blk hu.p1) _).mpr rfl, ?_⟩
  refine BD (Af (AgB (hs3.to hr).tr hw k) ?_)
  rintro _ w4 ⟨v, rfl, hs4⟩
  replace hs4 := hs3.join hs4
  try simp only [fx, Nat.reduceAdd, forall_const]
  refine A9 (Bm (b := ((nb k N).1.p, (nb k N).1.h, v)) hs4.p1 (Bh (Sep.one hs4)) fun w5 hs5 => ?_)
  simp only [AA hs5.blk, Am hs5.blk, Ap hs5.blk, Ay hs5.blk]
  exact hR _ _ ⟨v, rfl, Sep.pick hs5 [1] 3⟩
theorem K4 (hi : TpI p m t N (svM S)) (hr : ToR w.heap g gt gm gs ov p t N c S) : cal P CN [ptr g] w fun r w' => ∃ k, ID t (svM S) k ∧ r = kv k ∧ Fr [] w w' := by
  refine M6 fun R hR => ?_
  unfold HP
  refine Av (Sep.start w) (AS w) fun g2 w1 hs1 => ?_
  refine Af (Dj (hs1.to hr)) ?_
  rintro _ _ ⟨rfl, rfl⟩
  try simp only [fx, Nat.reduceAdd, forall_const]
  refine (hs1.to hr).ldt _ ?_
  refine Af (J8 (hs1.to hr).tr) ?_
  rintro _ w2 ⟨rfl, hf2⟩
  have hs2 := hs1.old hf2
  try simp only [fx, Nat.reduceAdd, forall_const]
  refine Av hs2 (AS w2) fun g3 w3 hs3 => ?_
  refine AE hs3 fun w4 hs4 => ?_
  refine ⟨fun z => ∃ k, CL (svM S) t.root k ∧ Sep w z [blk g3 (Rdr.cells (rVec 32) k).toArray Aa, blk g2 (Rdr.cells (rVec 32) (vz 32)).toArray Aa], fun z => m - hgt t N (Rw g3 z), ⟨t.root, .refl _, hs4⟩, ?_⟩
  rintro w5 ⟨k, hk, hs5⟩ -
  have hkh := hi.pref_has hk
  refine A0 hs5 fun w6 hs6 hh6 => ?_
  refine AF (v := .map (some gs)) (fun u hu K hk => (hu.to hr).lds K hk) ?_
  refine ⟨kv k, fun u hu => (Ai hu.blk _).mpr rfl, ?_⟩
  refine ⟨.tuple #[(svF S k).getD (snv (.slice none 0 0) snZ), .bool (svF S k).isSome], fun u hu => ((hu.to hr).look k _).mpr rfl, ?_⟩
  rw [RB, Wm]
  try simp only [fx, Nat.reduceAdd, forall_const]
  refine AL (Av hs6 (Bo w6) fun g5 w7 hs7 => ⟨hs7.tail, ?_⟩)
  refine A9 (AJ (b := snr (svD S k).1 (svD S k).2) hs7 (AD ((hs7.to hr).rwD k).one1) fun w8 hs8 => ?_)
  try simp only [fx, Nat.reduceAdd, forall_const]
  rw [Aj]
  refine ⟨fun h => ?_, fun h => ?_⟩
  · have hn : svM S k = none := by
      unfold svM
      cases hq : S k with
      | none => rfl
      | some q => rw [hq] at h; cases h
    simp only [Ai (Sep.blk hs8.p1)]
    refine AE hs8.p2 fun w9 hs9 => ?_
    simp only [Ai hs9.blk]
    exact hR _ _ ⟨k, ⟨hk, hn⟩, rfl, hs9.fr0⟩
  · obtain ⟨q, hq⟩ : ∃ q, S k = some q := by
      cases hq : S k with
      | none => rw [hq] at h; cases h
      | some q => exact ⟨q, rfl⟩
    have hx : svM S k = some (svD S k).2 := by unfold svM svD; rw [hq]; rfl
    simp only [Ar (Sep.blk hs8), Ad (Sep.blk hs8), Ae (Sep.blk hs8), Ac (Sep.blk hs8), Ag (Sep.blk hs8), Ah (Sep.blk hs8)]
    refine Af NF ?_
    rintro _ w9 ⟨rfl, hf9⟩
    have hs9 := hs8.old hf9
    refine AE (b := prf (svD S k).2) hs9.p1 fun w10 hs10 => ?_
    refine ⟨⟨prf (svD S k).2, hk.step hx, hs10.d1⟩, ?_⟩
    have h1 := hi.pref_step hx
    have h2 := hi.tm.hb _ h1.1
    rw [GX (Sep.blk hs10), GX (Sep.blk hs5), h1.2.2.2]
    omega
theorem Vv (hi : TpI p m t N (svM S)) (hr : ToR w.heap g gt gm gs ov p t N c S) (b : Vec 32) : cal P Fy [ptr g, kv b] w fun r w' => ∃ k, ID t (svM S) k ∧ r = .bool (under t N k b) ∧ Fr [] w w' := by
  refine NG fun R hR => ?_
  unfold IA
  refine bxQ (Sep.start w) fun g3 w1 hs1 => ?_
  refine A0 hs1 fun w2 hs2 _ => ?_
  refine Cl (Af (Dj (hs2.to hr)) ?_)
  rintro _ _ ⟨rfl, rfl⟩
  refine ⟨fun u => Sep w u _, hs2, ?_⟩
  try simp only [fx, Nat.reduceAdd, forall_const]
  refine Bu ?_
  refine AF (v := ptr gt) (fun u hu K hk => (hu.to hr).ldt K hk) ?_
  refine ⟨kv b, fun u hu => (Ai hu.blk _).mpr rfl, ?_⟩
  refine AL (Af (K4 hi (hs2.to hr)) ?_)
  rintro _ w3 ⟨k, hk, rfl, hf3⟩
  have hs3 := hs2.old hf3
  refine ⟨hs3, ?_⟩
  refine AL (Af (Nj (hs3.to hr).tr hi.tm.w k b) ?_)
  rintro _ w4 ⟨rfl, hf4⟩
  have hs4 := hs3.old hf4
  refine ⟨hs4, ?_⟩
  try simp only [fx, Nat.reduceAdd, forall_const]
  exact hR _ _ ⟨k, hk, rfl, hs4.fr0⟩
def SnR (S : SM) (k : Vec 32) (w : World) (r : Value) (w' : World) : Prop := ∃ v, r = .tuple #[snv v ((S k).getD snZ), .int .i64 (if (S k).isSome then 0 else 4)] ∧ Sep w w' [rows Ab v ((S k).getD snZ).l]
theorem Vg (hi : TpI p m t N (svM S)) (hr : ToR w.heap g gt gm gs ov p t N c S) (k : Vec 32) : cal P FM [ptr g, kv k] w (SnR (svM S) k w) := by
  refine Ug fun R hR => ?_
  unfold LC
  refine bxQ (Sep.start w) fun g3 w1 hs1 => ?_
  refine Av hs1 (Bo w1) fun g4 w2 hs2 => ?_
  refine Af (Dj (hs2.to hr)) ?_
  rintro _ _ ⟨rfl, rfl⟩
  try simp only [fx, Nat.reduceAdd, forall_const]
  refine A0 hs2 fun w3 hs3 _ => ?_
  refine AF (v := .map (some gs)) (fun u hu K hk => (hu.to hr).lds K hk) ?_
  refine ⟨kv k, fun u hu => (Ai (Sep.blk hu.p1) _).mpr rfl, ?_⟩
  refine ⟨.tuple #[(svF S k).getD (snv (.slice none 0 0) snZ), .bool (svF S k).isSome], fun u hu => ((hu.to hr).look k _).mpr rfl, ?_⟩
  rw [RB, Wm]
  try simp only [fx, Nat.reduceAdd, forall_const]
  refine AL (Av hs3 (Bo w3) fun g5 w4 hs4 => ⟨hs4.tail, ?_⟩)
  refine A9 (AJ (b := snr (svD S k).1 (svD S k).2) hs4 (AD ((hs4.to hr).rwD k).one1) fun w5 hs5 => ?_)
  try simp only [fx, Nat.reduceAdd, forall_const]
  rw [Aj]
  refine ⟨fun h => ?_, fun h => ?_⟩
  · have hn : svM S k = none := by
      unfold svM
      cases hq : S k with
      | none => rfl
      | some q => rw [hq] at h; cases h
    rw [Ce]
    refine AJ hs5.p1 (AD rfl) fun w6 hs6 => ?_
    simp only [Ar hs6.blk, Ad hs6.blk, Ae hs6.blk, Ac hs6.blk, Ag hs6.blk, Ah hs6.blk]
    refine hR _ _ ⟨.slice none 0 0, by rw [hn]; rfl, ?_⟩
    rw [hn]
    exact (Sep.nilR hs6).d1.d1.d1
  · obtain ⟨q, hq⟩ : ∃ q, S k = some q := by
      cases hq : S k with
      | none => rw [hq] at h; cases h
      | some q => exact ⟨q, rfl⟩
    have hx : svM S k = some (svD S k).2 := by unfold svM svD; rw [hq]; rfl
    have hl : (svD S k).2.l.length ≤ 1000000 := by have := (hi.may k _ hx).n2; omega
    simp only [Ar hs5.blk, Ad hs5.blk, Ae hs5.blk, Ac hs5.blk, Ag hs5.blk, Ah hs5.blk]
    refine BX CR E5 (by simp) hs5.nilR ((hs5.to hr).rwD k) (PV _) (by simp; omega) (by simp; omega) fun v6 w6 hs6 => ?_
    rw [List.nil_append] at hs6
    refine Ep hs6.p1 hs6.oneR fun w7 hs7 => ?_
    simp only [Ar hs7.blk, Ad hs7.blk, Ae hs7.blk, Ac hs7.blk, Ag hs7.blk, Ah hs7.blk]
    refine AJ hs7.p2 (AD (Sep.oneR hs7.p1)) fun w8 hs8 => ?_
    simp only [Ar hs8.blk, Ad hs8.blk, Ae hs8.blk, Ac hs8.blk, Ag hs8.blk, Ah hs8.blk]
    refine hR _ _ ⟨v6, by rw [hx]; rfl, ?_⟩
    rw [hx]
    exact hs8.p2.d1.d1.d1
end
end Go.Fx
namespace Go.Fx
structure AC where
  poll : Bool
  k : Nat
  d : List UInt8
  dv : Value
  fs : List (Nat × Int)
  fv : Value
def AC.t (x : AC) : Bool × Int × Value × Value := (x.poll, (x.k : Int), x.dv, x.fv)
def forT (f : Nat × Int) : Int × Int := ((f.1 : Int), f.2)
abbrev acV (x : AC) : Value := .agg (Rdr.cells AM x.t).toArray
structure ARd (h : Heap) (x : AC) : Prop where
  d : RdB h x.dv x.d
  f : AB Bf h x.fv (x.fs.map forT)
structure JE (h : Heap) (v : Value) (l : List AC) : Prop where
  rw : AB AM h v (l.map AC.t)
  d : ∀ x ∈ l, ARd h x
theorem ARd.fr {w w' : World} {x : AC} (h : ARd w.heap x) (hf : Fr [] w w') : ARd w'.heap x := ⟨h.d.fr hf (D8 _), h.f.fr hf⟩
theorem JE.fr {w w' : World} {v : Value} {l : List AC} (h : JE w.heap v l) (hf : Fr [] w w') : JE w'.heap v l := ⟨h.rw.fr hf, fun x hx => (h.d x hx).fr hf⟩
theorem JE.len {h : Heap} {v : Value} {l : List AC} (hr : JE h v l) (K : Value → Prop) : lenS v K = K (.int .i64 l.length) := by
  have := hr.rw.len K
  rwa [List.length_map] at this
def AOk1 (x : AC) : Prop := x.k < 256 ∧ x.d.length ≤ 9223372036854775807 ∧ x.fs.length ≤ 9223372036854775807 ∧ ∀ f ∈ x.fs, f.1 < 256 ∧ -9223372036854775808 ≤ f.2 ∧ f.2 ≤ 9223372036854775807
theorem AbG {h : Heap} {s : Sl (Bool × Nat × Sl UInt8 × Sl (Nat × Int))} (hs : (rSl DP).ok h s) : ∃ l : List AC, JE h s.v l ∧ Zw s.v ∧ l.length ≤ 9223372036854775807 ∧ ∀ x ∈ l, AOk1 x := by
  obtain ⟨h1, h2, h3, h4⟩ := hs
  have eF : ∀ fs : List (Nat × Int), fs.flatMap HF.cells = (fs.map forT).flatMap Bf.cells := fun fs => by
    induction fs with
    | nil => rfl
    | cons a l ih => rw [List.flatMap_cons, ih]; rfl
  refine ⟨s.l.map fun x => ⟨x.1, x.2.1, x.2.2.1.l, x.2.2.1.v, x.2.2.2.l, x.2.2.2.v⟩, ⟨?_, fun x hx => ?_⟩, h3, by simpa using h2, fun x hx => ?_⟩
  · have e : s.l.flatMap DP.cells = ((s.l.map fun x => (⟨x.1, x.2.1, x.2.2.1.l, x.2.2.1.v, x.2.2.2.l, x.2.2.2.v⟩ : AC)).map AC.t).flatMap AM.cells := by
      generalize s.l = l
      induction l with
      | nil => rfl
      | cons a l ih => rw [List.flatMap_cons, ih]; rfl
    unfold AB
    rw [e] at h1
    simp only [List.length_map] at h1 ⊢
    exact h1
  · obtain ⟨y, hy, rfl⟩ := List.mem_map.1 hx
    obtain ⟨o1, o2, o3, o4⟩ := h4 y hy
    refine ⟨o3.1, ?_⟩
    have o5 := o4.1
    unfold AB
    rw [eF] at o5
    simp only [List.length_map]
    exact o5
  · obtain ⟨y, hy, rfl⟩ := List.mem_map.1 hx
    obtain ⟨o1, o2, o3, o4⟩ := h4 y hy
    exact ⟨o2, o3.2.1, o4.2.1, fun f hf => ⟨(o4.2.2.2 f hf).1, Go.bounds_i64 (o4.2.2.2 f hf).2⟩⟩
def AfS (l : List AC) : Prop := ∀ x ∈ l, x.d.length ≤ 1000 ∧ x.fs.length ≤ 20
theorem Vp {w : World} {q : Par × Vec 32 × Int × Int} {v : Value} {l : List AC} (hr : JE w.heap v l) (hcap : Zw v) (h63 : l.length ≤ 9223372036854775807) (hok : ∀ x ∈ l, AOk1 x) :
    cal P JA [.agg (Rdr.cells AU q).toArray, v] w fun r w' => Fr [] w w' ∧ ∃ t, r = .bool t ∧ (t = true → l.length ≤ 50 ∧ AfS l) := by
  refine AcE fun R hR => ?_
  unfold S4
  refine bxQ (Sep.start w) fun g2 w0 hs0 => ?_
  have hq : ∃ a c, v = .slice a l.length c ∧ l.length ≤ c := by
    obtain ⟨a, c, hv, _⟩ := hr.rw
    rw [List.length_map] at hv
    exact ⟨a, c, hv, hcap _ _ _ hv⟩
  obtain ⟨a, c, hv, hc⟩ := hq
  simp only [hr.len, RV]
  obtain ⟨n, hn⟩ : ∃ n : Nat, n = min l.length 80 := ⟨_, rfl⟩
  have e1 : min (l.length : Int) 80 = (n : Int) := by omega
  rw [e1]
  have hnl : n ≤ l.length := by omega
  have hrt : JE w.heap (.slice a n c) (l.take n) := by
    refine ⟨?_, fun x hx => hr.d x (List.mem_of_mem_take hx)⟩
    have := hr.rw
    rw [hv] at this
    have h2 := AB.take this (k := n) (by simpa using hnl) c
    rwa [← List.map_take] at h2
  rw [hv, Rq (by omega)]
  have hlt : (l.take n).length = n := by rw [List.length_take]; omega
  have h5 := hrt.len
  rw [hlt] at h5
  have h6 := hr.len
  rw [hv] at h6
  simp only [h5]
  refine ⟨fun y z => ∃ i : Nat, y = .int .i64 i ∧ i ≤ n ∧ Sep w z [blk g2 (Rdr.cells AU q).toArray Cr] ∧ AfS (l.take i), fun y _ => (n - RowKit.intOf y).toNat, ⟨0, rfl, by omega, hs0, fun x hx => by simp at hx⟩, ?_⟩
  rintro _ w1 ⟨i, rfl, hi, hs1, hsm⟩ -
  try simp only [fx, Nat.reduceAdd, forall_const]
  rw [Aj]
  refine ⟨fun h => ?_, fun h => ?_⟩
  · have hlt : i < n := by simp at h; omega
    obtain ⟨x, hx⟩ : ∃ x, (l.take n)[i]? = some x := ⟨_, List.getElem?_eq_getElem (by omega)⟩
    have hxm := List.mem_of_mem_take (List.mem_of_getElem? hx)
    have hxm' : ((l.take n).map AC.t)[i]? = some x.t := by rw [List.getElem?_map, hx]; rfl
    have hxl : l[i]? = some x := by
      have hx' := hx
      rw [List.getElem?_take, if_pos hlt] at hx'
      exact hx'
    change ixs 4 _ _ _
    refine AB.ldN (q := AM) (by decide) (hrt.rw.fr hs1.fr0) hxm' .i64 ?_
    refine Av hs1 (HK w1) fun g w2 hs2 => ?_
    have hd := hr.fr hs2.fr0
    refine GS hs2 (Gx (hd.d x hxm).d.one (AB.one1 (hd.d x hxm).f)) fun w3 hs3 => ?_
    have hd3 := (hr.fr hs3.fr0).d x hxm
    have l1 : ∀ K, lenS (AC.t x).2.2.1 K = K (.int .i64 x.d.length) := hd3.d.len
    have l2 : ∀ K, lenS (AC.t x).2.2.2 K = K (.int .i64 x.fs.length) := fun K => by have := hd3.f.len K; rwa [List.length_map] at this
    simp only [Cu hs3.blk, Ck hs3.blk, CI hs3.blk, B4 hs3.blk, Cb hs3.blk, l1, l2, fx, Nat.reduceAdd, forall_const]
    rw [Aj]
    refine ⟨fun h => hR _ _ ⟨hs3.fr0, false, rfl, fun h => by cases h⟩, fun h => ?_⟩
    rw [wi64 (by omega) (by omega)]
    refine ⟨⟨i + 1, by simp, by omega, hs3.tail, ?_⟩, by simp [RowKit.intOf]; omega⟩
    have hx2 : x.d.length ≤ 1000 ∧ x.fs.length ≤ 20 := by
      simp at h
      omega
    rw [List.take_add_one, hxl]
    intro y hy
    rcases List.mem_append.1 hy with hy | hy
    · exact hsm y hy
    · have : y = x := by simpa using hy
      rw [this]; exact hx2
  · have hge : i = n := by simp at h; omega
    simp only [Cf (Sep.blk hs1), BW (Sep.blk hs1), BP (Sep.blk hs1), Bp (Sep.blk hs1), Bq (Sep.blk hs1), BA (Sep.blk hs1), BK (Sep.blk hs1), Bz (Sep.blk hs1), BJ (Sep.blk hs1)]
    try simp only [fx, Nat.reduceAdd, forall_const]
    refine hR _ _ ⟨hs1.fr0, _, rfl, fun h => ?_⟩
    have h40 : l.length ≤ 50 := by simp at h; omega
    rw [hge, List.take_of_length_le (by omega)] at hsm
    exact ⟨h40, hsm⟩
end Go.Fx
namespace Go.Fx
structure NmR (h : Heap) (gx o : Nat) (ids : List (Vec 32)) (hs : List Int) : Prop where
  cell : ∃ cur T fr x y, h[gx]? = some (.cells cur T fr) ∧ cur[o]? = some x ∧ cur[o + 1]? = some y ∧ AB (rVec 32) h x ids ∧ AB (rInt .i64) h y hs
theorem NmR.fr {w w' : World} {gx o : Nat} {ids : List (Vec 32)} {hs : List Int} (h : NmR w.heap gx o ids hs) (hf : Fr [] w w') : NmR w'.heap gx o ids hs := by
  obtain ⟨cur, T, fr, x, y, h1, h2, h3, h4, h5⟩ := h.cell
  exact ⟨cur, T, fr, x, y, hf.blk h1 (by simp), h2, h3, h4.fr hf, h5.fr hf⟩
def bN (ids : List (Vec 32)) (hs : List Int) (x : AC) : Blk := ⟨ids.getD (x.k % ids.length) (vz 32), min (hs.getD (x.k % ids.length) 0) 4611686018427387904 + 1, x.d⟩
theorem bN_h {ids : List (Vec 32)} {hs : List Int} {x : AC} : (bN ids hs x).h ≤ maxI := by
  show min (hs.getD (x.k % ids.length) 0) 4611686018427387904 + 1 ≤ maxI
  unfold maxI
  omega
def vB19 (n : Nat) : Vec 32 := ⟨UInt8.ofNat n :: List.replicate 31 0, by simp⟩
theorem AiK {w : World} (b : UInt8) (K : Value → Prop) : rdP P (Instr.build Aa #[(0, .int .u8 b.toNat)]) w K = K (kv (⟨b :: List.replicate 31 0, by simp⟩ : Vec 32)) := Cx (r := rVec 32) (a := (⟨b :: List.replicate 31 0, by simp⟩ : Vec 32)) (by kernel_rfl) K
theorem Ah8 {w : World} {n : Nat} (hn : n < 256) (K : Value → Prop) : rdP P (Instr.build Aa #[(0, .int .u8 n)]) w K = K (kv (vB19 n)) := by
  have e : ((UInt8.ofNat n).toNat : Int) = (n : Int) := by
    rw [UInt8.toNat_ofNat']
    omega
  have := AiK (w := w) (UInt8.ofNat n) K
  rw [e] at this
  exact this
def vId (ids : List (Vec 32)) (f : Nat × Int) : Vec 32 := if 200 < f.1 then vB19 f.1 else ids.getD (f.1 % ids.length) (vz 32)
noncomputable def E4 (ids : List (Vec 32)) : List (Nat × Int) → List Vt → List Vt
  | [], V => V
  | f :: fs, V => if (addB V (vId ids f) f.2).2 ≠ 0 ∨ 1000 < f.2 then [(vId ids f, f.2), (vId ids f, 1)] else E4 ids fs (addB V (vId ids f) f.2).1
theorem ZJ (V : List Vt) (k : Vec 32) (n : Int) : (addB V k n).1.length ≤ V.length + 1 := by
  unfold addB
  split
  · simp
  · split
    · simp
    · split
      · simp
      · exact Agz V k n
theorem Wy (ids : List (Vec 32)) : ∀ (fs : List (Nat × Int)) (V : List Vt), (E4 ids fs V).length ≤ V.length + fs.length + 2
  | [], V => by unfold E4; simp
  | f :: fs, V => by
    unfold E4
    split
    · simp
    · have := Wy ids fs (addB V (vId ids f) f.2).1
      have := ZJ V (vId ids f) f.2
      simp only [List.length_cons]
      omega
section
variable {w0 w w' : World} {As : List Asn} {gx o : Nat} {ids : List (Vec 32)} {hs : List Int} {x : AC}
theorem NmR.ldx {h : Heap} {gx o : Nat} (hr : NmR h gx o ids hs) : ∃ iv hv, (∀ K : Value → Prop, K iv → ld1 (.pointer (some ⟨gx, o, none⟩)) h K) ∧ (∀ K : Value → Prop, K hv → ld1 (.pointer (some ⟨gx, o + 1, none⟩)) h K) ∧ AB (rVec 32) h iv ids ∧ AB (rInt .i64) h hv hs := by
  obtain ⟨cur, T, fr, x, y, h1, h2, h3, h4, h5⟩ := hr.cell
  exact ⟨x, y, fun K hk => Co h1 h2 hk, fun K hk => Co h1 h3 hk, h4, h5⟩
theorem NmR.ldx' (hr : NmR w.heap gx o ids hs) : ∃ iv hv, (∀ z, Fr [] w z → ∀ K : Value → Prop, K iv → ld1 (.pointer (some ⟨gx, o, none⟩)) z.heap K) ∧ (∀ z, Fr [] w z → ∀ K : Value → Prop, K hv → ld1 (.pointer (some ⟨gx, o + 1, none⟩)) z.heap K) ∧ AB (rVec 32) w.heap iv ids ∧ AB (rInt .i64) w.heap hv hs := by
  obtain ⟨cur, T, fr, x, y, h1, h2, h3, h4, h5⟩ := hr.cell
  exact ⟨x, y, fun z hf K hk => Co (hf.blk h1 (by simp)) h2 hk, fun z hf K hk => Co (hf.blk h1 (by simp)) h3 hk, h4, h5⟩
theorem S3 (hr : NmR w.heap gx o ids hs) (hl : hs.length = ids.length) (h0 : 0 < ids.length) (hn : ids.length ≤ 1000000) (hp : ∀ y ∈ hs, 0 ≤ y) (hx : ARd w.heap x) (hk : AOk1 x) :
    cal P EM [.pointer (some ⟨gx, o, none⟩), acV x] w fun r w' => r = bq (bN ids hs x) x.dv ∧ Fr [] w w' := by
  obtain ⟨iv, hv, ldi, ldh, hi, hh⟩ := hr.ldx'
  refine Pp fun R hR => ?_
  unfold I7
  refine bxQ (Sep.start w) fun g3 w1 hs1 => ?_
  refine Av hs1 (BF w1) fun g4 w2 hs2 => ?_
  refine CT hs2 fun w3 hs3 _ => ?_
  simp only [fx, Nat.reduceAdd, forall_const, Cu (Sep.blk (Sep.p1 hs3)), Ck (Sep.blk (Sep.p1 hs3)), CI (Sep.blk (Sep.p1 hs3)), B4 (Sep.blk (Sep.p1 hs3)), Cb (Sep.blk (Sep.p1 hs3))]
  refine ldi _ hs3.fr0 _ ?_
  have ek : (AC.t x).2.1 = (x.k : Int) := rfl
  have hlen : ∀ K, lenS iv K = K (.int .i64 ids.length) := hi.len
  have hk1 := hk.1
  rw [ek, wi64 (by omega) (by omega), hlen, Nx _ _ _ _ (by omega), tmodn]
  have hlt := Nat.mod_lt x.k h0
  obtain ⟨a, ha⟩ : ∃ a, ids[x.k % ids.length]? = some a := ⟨_, List.getElem?_eq_getElem hlt⟩
  obtain ⟨y, hy⟩ : ∃ y, hs[x.k % ids.length]? = some y := ⟨_, List.getElem?_eq_getElem (by omega)⟩
  have hy0 := hp y (List.mem_of_getElem? hy)
  refine A0 hs3 fun w4 hs4 _ => ?_
  try simp only [fx, Nat.reduceAdd, forall_const]
  refine AF (v := iv) (fun u hu K hk => ldi u hu.fr0 K hk) ?_
  refine LE (q := rVec 32) (by decide) hs4 (fun u hu => hi.fr (Sep.fr0 hu)) ha .i64 ?_
  refine AF (v := hv) (fun u hu K hk => ldh u hu.fr0 K hk) ?_
  refine Agk hs4 (fun u hu => hh.fr (Sep.fr0 hu)) hy .i64 ?_
  refine ⟨.int .i64 (min y 4611686018427387904), fun u hu => by rw [RV], ?_⟩
  try simp only [fx, Nat.reduceAdd, forall_const]
  rw [wi64 (by omega) (by omega)]
  refine AF (v := x.dv) (fun u hu K hk => (B4 (Sep.blk (Sep.p1 hu)) K).mpr hk) ?_
  refine ⟨bq ⟨a, min y 4611686018427387904 + 1, x.d⟩ x.dv, fun u hu => by rw [KJ hx.d.one], ?_⟩
  refine A9 (Bm (b := (a, min y 4611686018427387904 + 1, x.dv)) hs4 (Bh hx.d.one) fun w5 hs5 => ?_)
  simp only [AA hs5.blk, Am hs5.blk, Ap hs5.blk, Ay hs5.blk]
  refine hR _ _ ⟨?_, hs5.fr0⟩
  unfold bN
  rw [List.getD_eq_getElem?_getD, ha, List.getD_eq_getElem?_getD, hy]
  rfl
theorem Aco (hr : NmR w.heap gx o ids hs) (h0 : 0 < ids.length) (hn : ids.length ≤ 1000000) (hx : ARd w.heap x) (hk : AOk1 x) (hl : x.fs.length ≤ 1000) :
    cal P Gy [.pointer (some ⟨gx, o, none⟩), acV x] w fun r w' => Sep w w' [rows Au r (E4 ids x.fs [])] := by
  obtain ⟨iv, hv, ldi, ldh, hi, hh⟩ := hr.ldx'
  refine O7 fun R hR => ?_
  unfold I9
  refine bxQ (Sep.start w) fun g3 w1 hs1 => ?_
  have lf : ∀ K, lenS (AC.t x).2.2.2 K = K (.int .i64 x.fs.length) := fun K => by have := hx.f.len K; rwa [List.length_map] at this
  simp only [fx, Nat.reduceAdd, forall_const, Cu (Sep.blk hs1), Ck (Sep.blk hs1), CI (Sep.blk hs1), B4 (Sep.blk hs1), Cb (Sep.blk hs1)]
  rw [lf]
  have hf2 : (AC.t x).2.2.2 = x.fv := rfl
  rw [hf2]
  refine ⟨fun a b z => ∃ (i : Nat) (V : List Vt), b = .int .i64 i ∧ i ≤ x.fs.length ∧ E4 ids x.fs [] = E4 ids (x.fs.drop i) V ∧ V.length ≤ i ∧ Sep w z [rows Au a V, blk g3 (Rdr.cells AM x.t).toArray Be], fun _ b _ => (x.fs.length - RowKit.intOf b).toNat, ⟨0, [], rfl, by omega, rfl, by simp, Sep.nilR hs1⟩, ?_⟩
  rintro a _ z ⟨i, V, rfl, hi2, hV, hVl, hz⟩ -
  try simp only [fx, Nat.reduceAdd, forall_const]
  rw [Aj]
  refine ⟨fun h => ?_, fun h => ?_⟩
  case refine_2 =>
    have hge : i = x.fs.length := by simp at h; omega
    rw [hge, List.drop_length] at hV
    refine hR _ _ ?_
    rw [hV]
    exact hz.d1
  have hlt : i < x.fs.length := by simp at h; omega
  obtain ⟨f, hf⟩ : ∃ f, x.fs[i]? = some f := ⟨_, List.getElem?_eq_getElem hlt⟩
  have hfm := List.mem_of_getElem? hf
  obtain ⟨f1, f2, f3⟩ := hk.2.2.2 f hfm
  have hf' : (x.fs.map forT)[i]? = some (forT f) := by rw [List.getElem?_map, hf]; rfl
  have hdr : x.fs.drop i = f :: x.fs.drop (i + 1) := by
    have h := List.getElem?_eq_some_iff.1 hf
    rw [← h.2, List.getElem_cons_drop]
  change ixs 2 _ _ _
  refine AB.ldN (q := Bf) (by decide) (hx.f.fr hz.fr0) hf' .i64 ?_
  refine Av hz (SF z) fun g7 z1 hz1 => ?_
  refine P6 (b := forT f) hz1 Pk fun z2 hz2 => ?_
  have e1 : (forT f).1 = (f.1 : Int) := rfl
  have e2 : (forT f).2 = f.2 := rfl
  have hlen : ∀ K, lenS iv K = K (.int .i64 ids.length) := hi.len
  have hm := Nat.mod_lt f.1 h0
  obtain ⟨b, hb⟩ : ∃ b, ids[f.1 % ids.length]? = some b := ⟨_, List.getElem?_eq_getElem hm⟩
  refine A0 hz2 fun z3 hz3 _ => ?_
  try simp only [fx, Nat.reduceAdd, forall_const]
  refine AF (v := iv) (fun u hu K hk => ldi u hu.fr0 K hk) ?_
  refine AF (v := .int .u8 f.1) (fun u hu K hk => (Eu (Sep.blk hu) K).mpr hk) ?_
  try simp only [fx, Nat.reduceAdd, forall_const]
  rw [wi64 (by omega) (by omega)]
  refine AF (v := iv) (fun u hu K hk => ldi u hu.fr0 K hk) ?_
  rw [hlen, Nx _ _ _ _ (by omega), tmodn]
  refine LE (q := rVec 32) (by decide) hz3 (fun u hu => hi.fr (Sep.fr0 hu)) hb .i64 ?_
  refine AL (Av hz3 (AS z3) fun g8 z4 hz4 => ⟨hz4.tail, ?_⟩)
  refine A9 (AE (b := b) hz4 fun z5 hz5 => ?_)
  have hvid : vId ids f = if 200 < f.1 then vB19 f.1 else b := by
    unfold vId
    rw [List.getD_eq_getElem?_getD, hb]
    rfl
  refine ⟨fun u => Sep w u [blk g8 (Rdr.cells (rVec 32) (vId ids f)).toArray Aa, blk g7 (Rdr.cells Bf (forT f)).toArray CO, rows Au a V, blk g3 (Rdr.cells AM x.t).toArray Be], ?_, ?_⟩
  · simp only [fx, Nat.reduceAdd, forall_const, Hz (Sep.blk hz5.p1), Eu (Sep.blk hz5.p1), FK (Sep.blk hz5.p1)]
    rw [e1, Aj]
    refine ⟨fun h2 => ?_, fun h2 => ?_⟩
    · have h2 : 200 < f.1 := by simp at h2; omega
      rw [Ah8 f1]
      refine AE (b := vB19 f.1) hz5 fun z6 hz6 => ?_
      rw [hvid, if_pos h2]
      exact hz6
    · have h2 : ¬ 200 < f.1 := by simp at h2; omega
      rw [hvid, if_neg h2]
      exact hz5
  rintro z6 hz6 _
  obtain ⟨a0, c0, rfl, hc0⟩ := (Sep.pick hz6 [2] 3).formR
  simp only [fx, Nat.reduceAdd, forall_const, Ai (Sep.blk hz6), Hz (Sep.blk hz6.p1), Eu (Sep.blk hz6.p1), FK (Sep.blk hz6.p1)]
  rw [e2]
  refine Af (Ai1 (Sep.rows (Sep.pick hz6 [2] 3)) hc0 (vId ids f) f.2 (by omega) f3) ?_
  rintro _ z7 ⟨v7, rfl, hz7⟩
  replace hz7 := hz6.join hz7
  obtain ⟨E, hE⟩ : ∃ E, E = addB V (vId ids f) f.2 := ⟨_, rfl⟩
  have hEl : E.1.length ≤ V.length + 1 := by rw [hE]; exact ZJ V _ _
  rw [← hE] at hz7 ⊢
  simp only [fx, Nat.reduceAdd, forall_const, Ai (Sep.blk (Sep.pick hz7 [1] 2)), Hz (Sep.blk (Sep.pick hz7 [2] 3)), Eu (Sep.blk (Sep.pick hz7 [2] 3)), FK (Sep.blk (Sep.pick hz7 [2] 3))]
  rw [e2]
  try simp only [fx, Nat.reduceAdd, forall_const]
  have hstep : E4 ids x.fs [] = if E.2 ≠ 0 ∨ 1000 < f.2 then [(vId ids f, f.2), (vId ids f, 1)] else E4 ids (x.fs.drop (i + 1)) E.1 := by
    rw [hV, hdr, E4, ← hE]
  rw [Aj]
  refine ⟨fun h2 => ?_, fun h2 => ?_⟩
  · have h2 : E.2 ≠ 0 ∨ 1000 < f.2 := by simpa using h2
    rw [if_pos h2] at hstep
    rw [Hj, Hj]
    refine CQ (q := Au) (l := [((vId ids f, f.2) : Vt), (vId ids f, 1)]) (V := fun c => .agg (Rdr.cells Au c).toArray) hz7 DT (fun a => rfl) rfl rfl (by decide) (by decide) fun g9 z8 hz8 => ?_
    refine hR _ _ ?_
    rw [hstep]
    exact Sep.pick hz8 [0] 6
  · have h2 : ¬ (E.2 ≠ 0 ∨ 1000 < f.2) := by simpa using h2
    rw [if_neg h2] at hstep
    rw [wi64 (by omega) (by omega)]
    refine ⟨⟨i + 1, E.1, by simp, by omega, hstep, by omega, Sep.pick hz7 [0, 4] 5⟩, by simp [RowKit.intOf] <;> omega⟩
end
end Go.Fx
namespace Go.Fx
def cF (t : Tr) (N : List TN) (V : List Vt) (k : Vec 32) (F : Vec 32 → Option Value) : Vec 32 → Option Value := fun q => if under t N q k = true then some (.int .i64 (cntT t N V q)) else F q
def cFs (t : Tr) (N : List TN) (V : List Vt) (l : List (Vec 32)) (F : Vec 32 → Option Value) : Vec 32 → Option Value := fun q => if l.any (fun k => under t N q k) = true then some (.int .i64 (cntT t N V q)) else F q
theorem AhH (t : Tr) (N : List TN) (V : List Vt) (F : Vec 32 → Option Value) : cFs t N V [] F = F := by
  funext q
  simp [cFs]
theorem Agq (t : Tr) (N : List TN) (V : List Vt) (l : List (Vec 32)) (k : Vec 32) (F : Vec 32 → Option Value) : cF t N V k (cFs t N V l F) = cFs t N V (l ++ [k]) F := by
  funext q
  unfold cF cFs
  by_cases h1 : under t N q k = true <;> by_cases h2 : l.any (fun k => under t N q k) = true <;> simp [h1, h2]
theorem AfO {t : Tr} {N : List TN} (hw : TrW t N) (hn : (nms N).Nodup) {k q : Vec 32} (hk : has t N k = true) : under t N q k = (decide (q = k) || (Bk t N k).any fun x => under t N q x) := by
  by_cases hq : has t N q = true
  case neg =>
    have h1 : ∀ c, under t N q c = false := fun c => by
      cases h : under t N q c with
      | false => rfl
      | true => exact absurd (CC h).1 hq
    rw [h1, decide_eq_false fun he : q = k => hq (he ▸ hk)]
    simp [h1]
  refine Ik hw (C := fun q => under t N q k = (decide (q = k) || (Bk t N k).any fun x => under t N q x)) ?_ (fun q hq hr ih => ?_) q hq
  · rw [DG]
    have : ((Bk t N k).any fun x => under t N t.root x) = false := by
      rw [List.any_eq_false]
      intro x hx
      rw [DG, decide_eq_false ((C3 hw hn).1 hx).2.2.1]
      simp
    rw [this, Bool.or_false]
    exact decide_eq_decide.2 eq_comm
  · rw [C4 hw hq hr, ih]
    have e : ((Bk t N k).any fun x => under t N q x) = (decide (upOf q N = k) || (Bk t N k).any fun x => under t N (upOf q N) x) := by
      have e2 : ∀ x, under t N q x = (decide (q = x) || under t N (upOf q N) x) := fun x => C4 hw hq hr
      rw [show (fun x => under t N q x) = fun x => (decide (q = x) || under t N (upOf q N) x) from funext e2]
      by_cases h : upOf q N = k
      · rw [decide_eq_true h, Bool.true_or, List.any_eq_true]
        exact ⟨q, (C3 hw hn).2 ⟨hk, hq, hr, h⟩, by simp⟩
      · rw [decide_eq_false h, Bool.false_or, Bool.eq_iff_iff, List.any_eq_true, List.any_eq_true]
        constructor
        · rintro ⟨x, hx, hu⟩
          refine ⟨x, hx, ?_⟩
          simp only [Bool.or_eq_true, decide_eq_true_eq] at hu
          rcases hu with hu | hu
          · exact absurd (hu ▸ ((C3 hw hn).1 hx).2.2.2) h
          · exact hu
        · rintro ⟨x, hx, hu⟩
          exact ⟨x, hx, by rw [hu]; simp⟩
    rw [e]
theorem AiZ {t : Tr} {N : List TN} (hw : TrW t N) (hn : (nms N).Nodup) (V : List Vt) {k : Vec 32} (hk : has t N k = true) (F : Vec 32 → Option Value) : updF (cFs t N V (Bk t N k) F) k (.int .i64 (cntT t N V k)) = cF t N V k F := by
  funext q
  unfold updF cF cFs
  rw [AfO hw hn hk]
  by_cases h : q = k
  · subst h; simp
  · rw [if_neg h, decide_eq_false h, Bool.false_or]
theorem S6 {l : List (Vec 32)} {f : Vec 32 → Int} (h : ∀ k, 0 ≤ f k) (i : Nat) : 0 ≤ ((l.take i).map f).sum ∧ ((l.take i).map f).sum ≤ (l.map f).sum := by
  have h0 : ∀ l : List (Vec 32), 0 ≤ (l.map f).sum := fun l => by
    have := Aba l (fun _ => (0 : Int)) f fun x _ => h x
    rwa [Fg l (fun _ => (0 : Int)) fun _ _ => rfl] at this
  refine ⟨h0 _, ?_⟩
  have : (l.map f).sum = ((l.take i).map f).sum + ((l.drop i).map f).sum := by
    rw [← List.sum_append, ← List.map_append, List.take_append_drop]
  have := h0 (l.drop i)
  omega
theorem AcN {V : List Vt} (h : BN V) (k : Vec 32) : 0 ≤ cntV V k := by
  unfold cntV
  cases hf : V.find? (fun v => decide (v.1 = k)) with
  | none => simp
  | some v =>
    have := h.pos v (List.mem_of_find?_eq_some hf)
    show 0 ≤ v.2
    omega
theorem TY (t : Tr) (N : List TN) (k : Vec 32) : (Bk t N k).length ≤ N.length := by
  unfold Bk
  by_cases h : has t N k = true
  · rw [if_pos h, List.length_map]
    exact List.length_filter_le ..
  · rw [if_neg h]
    exact Nat.zero_le _
theorem AeX (w : World) : (Instr.alloc CS true (.tuple #[])).run P w = .ok (.pointer (some ⟨w.heap.size, 0, none⟩)) (w.alloc (.cells #[.int .i64 0] CS)) := by kernel_rfl
theorem Ahu (w : World) : (Instr.alloc By true (.tuple #[])).run P w = .ok (.pointer (some ⟨w.heap.size, 0, none⟩)) (w.alloc (.cells #[.map none] By)) := by kernel_rfl
theorem AiD (w : World) : (Instr.alloc Es true (.tuple #[])).run P w = .ok (.pointer (some ⟨w.heap.size, 0, none⟩)) (w.alloc (.cells #[Value.nilFunc] Es)) := by kernel_rfl
abbrev upV (g2 g3 g5 g6 : Nat) : Value := .func (.func C2) #[] [ptr g3, ptr g2, ptr g6, ptr g5].toArray
abbrev CE (g2 g3 g5 g6 g gmm : Nat) (v : Value) (F : Vec 32 → Option Value) (Ls : List Asn) : List Asn :=
  blk g6 #[upV g2 g3 g5 g6] Es :: blk g5 #[.map (some gmm)] By :: blk g3 #[v] Bg :: blk g2 #[ptr g] Ic :: mpF gmm F :: Ls
section
variable {w0 w w' : World} {As : List Asn} {g gt gm gs c g2 g3 g5 g6 gmm : Nat} {ov v : Value} {p : Par} {t : Tr} {N : List TN} {S : SV} {m : Nat} {V : List Vt}
theorem U7 (hi : TM t N m) (hok : BN V) (hr : ToR w0.heap g gt gm gs ov p t N c S) (hv : AB Au w0.heap v V) (hn : N.length ≤ 1000000) (k : Vec 32) (z : World) (F : Vec 32 → Option Value) (Ls : List Asn) (hk : has t N k = true)
    (hs : Sep w0 z (CE g2 g3 g5 g6 g gmm v F Ls))
    (ih : ∀ x, x ∈ Bk t N k → ∀ (z : World) (F : Vec 32 → Option Value) (Ls : List Asn), Sep w0 z (CE g2 g3 g5 g6 g gmm v F Ls) →
      cal P C2 [kv x, ptr g3, ptr g2, ptr g6, ptr g5] z fun r z' => r = .int .i64 (cntT t N V x) ∧ Sep w0 z' (CE g2 g3 g5 g6 g gmm v (cF t N V x F) Ls)) :
    cal P C2 [kv k, ptr g3, ptr g2, ptr g6, ptr g5] z fun r z' => r = .int .i64 (cntT t N V k) ∧ Sep w0 z' (CE g2 g3 g5 g6 g gmm v (cF t N V k F) Ls) := by
  have hVl := hok.len
  have hsum := (hok.sum V.length).2
  rw [List.take_of_length_le (Nat.le_refl _)] at hsum
  have hcb := fun q => V6 (t := t) (N := N) hok q
  refine Ol fun R hR => ?_
  unfold IX
  refine bxQ hs fun g7 w1 hs1 => ?_
  refine Co (v := v) (Sep.blk (Sep.p3 hs1)) rfl ?_
  simp only [Ai hs1.blk]
  refine Af (ZS (hv.fr hs1.fr0) (by omega) k) ?_
  rintro _ w2 ⟨rfl, hf2⟩
  have hs2 := hs1.old hf2
  rw [DN, if_pos hok]
  refine Av hs2 (AeX w2) fun g8 w3 hs3 => ?_
  refine Ib hs3 (by simp) rfl fun w4 hs4 => ?_
  refine A0 hs4 fun w5 hs5 _ => ?_
  refine AF (v := ptr g) (fun u hu K hk => Co (Sep.blk (Sep.pick hu [5] 6)) rfl hk) ?_
  try simp only [fx, Nat.reduceAdd, forall_const]
  refine AF (v := ptr gt) (fun u hu K hk => (hu.to hr).ldt K hk) ?_
  refine ⟨kv k, fun u hu => (Ai (Sep.blk hu.p1) _).mpr rfl, ?_⟩
  refine BD (Af (XX (hs5.to hr).tr hn hi.nd k) ?_)
  rintro _ w6 ⟨g1, v1, rfl, hg⟩
  replace hg : Sep w5 w6 [blk g1 #[v1] Ax, rows (rVec 32) v1 (Bk t N k)] := hg
  obtain ⟨kids, hkids⟩ : ∃ l, l = Bk t N k := ⟨_, rfl⟩
  rw [← hkids] at hg ih
  have hkl : kids.length ≤ 1000000 := by
    rw [hkids]
    exact Nat.le_trans (TY t N k) hn
  have hrec : cntT t N V k = cntV V k + (kids.map (cntT t N V)).sum := by rw [hkids]; exact AhC hi.w hi.nd hok hk
  have hs6 := hs5.join hg
  have hs7 := Sep.pick hs6 [4, 5, 6, 7, 8, 2, 3, 0, 1] 9
  obtain ⟨X, hX⟩ : ∃ X : Nat → List Asn, X = fun i => CE g2 g3 g5 g6 g gmm v (cFs t N V (kids.take i) F) (blk g8 #[.int .i64 (cntV V k + ((kids.take i).map (cntT t N V)).sum)] CS :: blk g7 (Rdr.cells (rVec 32) k).toArray Aa :: blk g1 #[v1] Ax :: rows (rVec 32) v1 kids :: Ls) := ⟨_, rfl⟩
  have hX0 : Sep w0 w6 (X 0) := by
    rw [hX]
    simp only [List.take_zero, AhH, List.map_nil, List.sum_nil, Int.add_zero]
    exact hs7
  refine Ahp hX0 (UW (v := v1) (g1 := g1) hkl) (fun i z args ⟨x, _, h⟩ => by rw [h]; rfl) (fun i Bs => Bs = X i) (fun _ _ => False) rfl ?_ ?_ ?_ ?_
  · rintro i Bs Ls' z rfl hz
    rw [hX] at hz
    have h8 := Sep.pick hz [7, 8] 9
    exact ⟨⟨_, _, Sep.blk h8⟩, Sep.rows h8.tail⟩
  · rintro i _ z _ LR LB bg fin hlt rfl ⟨x, hx, rfl⟩ hz hbg hfn _
    have hxm := List.mem_of_getElem? hx
    have htk : kids.take (i + 1) = kids.take i ++ [x] := by rw [List.take_add_one, hx]; rfl
    have hst := S6 (l := kids) (f := cntT t N V) (fun q => (hcb q).1) i
    have hst2 := S6 (l := kids) (f := cntT t N V) (fun q => (hcb q).1) (i + 1)
    have hv0 := AcN hok k
    have hkb := (hcb k).2
    have hxb := hcb x
    have hsn : ((kids.take (i + 1)).map (cntT t N V)).sum = ((kids.take i).map (cntT t N V)).sum + cntT t N V x := by rw [htk]; simp
    obtain ⟨s, hsd⟩ : ∃ s, s = ((kids.take i).map (cntT t N V)).sum := ⟨_, rfl⟩
    rw [← hsd] at hst hsn
    rw [hsn] at hst2
    refine Av hz (AS z) fun g9 za hza => ?_
    simp only [List.getD_cons_zero]
    refine AE (b := x) hza fun zb hzb => ?_
    rw [← List.cons_append] at hzb
    refine hbg zb _ _ hzb fun z1 hz1 => ?_
    rw [hX] at hz1
    simp only [List.cons_append, List.nil_append] at hz1
    rw [← hsd] at hz1
    refine ⟨fun u => ∃ G, Sep w0 u (blk g9 (Rdr.cells (rVec 32) x).toArray Aa :: CE g2 g3 g5 g6 g gmm v G (blk g8 #[.int .i64 (cntV V k + s)] CS :: blk g7 (Rdr.cells (rVec 32) k).toArray Aa :: blk g1 #[v1] Ax :: rows (rVec 32) v1 kids :: (Ls ++ LB))), ⟨_, hz1.drew _⟩, ?_⟩
    refine AF (v := .int .i64 (cntV V k + s)) (fun u ⟨G, hu⟩ K hk => Co (Sep.blk (Sep.pick hu [6] 7)) rfl hk) ?_
    refine AF (v := upV g2 g3 g5 g6) (fun u ⟨G, hu⟩ K hk => Co (Sep.blk hu.p1) rfl hk) ?_
    refine ⟨kv x, fun u ⟨G, hu⟩ => (Ai (Sep.blk hu) _).mpr rfl, ?_⟩
    refine AL (WV (by kernel_rfl) (Af (ih x hxm _ _ _ (Sep.pick (hz1.drew _) [1, 2, 3, 4, 5, 0] 6)) ?_))
    rintro _ z2 ⟨rfl, hz2⟩
    refine ⟨⟨_, Sep.pick hz2 [5, 0, 1, 2, 3, 4] 6⟩, ?_⟩
    try simp only [fx, Nat.reduceAdd, forall_const]
    rw [wi64 (by omega) (by omega)]
    refine Dd (Ib (Sep.pick hz2 [6, 0, 1, 2, 3, 4, 7] 8) (by simp) rfl fun z3 hz3 => ?_)
    refine hfn z3 _ rfl ?_
    rw [hX]
    simp only [List.cons_append]
    rw [Agq, ← htk] at hz3
    rw [show cntV V k + s + cntT t N V x = cntV V k + ((kids.take (i + 1)).map (cntT t N V)).sum by rw [hsn]; omega] at hz3
    exact Sep.pick hz3 [1, 2, 3, 4, 5, 0, 6] 7
  · rintro D _ z2 rfl hz
    rw [hX] at hz
    simp only [List.take_length] at hz
    rw [← hrec] at hz
    refine .inl ⟨rfl, ?_⟩
    refine Co (v := .map (some gmm)) (Sep.blk (Sep.pick hz [2] 3)) rfl ?_
    simp only [Ai (Sep.blk (Sep.pick hz [7] 8))]
    refine Co (v := .int .i64 (cntT t N V k)) (Sep.blk (Sep.pick hz [6] 7)) rfl ?_
    refine Ae5 Il KT (Sep.pick hz [5, 0, 1, 2, 3, 4, 6, 7, 8, 9] 10) fun z3 hz3 => ?_
    rw [hkids, AiZ hi.w hi.nd V hk] at hz3
    refine Co (v := .int .i64 (cntT t N V k)) (Sep.blk (Sep.pick hz3 [6] 7)) rfl ?_
    refine Adv hz3.p1 fun z4 hz4 => hR _ _ ⟨rfl, ?_⟩
    exact Sep.pick hz4 [1, 2, 3, 4, 0] 9
  · rintro D j _ z2 hf _
    exact hf.elim
theorem ZH (hi : TM t N m) (hok : BN V) (hr : ToR w0.heap g gt gm gs ov p t N c S) (hv : AB Au w0.heap v V) (hn : N.length ≤ 1000000) :
    ∀ (d : Nat) (k : Vec 32) (z : World) (F : Vec 32 → Option Value) (Ls : List Asn), has t N k = true → m - hgt t N k ≤ d → Sep w0 z (CE g2 g3 g5 g6 g gmm v F Ls) →
      cal P C2 [kv k, ptr g3, ptr g2, ptr g6, ptr g5] z fun r z' => r = .int .i64 (cntT t N V k) ∧ Sep w0 z' (CE g2 g3 g5 g6 g gmm v (cF t N V k F) Ls) := by
  intro d
  induction d with
  | zero =>
    intro k z F Ls hk hd hs
    exact U7 hi hok hr hv hn k z F Ls hk hs fun x hx => by
      have h1 := Lf hi.w hi.nd hx
      have h2 := hi.hb x ((C3 hi.w hi.nd).1 hx).2.1
      omega
  | succ d ih =>
    intro k z F Ls hk hd hs
    exact U7 hi hok hr hv hn k z F Ls hk hs fun x hx z F Ls hz => by
      have h1 := Lf hi.w hi.nd hx
      have h2 := hi.hb x ((C3 hi.w hi.nd).1 hx).2.1
      exact ih x z F Ls ((C3 hi.w hi.nd).1 hx).2.1 (by omega) hz
theorem Ma (hi : TM t N m) (hok : BN V) (hr : ToR w.heap g gt gm gs ov p t N c S) (hv : AB Au w.heap v V) (hn : N.length ≤ 1000000) :
    cal P Ee [ptr g, v] w fun r w' => ∃ gmm, r = .map (some gmm) ∧ Sep w w' [mpF gmm (cF t N V t.root fun _ => none)] := by
  obtain ⟨a0, c0, rfl, hh⟩ := id hv
  refine Qa fun R hR => ?_
  unfold J3
  refine bx_s (Sep.start w) fun g2 w1 hs1 => ?_
  replace hs1 : Sep w w1 [blk g2 #[ptr g] Ic] := hs1
  refine bx_s hs1 fun g3 w2 hs2 => ?_
  replace hs2 : Sep w w2 (blk g3 #[.slice a0 V.length c0] Bg :: _) := hs2
  refine Adf (n := 32) hs2 fun gmm w3 hs3 => ?_
  refine Av hs3 (Ahu w3) fun g5 w4 hs4 => ?_
  refine Ib hs4 (by simp) rfl fun w5 hs5 => ?_
  refine Av hs5 (AiD w5) fun g6 w6 hs6 => ?_
  refine Ib hs6 (by simp) rfl fun w7 hs7 => ?_
  replace hs7 : Sep w w7 (blk g6 #[upV g2 g3 g5 g6] Es :: blk g5 #[.map (some gmm)] By :: mpF gmm (fun _ => none) :: blk g3 #[.slice a0 V.length c0] Bg :: blk g2 #[ptr g] Ic :: []) := hs7
  refine Co (v := ptr g) (Sep.blk (Sep.pick hs7 [4] 5)) rfl ?_
  try simp only [fx, Nat.reduceAdd, forall_const]
  refine (hs7.to hr).ldt _ ?_
  refine Af (J8 (hs7.to hr).tr) ?_
  rintro _ w8 ⟨rfl, hf8⟩
  have hs8 := hs7.old hf8
  try simp only [fx, Nat.reduceAdd, forall_const]
  refine Av hs8 (AS w8) fun g7 w9 hs9 => ?_
  refine AE hs9 fun w10 hs10 => ?_
  refine Co (v := upV g2 g3 g5 g6) (Sep.blk hs10.p1) rfl ?_
  simp only [Ai (Sep.blk hs10)]
  refine WV (by kernel_rfl) (Af (ZH hi hok hr hv hn m t.root w10 _ _ Ii (by omega) (Sep.pick hs10 [1, 2, 4, 5, 3, 0] 6)) ?_)
  rintro _ w11 ⟨rfl, hs11⟩
  refine Co (v := .map (some gmm)) (Sep.blk hs11.p1) rfl ?_
  exact hR _ _ ⟨gmm, rfl, Sep.pick hs11 [4] 6⟩
open Classical in
noncomputable def cntB (t : Tr) (N : List TN) (V : List Vt) (k : Vec 32) : Int := if BN V then cntT t N V k else 0
theorem AiN {k : Vec 32} (h : has t N k ≠ true) : cntT t N V k = 0 := by
  unfold cntT
  refine Fg _ _ fun v _ => if_neg fun hu => h (CC hu).2
theorem Ya (hw : TrW t N) {k : Vec 32} (hk : has t N k = true) : under t N k t.root = true := by
  rw [Et hk Ii]
  simp
theorem Ah6 (hw : TrW t N) (V : List Vt) (k : Vec 32) : ((cF t N V t.root fun _ => none) k).getD (.int .i64 0) = .int .i64 (cntT t N V k) := by
  unfold cF
  by_cases hk : has t N k = true
  · rw [if_pos (Ya hw hk)]; rfl
  · rw [if_neg fun hu => hk (CC hu).1, AiN hk]; rfl
theorem Ace (hi : TM t N m) (hr : ToR w.heap g gt gm gs ov p t N c S) (hv : AB Au w.heap v V) (hl : V.length ≤ 1000000) (hn : N.length ≤ 1000000) (k : Vec 32) :
    cal P HC [ptr g, v, kv k] w fun r w' => r = .int .i64 (cntB t N V k) ∧ Fr [] w w' := by
  refine Su fun R hR => ?_
  unfold Kx
  refine bxQ (Sep.start w) fun g5 w1 hs1 => ?_
  refine Af (Dj (hs1.to hr)) ?_
  rintro _ _ ⟨rfl, rfl⟩
  try simp only [fx, Nat.reduceAdd, forall_const]
  refine Bu ?_
  refine Af (LG (hv.fr hs1.fr0) (by omega)) ?_
  rintro _ w2 ⟨rfl, hf2⟩
  have hs2 := hs1.old hf2
  try simp only [fx, Nat.reduceAdd, forall_const]
  rw [Aj]
  refine ⟨fun h => ?_, fun h => ?_⟩
  · have hb : ¬ BN V := fun hb => by rw [Hg hb] at h; cases h
    exact hR _ _ ⟨by rw [cntB, if_neg hb], hs2.fr0⟩
  · have hb : BN V := GK.1 (by simpa using h)
    have look : ∀ {z : World} {gmm : Nat} {K : Value → Prop}, Sep w z [mpF gmm (cF t N V t.root fun _ => none), blk g5 (Rdr.cells (rVec 32) k).toArray Aa] → K (.int .i64 (cntT t N V k)) → rdP P (Instr.lookup By (.map (some gmm)) (kv k) false) z K := fun {z gmm K} hz hk => by
      rw [WI Il KT zInt (Abg hz) k, Ah6 hi.w]
      exact hk
    refine A0 hs2 fun w3 hs3 _ => ?_
    refine ⟨fun v z => v = .int .i64 (cntT t N V k) ∧ Fr [] w z, ⟨?_, ?_, trivial⟩, ?_⟩
    · refine Cl (Af (Ma hi hb (hs3.to hr) (hv.fr hs3.fr0) hn) ?_)
      rintro _ w4 ⟨gmm, rfl, hs4⟩
      have hs5 := hs3.join hs4
      refine ⟨fun u => Sep w u _, hs5, ?_⟩
      refine ⟨kv k, fun u hu => (Ai (Sep.blk hu.p1) _).mpr rfl, ?_⟩
      refine ⟨.int .i64 (cntT t N V k), fun u hu => look hu rfl, ?_⟩
      exact ⟨rfl, hs5.fr0⟩
    · refine ⟨kv k, fun u hu => (Ai (Sep.blk hu) _).mpr rfl, ?_⟩
      refine Cl (Af (Ma hi hb (hs3.to hr) (hv.fr hs3.fr0) hn) ?_)
      rintro _ w4 ⟨gmm, rfl, hs4⟩
      have hs5 := hs3.join hs4
      refine ⟨fun u => Sep w u _, hs5, ?_⟩
      refine ⟨.int .i64 (cntT t N V k), fun u hu => look hu rfl, ?_⟩
      exact ⟨rfl, hs5.fr0⟩
    · rintro _ w5 ⟨rfl, hf5⟩ _
      exact hR _ _ ⟨by rw [cntB, if_pos hb], hf5⟩
theorem AdU {gmm : Nat} {F : Vec 32 → Option Value} {f : Vec 32 → Int} {k : Vec 32} (hi : TM t N m) (hr : ToR w.heap g gt gm gs ov p t N c S) (hm : MpR w.heap gmm F) (hF : ∀ q ∈ Bk t N k, F q = some (.int .i64 (f q))) (hn : N.length ≤ 1000000) :
    cal P Io [ptr g, .map (some gmm), kv k] w fun r w' => r = .tuple #[kv (B0 f (Bk t N k)).1, .int .i64 (B0 f (Bk t N k)).2] ∧ Fr [] w w' := by
  refine Um fun R hR => ?_
  unfold LL
  refine bx_s (Sep.start w) fun g4 w1 hs1 => ?_
  replace hs1 : Sep w w1 [blk g4 #[.map (some gmm)] By] := hs1
  refine bxQ hs1 fun g5 w2 hs2 => ?_
  refine Av hs2 (AS w2) fun g6 w3 hs3 => ?_
  refine Av hs3 (AS w3) fun g8 w4 hs4 => ?_
  refine Av hs4 (AeX w4) fun g9 w5 hs5 => ?_
  refine Ib hs5 (by simp) rfl fun w6 hs6 => ?_
  refine A0 hs6 fun w7 hs7 _ => ?_
  try simp only [fx, Nat.reduceAdd, forall_const]
  refine AF (v := ptr gt) (fun u hu K hk => (hu.to hr).ldt K hk) ?_
  refine ⟨kv k, fun u hu => (Ai (Sep.blk hu.p3) _).mpr rfl, ?_⟩
  refine BD (Af (XX (hs7.to hr).tr hn hi.nd k) ?_)
  rintro _ w8 ⟨g1, v1, rfl, hg⟩
  replace hg : Sep w7 w8 [blk g1 #[v1] Ax, rows (rVec 32) v1 (Bk t N k)] := hg
  obtain ⟨kids, hkids⟩ : ∃ l, l = Bk t N k := ⟨_, rfl⟩
  rw [← hkids] at hg hF hR
  have hkl : kids.length ≤ 1000000 := by
    rw [hkids]
    exact Nat.le_trans (TY t N k) hn
  have hs8 := hs7.join hg
  have hs9 := Sep.pick hs8 [2, 3, 4, 0, 1, 6] 7
  obtain ⟨X, hX⟩ : ∃ X : Nat → List Asn, X = fun i => [blk g9 #[.int .i64 (B0 f (kids.take i)).2] CS, blk g8 (Rdr.cells (rVec 32) (B0 f (kids.take i)).1).toArray Aa, blk g6 (Rdr.cells (rVec 32) (vz 32)).toArray Aa, blk g1 #[v1] Ax, rows (rVec 32) v1 kids, blk g4 #[.map (some gmm)] By] := ⟨_, rfl⟩
  have hX0 : Sep w w8 (X 0) := by
    rw [hX]
    simp only [List.take_zero]
    exact hs9
  refine Ahp hX0 (UW (v := v1) (g1 := g1) hkl) (fun i z args ⟨x, _, h⟩ => by rw [h]; rfl) (fun i Bs => Bs = X i) (fun _ _ => False) rfl ?_ ?_ ?_ ?_
  · rintro i Bs Ls' z rfl hz
    rw [hX] at hz
    exact ⟨⟨_, _, Sep.blk hz.p3⟩, Sep.rows (Sep.pick hz [4] 5)⟩
  · rintro i _ z _ LR LB bg fin hlt rfl ⟨x, hx, rfl⟩ hz hbg hfn _
    have hxm := List.mem_of_getElem? hx
    have htk : kids.take (i + 1) = kids.take i ++ [x] := by rw [List.take_add_one, hx]; rfl
    obtain ⟨b, hb⟩ : ∃ b, b = B0 f (kids.take i) := ⟨_, rfl⟩
    have hstep : B0 f (kids.take (i + 1)) = if b.2 < f x ∨ (f x = b.2 ∧ 0 < b.2 ∧ ltV x b.1 = true) then (x, f x) else b := by
      rw [htk, hb]
      unfold B0
      rw [List.foldl_append]
      rfl
    refine Av hz (AS z) fun g10 za hza => ?_
    simp only [List.getD_cons_zero]
    refine AE (b := x) hza fun zb hzb => ?_
    rw [← List.cons_append] at hzb
    refine hbg zb _ _ hzb fun z1 hz1 => ?_
    rw [hX] at hz1
    simp only [List.cons_append, List.nil_append, ← hb] at hz1
    refine Co (v := .map (some gmm)) (Sep.blk (Sep.pick hz1 [6] 7)) rfl ?_
    simp only [Ai hz1.blk]
    have hmz : MpR z1.heap gmm F := hm.fr hz1.fr0
    rw [WI Il KT zInt hmz x, hF x hxm]
    simp only [Option.getD_some]
    have rd9 : ∀ {K : Value → Prop}, K (.int .i64 b.2) → ld1 (.pointer (some ⟨g9, 0, none⟩)) z1.heap K := fun hk => Co (Sep.blk hz1.p1) rfl hk
    have rd8 : ∀ {K : Value → Prop}, K (kv b.1) → ldN 32 (.pointer (some ⟨g8, 0, none⟩)) z1.heap K := fun hk => (Ai (Sep.blk hz1.p2) _).mpr hk
    refine rd9 ?_
    try simp only [fx, Nat.reduceAdd, forall_const]
    have hend : ∀ z2, Sep w z2 (blk g10 (Rdr.cells (rVec 32) x).toArray Aa :: (X i ++ LB)) → cnd (.bool (decide (b.2 < f x ∨ (f x = b.2 ∧ 0 < b.2 ∧ ltV x b.1 = true)))) (ldN 32 (.pointer (some ⟨g10, 0, none⟩)) z2.heap fun t39 => stN 32 (.pointer (some ⟨g8, 0, none⟩)) t39 z2 fun w => st1 (.pointer (some ⟨g9, 0, none⟩)) (.int .i64 (f x)) w fun w => fin none w) (fin none z2) := fun z2 hz2 => by
      rw [hX] at hz2
      simp only [List.cons_append, List.nil_append, ← hb] at hz2
      rw [Aj]
      refine ⟨fun h => ?_, fun h => ?_⟩
      · have h := of_decide_eq_true h
        rw [if_pos h] at hstep
        simp only [Ai hz2.blk]
        refine AE (b := x) hz2.p2 fun z3 hz3 => ?_
        refine Ib hz3.p2 (by simp) rfl fun z4 hz4 => ?_
        refine hfn z4 _ rfl ?_
        rw [hX]
        simp only [List.cons_append, List.nil_append, hstep]
        exact Sep.pick hz4 [0, 1, 3, 4, 5, 6] 7
      · have h := of_decide_eq_false h
        rw [if_neg h] at hstep
        refine hfn z2 _ rfl ?_
        rw [hX]
        simp only [List.cons_append, List.nil_append, hstep]
        exact hz2.tail
    have hz1' : Sep w z1 (blk g10 (Rdr.cells (rVec 32) x).toArray Aa :: (X i ++ LB)) := by
      rw [hX]
      simp only [List.cons_append, List.nil_append, ← hb]
      exact hz1
    by_cases h1 : b.2 < f x
    · have e1 : decide (f x > b.2) = true := decide_eq_true h1
      have := hend z1 hz1'
      rw [decide_eq_true (Or.inl h1)] at this
      simp only [e1, fx, Nat.reduceAdd, forall_const] at this ⊢
      exact this
    · have e1 : decide (f x > b.2) = false := decide_eq_false h1
      simp only [e1, fx, Nat.reduceAdd, forall_const]
      refine Bu ?_
      refine rd9 ?_
      try simp only [fx, Nat.reduceAdd, forall_const]
      by_cases h2 : f x = b.2
      case neg =>
        have e2 : (f x == b.2) = false := beq_eq_false_iff_ne.2 h2
        have := hend z1 hz1'
        rw [decide_eq_false (by rintro (h | h); · exact h1 h
                                · exact h2 h.1)] at this
        simp only [e2, fx, Nat.reduceAdd, forall_const] at this ⊢
        exact this
      have e2 : (f x == b.2) = true := beq_iff_eq.2 h2
      simp only [e2, fx, Nat.reduceAdd, forall_const]
      refine Bu ?_
      refine rd9 ?_
      try simp only [fx, Nat.reduceAdd, forall_const]
      by_cases h3 : 0 < b.2
      case neg =>
        have e3 : decide (b.2 > 0) = false := decide_eq_false h3
        have := hend z1 hz1'
        rw [decide_eq_false (by rintro (h | h); · exact h1 h
                                · exact h3 h.2.1)] at this
        simp only [e3, fx, Nat.reduceAdd, forall_const] at this ⊢
        exact this
      have e3 : decide (b.2 > 0) = true := decide_eq_true h3
      simp only [e3, fx, Nat.reduceAdd, forall_const]
      refine Bu ?_
      simp only [Ai hz1.blk]
      refine rd8 ?_
      refine Af (Tg x b.1) ?_
      rintro _ z2 ⟨rfl, hf2⟩
      have hz2 := hz1'.old hf2
      have := hend z2 hz2
      rw [show decide (b.2 < f x ∨ (f x = b.2 ∧ 0 < b.2 ∧ ltV x b.1 = true)) = ltV x b.1 by
        cases hl : ltV x b.1 with
        | true => exact decide_eq_true (.inr ⟨h2, h3, rfl⟩)
        | false => exact decide_eq_false (by rintro (h | h); · exact h1 h
                                             · cases h.2.2)] at this
      try simp only [fx, Nat.reduceAdd, forall_const] at this ⊢
      exact this
  · rintro D _ z2 rfl hz
    rw [hX] at hz
    simp only [List.take_length] at hz
    refine .inl ⟨rfl, ?_⟩
    refine ⟨fun u => ∃ a, Sep w u [.obj D dfB, blk g9 #[.int .i64 (B0 f kids).2] CS, blk g8 (Rdr.cells (rVec 32) (B0 f kids).1).toArray Aa, blk g6 (Rdr.cells (rVec 32) a).toArray Aa, blk g1 #[v1] Ax, rows (rVec 32) v1 kids, blk g4 #[.map (some gmm)] By], ⟨_, hz.drew _⟩, ?_⟩
    refine ⟨kv (B0 f kids).1, fun u ⟨a, hu⟩ => (Ai (Sep.blk hu.p2) _).mpr rfl, ?_⟩
    refine AF (v := .int .i64 (B0 f kids).2) (fun u ⟨a, hu⟩ K hk => Co (Sep.blk hu.p1) rfl hk) ?_
    refine AL (AE (b := (B0 f kids).1) (hz.drew _).p3 fun z4 hz4 => ⟨⟨_, Sep.pick hz4 [1, 2, 3, 0] 4⟩, ?_⟩)
    refine Adv (Sep.p1 hz4) fun z5 hz5 => ?_
    simp only [Ai (Sep.blk hz5)]
    exact hR _ _ ⟨rfl, hz5.fr0⟩
  · rintro D j _ z2 hf _
    exact hf.elim
end
end Go.Fx
namespace Go.Fx
def polF (l : List (Vec 32)) : Vec 32 → Option Value := fun k => if k ∈ l then some (.bool true) else none
theorem AgR : polF [] = fun _ => none := by funext k; simp [polF]
theorem Aga (k : Vec 32) (l : List (Vec 32)) : updF (polF l) k (.bool true) = polF (k :: l) := by
  funext q
  unfold updF polF
  by_cases h : q = k <;> simp [h]
theorem AaR {S : SV} {k : Vec 32} {v : Value} (h : svF S k = some v) : ∃ q, S k = some q ∧ v = snv q.1 q.2 := by
  obtain ⟨q, hq, rfl⟩ := Option.map_eq_some_iff.1 h
  exact ⟨q, hq, rfl⟩
section
variable {w0 w w' : World} {As Ys : List Asn} {g gt gm gs c gp : Nat} {ov : Value} {p : Par} {t : Tr} {N : List TN} {S : SV} {m : Nat} {V : List Vt} {pol : List (Vec 32)}
theorem AbZ (hs : Sep w0 w (toH g gt gm gs ov p t N c S ++ As)) (hd : Dat N As) (hsd : SDat S Ys) (hYA : ∀ A ∈ Ys, A ∈ As) (hmay : ∀ k x, svM S k = some x → May p x) (hpol : ∀ z, Sep w0 z As → MpR z.heap gp (polF pol)) :
    cal P HA [ptr g, .map (some gp)] w fun r w' => r = .tuple #[] ∧ ∃ gs' S' E, svM S' = Fo p t N (svM S) pol ∧ SDat S' (E ++ Ys) ∧ Sep w0 w' (toH g gt gm gs' ov p t N c S' ++ (E ++ As)) := by
  refine RZ fun R hR => ?_
  unfold KL
  refine RJ (n := 32) hs fun gs' w1 hs1 => ?_
  replace hs1 : Sep w0 w1 (mpK gs' (svF fun _ => none) :: blk g (Rdr.cells AP (toq p gt gs)).toArray Bj :: mpK gs (svF S) :: (trH gt gm ov t N c ++ As)) := hs1
  try simp only [fx, Nat.reduceAdd, forall_const, AcQ (Sep.blk hs1.p1), E6 (Sep.blk hs1.p1), EC (Sep.blk hs1.p1), Ln (Sep.blk hs1.p1), GU (Sep.blk hs1.p1), LW (Sep.blk hs1.p1), O3 (Sep.blk hs1.p1), C1 (Sep.blk hs1.p1)]
  obtain ⟨l, cc, hl, hs1⟩ := T5 hs1.p2
  refine W6 Ch hs1 hs1.map fun gi w2 hs2 => ?_
  have key : ∀ {z : World} {D : List (Ent 32)} {S2 : SV} {E Ls : List Asn}, Sep w0 z (mit gi gs cc D :: mp gs l cc :: mpK gs' (svF S2) :: blk g (Rdr.cells AP (toq p gt gs)).toArray Bj :: (trH gt gm ov t N c ++ (E ++ As))) →
      z.heap[gs]? = some (.map (ents l) cc) := fun h => h.p1.map
  refine ⟨fun z => ∃ (D U : List (Ent 32)) (S2 : SV) (E : List Asn), RngK l cc D U ∧ (∀ k, svM S2 k = if k ∈ D.map (·.1) then Fo p t N (svM S) pol k else none) ∧ SDat S2 (E ++ Ys) ∧
    Sep w0 z (mit gi gs cc D :: mp gs l cc :: mpK gs' (svF S2) :: blk g (Rdr.cells AP (toq p gt gs)).toArray Bj :: (trH gt gm ov t N c ++ (E ++ As))), fun z => l.length - Gp gi z,
    ⟨[], l, fun _ => none, [], ⟨List.Perm.refl _⟩, fun k => by simp [svM], (fun k q h => by cases h), hs2⟩, ?_⟩
  rintro w3 ⟨D, U, S2, E, hD, hS2, hsd2, hs3⟩ -
  have hseen : ∀ {z : World} {D : List (Ent 32)} {Bs : List Asn}, Sep w0 z (mit gi gs cc D :: Bs) → Gp gi z = D.length := fun h => by
    unfold Gp
    rw [Sep.objAt h]
    simp
  refine Aa0 (E := l) (D := D) hs3 hs3.p1.map hl.ok.lt (fun hall => ?_) fun x w4 hx hxn hm4 hs4 => ?_
  · simp only [fx, Nat.reduceAdd, forall_const]
    obtain rfl := hD.end hl hall
    refine Pj (b := .map (some gs')) (Sep.p3 hs3) rfl fun w4 hs4 => ?_
    refine hR _ _ ⟨rfl, gs', S2, E, ?_, hsd2, Sep.pick hs4 [0, 3] 4⟩
    funext k
    rw [hS2]
    split
    · rfl
    · rename_i hk
      have := mt (hD.keys hl k).2 hk
      have hn : svM S k = none := by
        unfold svM svF at *
        cases hq : S k with
        | none => rfl
        | some q => rw [hq] at this; simp at this
      unfold Fo
      rw [hn]
      simp
  · obtain ⟨⟨U', hD', hU'⟩, hfx, hxD⟩ := hD.next hl hx hxn
    obtain ⟨⟨v, y⟩, hq, hxv⟩ := AaR hfx
    have hmy := hmay x.1 y (by unfold svM; rw [hq]; rfl)
    have hyl : y.l.length ≤ 1000000 := by have := hmy.n2; omega
    try simp only [fx, Nat.reduceAdd, forall_const]
    rw [WO (h := w4.heap) (Sep.objAt hs4) hm4 hx hl.ok.nd, hxv]
    try simp only [fx, Nat.reduceAdd, forall_const]
    have hrow : ∀ {z : World} {Xs E : List Asn}, Sep w0 z (Xs ++ (E ++ As)) → AB Ab z.heap v y.l := fun {z Xs E} h => by
      obtain ⟨F, hF⟩ := h.onL (A := rows Ab v y.l) (List.mem_append_right _ (List.mem_append_right _ (hYA _ (hsd x.1 (v, y) hq))))
      exact Own.cel hF
    have hlen : D.length + U.length = l.length := by
      have := hD.pm.length_eq
      simpa using this
    refine Av hs4 (AS w4) fun g5 w5 hs5 => ?_
    refine Av hs5 (Bo w5) fun g6 w6 hs6 => ?_
    refine AE (b := x.1) hs6.p1 fun w7 hs7 => ?_
    refine AJ (b := snr v y) hs7.p1 (AD (hrow (Xs := [_, _, _, _, _, _, _, _, _]) hs7).one1) fun w8 hs8 => ?_
    have trR : ∀ {z : World} {Xs E : List Asn}, Sep w0 z (Xs ++ (trH gt gm ov t N c ++ (E ++ As))) → TrR z.heap gt gm ov t N c := fun {z Xs E} h => Rl (Sep.rot h |>.perm (by rw [List.append_assoc])) (hd.sub fun A hA => List.mem_append_left _ (List.mem_append_right _ hA))
    refine A0 hs8 fun w9 hs9 _ => ?_
    refine AF (v := ptr gt) (fun u hu K hk => (E6 (Sep.blk (Sep.p5 hu)) K).mpr hk) ?_
    refine ⟨kv x.1, fun u hu => (Ai (Sep.blk hu.p1) _).mpr rfl, ?_⟩
    refine BD (Af (GI (trR (Xs := [_, _, _, _, _, _]) hs9) x.1) ?_)
    rintro _ w10 ⟨rfl, hf10⟩
    have hs10 := hs9.old hf10
    try simp only [fx, Nat.reduceAdd, forall_const]
    have hmu : ∀ {z : World} {Bs : List Asn}, Sep w0 z (mit gi gs cc (D ++ [x]) :: Bs) → l.length - Gp gi z < l.length - Gp gi w3 := fun h => by
      rw [hseen h, hseen hs3, List.length_append, List.length_singleton]
      omega
    rw [Aj]
    refine ⟨fun h => ?_, fun h => ?_⟩
    · have hno : has t N x.1 ≠ true := by simpa using h
      have hs11 := hs10.tail.tail
      refine ⟨⟨D ++ [x], U', S2, E, hD', fun k => ?_, hsd2, hs11⟩, hmu hs11⟩
      rw [hS2]
      by_cases hk : k ∈ D.map (·.1)
      · rw [if_pos hk, if_pos (by rw [List.map_append]; exact List.mem_append_left _ hk)]
      · rw [if_neg hk]
        split
        · rename_i hk2
          rw [List.map_append, List.mem_append] at hk2
          have : k = x.1 := by simpa using hk2.resolve_left hk
          unfold Fo
          rw [this, if_neg hno]
        · rfl
    · have hyes : has t N x.1 = true := by simpa using h
      have hfin : ∀ (z : World) (v' : Value) (E' : List Asn), rows Ab v' (if x.1 ∈ pol then y else (BC p y).1).l ∈ E' ++ Ys → (∀ A ∈ E ++ Ys, A ∈ E' ++ Ys) →
          Sep w0 z (blk g6 (Rdr.cells Aq (snr v' (if x.1 ∈ pol then y else (BC p y).1))).toArray Ak :: blk g5 (Rdr.cells (rVec 32) x.1).toArray Aa :: mit gi gs cc (D ++ [x]) :: mp gs l cc :: mpK gs' (svF S2) :: blk g (Rdr.cells AP (toq p gt gs)).toArray Bj :: (trH gt gm ov t N c ++ (E' ++ As))) →
          ldN 32 (.pointer (some ⟨g5, 0, none⟩)) z.heap fun t44 => ldN 67 (.pointer (some ⟨g6, 0, none⟩)) z.heap fun t45 => efU P (Instr.mapUpdate A4 (.map (some gs')) t44 t45) z fun z' =>
            (∃ (D U : List (Ent 32)) (S2 : SV) (E : List Asn), RngK l cc D U ∧ (∀ k, svM S2 k = if k ∈ D.map (·.1) then Fo p t N (svM S) pol k else none) ∧ SDat S2 (E ++ Ys) ∧
              Sep w0 z' (mit gi gs cc D :: mp gs l cc :: mpK gs' (svF S2) :: blk g (Rdr.cells AP (toq p gt gs)).toArray Bj :: (trH gt gm ov t N c ++ (E ++ As)))) ∧ l.length - Gp gi z' < l.length - Gp gi w3 := fun z v' E' hE' hsub hz => by
        simp only [Ai (Sep.blk hz.p1), Ar (Sep.blk hz), Ad (Sep.blk hz), Ae (Sep.blk hz), Ac (Sep.blk hz), Ag (Sep.blk hz), Ah (Sep.blk hz)]
        refine U4 Ch KT (Sep.p4 hz) fun z' hz' => ?_
        have e0 := WN S2 x.1 (v', if x.1 ∈ pol then y else (BC p y).1)
        replace hz' := Sep.pick (hz') [3, 4, 0] 5
        rw [e0] at hz'
        refine ⟨⟨D ++ [x], U', _, E', hD', fun k => ?_, fun k q hkq => ?_, hz'⟩, hmu hz'⟩
        · rw [RY]
          unfold updS
          by_cases hkx : k = x.1
          · subst hkx
            have hm : x.1 ∈ (D ++ [x]).map (·.1) := by
              rw [List.map_append]
              exact List.mem_append_right _ (by simp)
            rw [if_pos rfl, if_pos hm]
            unfold Fo
            rw [if_pos hyes]
            unfold svM
            rw [hq]
            rfl
          · rw [if_neg hkx, hS2]
            have : k ∈ (D ++ [x]).map (·.1) ↔ k ∈ D.map (·.1) := by
              rw [List.map_append, List.mem_append]
              exact ⟨fun h => h.resolve_right (by simpa using hkx), .inl⟩
            by_cases hk : k ∈ D.map (·.1)
            · rw [if_pos hk, if_pos (this.2 hk)]
            · rw [if_neg hk, if_neg (mt this.1 hk)]
        · unfold updV at hkq
          split at hkq
          · simp only [Option.some.injEq] at hkq
            subst hkq
            exact hE'
          · exact hsub _ (hsd2 k q hkq)
      refine ⟨fun z => ∃ v' E', rows Ab v' (if x.1 ∈ pol then y else (BC p y).1).l ∈ E' ++ Ys ∧ (∀ A ∈ E ++ Ys, A ∈ E' ++ Ys) ∧
          Sep w0 z (blk g6 (Rdr.cells Aq (snr v' (if x.1 ∈ pol then y else (BC p y).1))).toArray Ak :: blk g5 (Rdr.cells (rVec 32) x.1).toArray Aa :: mit gi gs cc (D ++ [x]) :: mp gs l cc :: mpK gs' (svF S2) :: blk g (Rdr.cells AP (toq p gt gs)).toArray Bj :: (trH gt gm ov t N c ++ (E' ++ As))), ?_, ?_⟩
      case refine_2 =>
        rintro z ⟨v', E', hE', hsub, hz⟩ _
        exact hfin z v' E' hE' hsub hz
      simp only [Ai (Sep.blk hs10.p1)]
      have hpz : ∀ {z : World} {Xs E : List Asn}, Sep w0 z (Xs ++ (E ++ As)) → MpR z.heap gp (polF pol) := fun {z Xs E} h => hpol z (by rw [← List.append_assoc] at h; exact Sep.dropL h)
      rw [WI Kv KT AiQ (hpz (Xs := [_, _, _, _, _, _, _, _, _]) hs10) x.1]
      by_cases hpx : x.1 ∈ pol
      · have e1 : (polF pol x.1).getD (.bool false) = .bool true := by unfold polF; rw [if_pos hpx]; rfl
        simp only [e1, fx, Nat.reduceAdd, forall_const]
        refine ⟨v, E, by rw [if_pos hpx]; exact List.mem_append_right _ (hsd x.1 (v, y) hq), fun _ h => h, by rw [if_pos hpx]; exact hs10⟩
      · have e1 : (polF pol x.1).getD (.bool false) = .bool false := by unfold polF; rw [if_neg hpx]; rfl
        simp only [e1, fx, Nat.reduceAdd, forall_const]
        have hok : (BC p y).2 = 0 := AgT (Ft.2 hmy)
        rw [if_neg hpx]
        refine A0 hs10 fun w11 hs11 _ => ?_
        refine ⟨fun a b z => ∃ g7 v', a = ptr g7 ∧ b = .int .i64 0 ∧ Sep w0 z (blk g7 (Rdr.cells Aq (snr v' (BC p y).1)).toArray Ak :: rows Ab v' (BC p y).1.l :: blk g6 (Rdr.cells Aq (snr v y)).toArray Ak :: blk g5 (Rdr.cells (rVec 32) x.1).toArray Aa :: mit gi gs cc (D ++ [x]) :: mp gs l cc :: mpK gs' (svF S2) :: blk g (Rdr.cells AP (toq p gt gs)).toArray Bj :: (trH gt gm ov t N c ++ (E ++ As))), ?_, ?_⟩
        · refine ⟨pav p, fun u hu => (EC (Sep.blk (Sep.p5 hu)) _).mpr rfl, ?_⟩
          refine ⟨snv v y, fun u hu => (Ar (Sep.blk hu) _).mpr rfl, ?_⟩
          have hr11 : ∀ {z : World} {Xs : List Asn}, Sep w0 z (Xs ++ (E ++ As)) → AB Ab z.heap v y.l := fun h => hrow h
          have h1v := (hr11 (Xs := [_, _, _, _, _, _, _, _, _]) hs11).one1
          refine ⟨?_, ?_, trivial⟩
          · refine Cl (Af (Tn (hr11 (Xs := [_, _, _, _, _, _, _, _, _]) hs11) hyl h1v) ?_)
            rintro _ w12 ⟨v', rfl, hs12⟩
            have hs13 := hs11.join hs12
            refine ⟨fun u => Sep w0 u _, hs13, ?_⟩
            try simp only [fx, Nat.reduceAdd, forall_const]
            refine AL (Av hs13 (Bo w12) fun g7 w14 hs14 => ⟨hs14.tail, ?_⟩)
            refine A9 (AJ (b := snr v' (BC p y).1) hs14 (AD (Sep.oneR hs14.p1)) fun w15 hs15 => ?_)
            exact ⟨g7, v', rfl, by rw [hok], hs15⟩
          · refine AL (Av hs11 (Bo w11) fun g7 w12 hs12 => ⟨hs12.tail, ?_⟩)
            refine BD (Af (Tn (hr11 (Xs := [_, _, _, _, _, _, _, _, _, _]) hs12) hyl h1v) ?_)
            rintro _ w13 ⟨v', rfl, hs13⟩
            have hs14 := hs12.join hs13
            try simp only [fx, Nat.reduceAdd, forall_const]
            refine A9 (AJ (b := snr v' (BC p y).1) hs14.p1 (AD (Sep.oneR hs14)) fun w15 hs15 => ?_)
            exact ⟨g7, v', rfl, by rw [hok], hs15⟩
        · rintro _ _ w12 ⟨g7, v', rfl, rfl, hs12⟩ _
          try simp only [fx, Nat.reduceAdd, forall_const, show ((0 : Int) == 0) = true from rfl, Ar (Sep.blk hs12), Ad (Sep.blk hs12), Ae (Sep.blk hs12), Ac (Sep.blk hs12), Ag (Sep.blk hs12), Ah (Sep.blk hs12)]
          refine AJ (b := snr v' (BC p y).1) hs12.p2 (AD (Sep.oneR hs12.p1)) fun w13 hs13 => ?_
          refine ⟨v', rows Ab v' (BC p y).1.l :: E, by simp, fun A hA => by rw [List.cons_append]; exact List.mem_cons_of_mem _ hA, ?_⟩
          exact Sep.pick hs13 [0, 3, 4, 5, 6, 7, 8, 9, 10, 2] 11
end
end Go.Fx
namespace Go.Fx
theorem XE {V : List Vt} (h : BN V) : sumV (DN V) = sumV V := by rw [DN, if_pos h]
structure RI (p : Par) (V : List Vt) (t : Tr) (N : List TN) (S : SM) (s : PS) : Prop where
  reach : CH p V (ps0 t N S) s
  fin : pstep p V s = none
open Classical in
noncomputable def Dx (p : Par) (V : List Vt) : Int := if ¬ BN V then 70 else if p.1 < sumV V then 1 else 0
theorem Agx {p : Par} {V : List Vt} (h : Dx p V = 0) : BN V ∧ sumV V ≤ p.1 := by
  unfold Dx at h
  split at h
  · cases h
  · rename_i h1
    split at h
    · cases h
    · rename_i h2
      exact ⟨Classical.not_not.1 h1, by omega⟩
noncomputable def PX (A : Nat → Prop) : Nat := open Classical in if h : ∃ n, A n then Classical.choose (Mp h) else 0
theorem Jy {A : Nat → Prop} {n : Nat} (h : A n) : A (PX A) ∧ PX A ≤ n := by
  unfold PX
  rw [dif_pos ⟨n, h⟩]
  have := Classical.choose_spec (Mp ⟨n, h⟩)
  exact ⟨this.1, this.2 n h⟩
theorem Af1 {D : Type} {a0 b0 : Value} {w0 : World} {body : Env → Value → Value → World → (Value → Value → World → Prop) → Prop} (I : D → Value → Value → World → Prop) (μ : D → Nat) (d0 : D) (h0 : I d0 a0 b0 w0)
    (hstep : ∀ d a b w (K : Value → Value → World → Prop), I d a b w → (∀ d' a' b' w', I d' a' b' w' → μ d' < μ d → K a' b' w') → ∀ junk, body junk a b w K) : lp2 a0 b0 w0 body := by
  refine ⟨fun a b w => ∃ d, I d a b w, fun a b w => PX fun n => ∃ d, I d a b w ∧ μ d = n, ⟨d0, h0⟩, fun a b w ⟨d, hd⟩ junk => ?_⟩
  obtain ⟨⟨d1, h1, h2⟩, _⟩ := Jy (A := fun n => ∃ d, I d a b w ∧ μ d = n) ⟨d, hd, rfl⟩
  refine hstep d1 a b w _ h1 (fun d' a' b' w' h' hlt => ⟨⟨d', h'⟩, ?_⟩) junk
  have := (Jy (A := fun n => ∃ d, I d a' b' w' ∧ μ d = n) ⟨d', h', rfl⟩).2
  exact Nat.lt_of_le_of_lt this (Nat.lt_of_lt_of_eq hlt h2)
structure RC (V : List Vt) (t : Tr) (N : List TN) (s : PS) : Prop where
  names : ∀ q, has s.t s.N q = true → has t N q = true
  cnt : ∀ q, has s.t s.N q = true → cntT s.t s.N V q = cntT t N V q
theorem CH.rc {p : Par} {V : List Vt} {m : Nat} {t : Tr} {N : List TN} {a b : PS} (h : CH p V a b) (hi : PI p m a) (hV : BN V) (hs : sumV V ≤ p.1) (hc : RC V t N a) : RC V t N b := by
  induction h with
  | refl => exact hc
  | step h1 h2 ih =>
    have hp := h1.pi hi hV hs
    rename_i b c
    unfold pstep at h2
    cases hx : b.S b.pos with
    | none => rw [hx] at h2; cases h2
    | some x =>
      rw [hx] at h2
      simp only at h2
      split at h2
      · rename_i hcnd
        obtain ⟨hk, _, _⟩ := hp.root_x hcnd.1 hx
        simp only [Option.some.injEq] at h2
        subst h2
        refine ⟨fun q hq => ?_, fun q hq => ?_⟩
        · have hq : has (mvT b.t b.N (prf x)) (mvN b.t b.N (prf x)) q = true := hq
          rw [FU hp.tm.w hk] at hq
          exact ih.names q (CC hq).1
        · have hq : has (mvT b.t b.N (prf x)) (mvN b.t b.N (prf x)) q = true := hq
          rw [FU hp.tm.w hk] at hq
          show cntT (mvT b.t b.N (prf x)) (mvN b.t b.N (prf x)) V q = _
          rw [AiC hp.tm hk V hq]
          exact ih.cnt q (CC hq).1
      · split at h2
        · cases h2
        · simp only [Option.some.injEq] at h2
          subst h2
          exact ⟨ih.names, ih.cnt⟩
theorem RC.start (V : List Vt) (t : Tr) (N : List TN) (S : SM) : RC V t N (ps0 t N S) := by
  refine ⟨fun q hq => ?_, fun q hq => ?_⟩
  · have hq : has t (sN N) q = true := hq
    rwa [D3 (D2 N)] at hq
  · show cntT t (sN N) V q = _
    exact W2 (D2 N) V q
section
variable {w0 w w' : World} {As : List Asn} {g gt gm gs c gp : Nat} {ov v : Value} {p : Par} {t : Tr} {N : List TN} {S : SV} {m : Nat} {V : List Vt}
def PL (w0 : World) (As : List Asn) (g gt gm gs gp gmm g11 c : Nat) (p : Par) (t0 : Tr) (N0 : List TN) (V : List Vt) (s : PS) (N : List TN) (S : SV) (ov : Value) (E Ys : List Asn) (a b : Value) (z : World) : Prop :=
  s.N = sN N ∧ (∀ x ∈ N, x ∈ N0) ∧ svM S = s.S ∧ SDat S (E ++ Ys) ∧
    Sep w0 z (blk g (Rdr.cells AP (toq p gt gs)).toArray Bj :: mpK gs (svF S) :: blk gt (Rdr.cells AN (tq s.t gm ov)).toArray BE :: mpN gm N c :: rows (rVec 32) ov (N.map (·.1)) ::
      rows (rVec 32) a s.acc :: rows (rVec 32) b s.rej :: blk g11 (Rdr.cells (rVec 32) s.pos).toArray Aa :: mpF gp (polF s.pol) :: mpF gmm (cF t0 N0 V t0.root fun _ => none) :: (E ++ As))
theorem PL.to {gmm g11 : Nat} {t0 : Tr} {N0 : List TN} {s : PS} {E Xs Ys : List Asn} {a b : Value} {z : World} (hYA : ∀ A ∈ Ys, A ∈ As) (hd : Dat N0 As) (hN : ∀ x ∈ N, x ∈ N0) (hsd : SDat S (E ++ Ys))
    (h : Sep w0 z (Xs ++ (blk g (Rdr.cells AP (toq p gt gs)).toArray Bj :: mpK gs (svF S) :: blk gt (Rdr.cells AN (tq s.t gm ov)).toArray BE :: mpN gm N c :: rows (rVec 32) ov (N.map (·.1)) ::
      rows (rVec 32) a s.acc :: rows (rVec 32) b s.rej :: blk g11 (Rdr.cells (rVec 32) s.pos).toArray Aa :: mpF gp (polF s.pol) :: mpF gmm (cF t0 N0 V t0.root fun _ => none) :: (E ++ As)))) : ToR z.heap g gt gm gs ov p s.t N c S := by
  have h2 := Sep.dropL h
  refine HV (As := rows (rVec 32) a s.acc :: rows (rVec 32) b s.rej :: blk g11 (Rdr.cells (rVec 32) s.pos).toArray Aa :: mpF gp (polF s.pol) :: mpF gmm (cF t0 N0 V t0.root fun _ => none) :: (E ++ As)) h2 (fun x hx => ?_) (hsd.sub fun A hA => ?_)
  · have := hd x (hN x hx)
    simp [this]
  · simp only [List.mem_cons]
    exact .inr (.inr (.inr (.inr (.inr (List.mem_append.2 ((List.mem_append.1 hA).imp id (hYA A)))))))
theorem TK (S : SV) (k : Vec 32) : (S k = none ∧ svM S k = none ∧ svD S k = (.slice none 0 0, snZ)) ∨ ∃ v x, S k = some (v, x) ∧ svM S k = some x ∧ svD S k = (v, x) := by
  unfold svM svD
  cases h : S k with
  | none => exact .inl ⟨rfl, rfl, rfl⟩
  | some q => exact .inr ⟨q.1, q.2, rfl, rfl, rfl⟩
end
end Go.Fx
namespace Go.Fx
theorem ZN {α : Type} (f : α → Bool) : ∀ l : List α, (l.filter f).length + (l.filter fun y => !f y).length = l.length
  | [] => rfl
  | a :: l => by
    have := ZN f l
    rw [List.filter_cons, List.filter_cons]
    cases f a <;> simp <;> omega
theorem T6 {t : Tr} {N : List TN} {k : Vec 32} (hw : TrW t N) (hk : mvOk t N k = true) : (mvN t N k).length + (CB t N k).length + 1 ≤ N.length := by
  obtain ⟨hkb, _⟩ := FF hk
  have hm : k ∈ nms N := (W5 hw).2 ⟨D7 hkb, DX hw hkb⟩
  obtain ⟨x, hx, rfl⟩ := List.mem_map.1 hm
  have hux : under t N x.1 x.1 = true := IK hw (D7 hkb)
  have h1 : (mvN t N x.1).length + 1 ≤ (N.filter fun y => under t N y.1 x.1).length := by
    have e : mvN t N x.1 = (N.filter fun y => under t N y.1 x.1).filter fun y => !decide (y.1 = x.1) := by
      unfold mvN
      rw [List.filter_filter]
    rw [e]
    have hxm : x ∈ N.filter fun y => under t N y.1 x.1 := List.mem_filter.2 ⟨hx, hux⟩
    generalize N.filter (fun y => under t N y.1 x.1) = L at *
    clear e
    induction L with
    | nil => cases hxm
    | cons a L ih =>
      rw [List.filter_cons]
      by_cases ha : a.1 = x.1
      · simp only [ha, decide_true, Bool.not_true, Bool.false_eq_true, if_false, List.length_cons]
        have := List.length_filter_le (fun y : TN => !decide (y.1 = x.1)) L
        omega
      · have hx2 : x ∈ L := by
          rcases List.mem_cons.1 hxm with h | h
          · exact absurd (h ▸ rfl) ha
          · exact h
        simp only [ha, decide_false, Bool.not_false, if_true, List.length_cons]
        have := ih hx2
        omega
  have h2 : (CB t N x.1).length = (N.filter fun y => !under t N y.1 x.1).length := by
    unfold CB
    rw [List.filter_map, List.length_map]
    rfl
  have h3 := ZN (fun y : TN => under t N y.1 x.1) N
  omega
theorem CH.parts {p : Par} {V : List Vt} {m : Nat} {a b : PS} (h : CH p V a b) (hi : PI p m a) (hV : BN V) (hs : sumV V ≤ p.1) : b.acc.length + b.rej.length + b.N.length ≤ a.acc.length + a.rej.length + a.N.length := by
  induction h with
  | refl => exact Nat.le_refl _
  | step h1 h2 ih =>
    have hp := h1.pi hi hV hs
    rename_i b c
    unfold pstep at h2
    cases hx : b.S b.pos with
    | none => rw [hx] at h2; cases h2
    | some x =>
      rw [hx] at h2
      simp only at h2
      split at h2
      · rename_i hcnd
        obtain ⟨hk, _, _⟩ := hp.root_x hcnd.1 hx
        simp only [Option.some.injEq] at h2
        subst h2
        have := T6 hp.tm.w hk
        show (b.acc ++ [prf x]).length + (b.rej ++ CB b.t b.N (prf x)).length + (mvN b.t b.N (prf x)).length ≤ _
        rw [List.length_append, List.length_append, List.length_singleton]
        omega
      · split at h2
        · cases h2
        · simp only [Option.some.injEq] at h2
          subst h2
          exact ih
theorem GC (E B T : List Asn) : (E ++ (B ++ T)).Perm (B ++ (E ++ T)) := by
  rw [← List.append_assoc, ← List.append_assoc]
  exact List.perm_append_comm.append_right T
section
variable {w0 w w' : World} {As : List Asn} {g gt gm gs c gp : Nat} {ov v : Value} {p : Par} {t : Tr} {N : List TN} {S : SV} {m : Nat} {V : List Vt}
set_option maxHeartbeats 1000000 in
theorem Vk {Ys : List Asn} (hs : Sep w0 w (toH g gt gm gs ov p t N c S ++ As)) (hd : Dat N As) (hsd : SDat S Ys) (hYA : ∀ A ∈ Ys, A ∈ As) (hi : TpI p m t N (svM S)) (hv : ∀ z, Sep w0 z As → AB Au z.heap v V) (hl : V.length ≤ 1000000) (hn : N.length ≤ 1000000) :
    cal P FY [ptr g, v] w fun r w' =>
      (Dx p V ≠ 0 ∧ r = .tuple #[.slice none 0 0, .slice none 0 0, .int .i64 (Dx p V)] ∧ Sep w0 w' (toH g gt gm gs ov p t N c S ++ As)) ∨
      (Dx p V = 0 ∧ ∃ s av rv gs' ov' N' S' E, RI p V t N (svM S) s ∧ r = .tuple #[av, rv, .int .i64 0] ∧ s.N = sN N' ∧ (∀ x ∈ N', x ∈ N) ∧ svM S' = Fo p s.t s.N s.S s.pol ∧ SDat S' (E ++ Ys) ∧
        Sep w0 w' (toH g gt gm gs' ov' p s.t N' c S' ++ (rows (rVec 32) av s.acc :: rows (rVec 32) rv s.rej :: (E ++ As)))) := by
  refine TU fun R hR => ?_
  unfold LQ
  refine Af (Dj (HV hs hd (hsd.sub hYA))) ?_
  rintro _ _ ⟨rfl, rfl⟩
  try simp only [fx, Nat.reduceAdd, forall_const]
  have hvA : ∀ {z : World}, Sep w0 z (toH g gt gm gs ov p t N c S ++ As) → AB Au z.heap v V := fun h => hv _ (Sep.dropL h)
  refine Af (LG (hvA hs) (by omega)) ?_
  rintro _ w1 ⟨rfl, hf1⟩
  have hs1 := hs.old hf1
  try simp only [fx, Nat.reduceAdd, forall_const]
  rw [Aj]
  refine ⟨fun h => ?_, fun h => ?_⟩
  · have hb : ¬ BN V := fun hb => by rw [Hg hb] at h; cases h
    have he : Dx p V = 70 := by rw [Dx, if_pos hb]
    exact hR _ _ (.inl ⟨by rw [he]; decide, by rw [he], hs1⟩)
  have hb : BN V := GK.1 (by simpa using h)
  refine A0 hs1 fun w2 hs2 _ => ?_
  refine AF (v := .int .i64 p.1) (fun u hu K hk => (Ln (Sep.blk hu) K).mpr hk) ?_
  refine AL (Af (AaZ (hvA hs2) (by omega)) ?_)
  rintro _ w3 ⟨rfl, hf3⟩
  have hs3 := hs2.old hf3
  refine ⟨hs3, ?_⟩
  rw [XE hb]
  try simp only [fx, Nat.reduceAdd, forall_const]
  rw [Aj]
  refine ⟨fun h => ?_, fun h => ?_⟩
  · have h : p.1 < sumV V := by simpa using h
    have he : Dx p V = 1 := by rw [Dx, if_neg (by simpa using hb), if_pos h]
    exact hR _ _ (.inl ⟨by rw [he]; decide, by rw [he], hs3⟩)
  have hsum : sumV V ≤ p.1 := by simp at h; omega
  have he : Dx p V = 0 := by rw [Dx, if_neg (by simpa using hb), if_neg (by omega)]
  refine Af (Ma hi.tm hb (HV hs3 hd (hsd.sub hYA)) (hvA hs3) hn) ?_
  rintro _ w4 ⟨gmm, rfl, hs4⟩
  replace hs4 := hs3.join hs4
  refine Adf (n := 32) hs4 fun gp w5 hs5 => ?_
  have hs5 : Sep w0 w5 (mpF gp (polF []) :: mpF gmm (cF t N V t.root fun _ => none) :: blk g (Rdr.cells AP (toq p gt gs)).toArray Bj :: mpK gs (svF S) :: (trH gt gm ov t N c ++ As)) := by rw [AgR]; exact hs5
  have hs5' : Sep w0 w5 (toH g gt gm gs ov p t N c S ++ (mpF gp (polF []) :: mpF gmm (cF t N V t.root fun _ => none) :: As)) := Sep.pick hs5 [2, 3, 4, 5, 6, 0, 1] 7
  have hto5 : ToR w5.heap g gt gm gs ov p t N c S := HV hs5' (hd.sub fun A hA => by simp [hA]) (hsd.sub fun A hA => by simp [hYA A hA])
  refine hto5.ldt _ ?_
  refine Af (J8 hto5.tr) ?_
  rintro _ w6 ⟨rfl, hf6⟩
  have hs6 := hs5'.old hf6
  try simp only [fx, Nat.reduceAdd, forall_const]
  refine Av hs6 (AS w6) fun g11 w7 hs7 => ?_
  refine AE hs7 fun w8 hs8 => ?_
  have hps := hi.pi
  have hvE : ∀ {z : World} {Xs E : List Asn}, Sep w0 z (Xs ++ (E ++ As)) → True := fun _ => trivial
  refine ⟨fun a b z => ∃ s N' S' ov' E, CH p V (ps0 t N (svM S)) s ∧ pstep p V s = none ∧ PL w0 As g gt gm gs gp gmm g11 c p t N V s N' S' ov' E Ys a b z, ?_, ?_⟩
  · refine Af1 (D := PS) (fun s a b z => ∃ N' S' ov' E, CH p V (ps0 t N (svM S)) s ∧ PL w0 As g gt gm gs gp gmm g11 c p t N V s N' S' ov' E Ys a b z) (muP m) (ps0 t N (svM S)) ⟨N, S, ov, [], .refl _, rfl, fun _ h => h, rfl, hsd, ?_⟩ ?_
    · exact Sep.pick (Sep.nilR (q := rVec 32) (Sep.nilR (q := rVec 32) hs8)) [3, 4, 5, 6, 7, 0, 1, 2, 8, 9] 10
    rintro s a b z K ⟨N', S', ov', E, hre, hN, hsub, hSM, hsd', hz⟩ hK -
    have hp := hre.pi hps hb hsum
    have hrc := hre.rc hps hb hsum (RC.start V t N (svM S))
    have hkb : kbs N' = kbs s.N := by rw [hN, D2]
    have hlN : N'.length ≤ 1000000 ∧ s.acc.length + s.rej.length + N'.length ≤ 1000000 := by
      have h1 := hre.parts hps hb hsum
      have h2 := Gd hkb
      have h3 : (ps0 t N (svM S)).N.length = N.length := Gd (D2 N)
      have h4 : (ps0 t N (svM S)).acc.length = 0 := rfl
      have h5 : (ps0 t N (svM S)).rej.length = 0 := rfl
      omega
    have htm : TM s.t N' m := hp.tm.kb hkb.symm
    have hto : ToR z.heap g gt gm gs ov' p s.t N' c S' := PL.to (Xs := []) hYA hd hsub hsd' hz
    refine hto.ldt _ ?_
    refine Af (J8 hto.tr) ?_
    rintro _ z1 ⟨rfl, hf1⟩
    have hz1 := hz.old hf1
    try simp only [fx, Nat.reduceAdd, forall_const]
    refine Av hz1 (AS z1) fun g13 z2 hz2 => ?_
    refine AE hz2 fun z3 hz3 => ?_
    refine A0 hz3 fun z4 hz4 _ => ?_
    refine AF (v := .map (some gs)) (fun u hu K hk => (C1 (Sep.blk hu.p1) K).mpr hk) ?_
    refine ⟨kv s.pos, fun u hu => (Ai (Sep.blk (Sep.pick hu [8] 9)) _).mpr rfl, ?_⟩
    refine ⟨.tuple #[(svF S' s.pos).getD (snv (.slice none 0 0) snZ), .bool (svF S' s.pos).isSome], fun u hu => ((PL.to (Xs := [_]) hYA hd hsub hsd' hu).look s.pos _).mpr rfl, ?_⟩
    rw [RB, Wm]
    try simp only [fx, Nat.reduceAdd, forall_const]
    refine AL (Av hz4 (Bo z4) fun g15 z5 hz5 => ⟨hz5.tail, ?_⟩)
    refine A9 (AJ (b := snr (svD S' s.pos).1 (svD S' s.pos).2) hz5 (AD ((PL.to (Xs := [_, _]) hYA hd hsub hsd' hz5).rwD s.pos).one1) fun z6 hz6 => ?_)
    try simp only [fx, Nat.reduceAdd, forall_const, Ai (Sep.blk (Sep.pick hz6 [9] 10)), Ai (Sep.blk hz6.p1), Ar (Sep.blk hz6), Ad (Sep.blk hz6), Ae (Sep.blk hz6), Ac (Sep.blk hz6), Ag (Sep.blk hz6), Ah (Sep.blk hz6), B3]
    rw [Aj]
    refine ⟨fun h => ?_, fun h => ?_⟩
    · -- the root's instance is done
      simp only [Bool.and_eq_true, decide_eq_true_eq] at h
      obtain ⟨v0, x, hS0, hx, hD⟩ := (TK S' s.pos).resolve_left (by rintro ⟨h1, _⟩; rw [h1] at h; simp at h)
      rw [hD] at h ⊢
      have hxS : s.S s.pos = some x := by rw [← hSM]; exact hx
      obtain ⟨⟨_, hroot⟩, hdn⟩ := h
      have hdn : x.dn = true := hdn
      have hst : pstep p V s = some (s.moved (prf x)) := by
        unfold pstep
        rw [hxS]
        simp only
        rw [if_pos ⟨hroot, hdn⟩]
      have hmu := (L9 hp hb hsum hst).2
      have hmv : mvOk s.t N' (prf x) = true := by rw [Ac8 hkb]; exact (hp.root_x hroot hxS).1
      have hmp := T6 htm.w hmv
      refine Af NF ?_
      rintro _ z7 ⟨rfl, hf7⟩
      have hz7 := hz6.old hf7
      refine Av hz7 (AS z7) fun g17 z8 hz8 => ?_
      refine AE (b := prf x) hz8 fun z9 hz9 => ?_
      refine A0 hz9 fun z10 hz10 _ => ?_
      refine AF (v := ptr gt) (fun u hu K hk => (E6 (Sep.blk (Sep.p3 hu)) K).mpr hk) ?_
      refine ⟨kv (prf x), fun u hu => (Ai (Sep.blk hu) _).mpr rfl, ?_⟩
      have hzm := Sep.pick hz10 [5, 6, 7, 0, 1, 2, 3, 4, 8, 9, 10, 11, 12] 13
      refine BD (Af (XW (t := s.t) (N := N') (g := gt) (gm := gm) (c := c) (ov := ov') hzm (fun y hy => ?_) htm.w htm.nd hlN.1 (prf x)) ?_)
      · exact List.mem_cons_of_mem _ (List.mem_cons_of_mem _ (List.mem_cons_of_mem _ (List.mem_cons_of_mem _ (List.mem_cons_of_mem _ (List.mem_cons_of_mem _ (List.mem_cons_of_mem _ (List.mem_cons_of_mem _ (List.mem_cons_of_mem _ (List.mem_cons_of_mem _ (List.mem_append_right _ (hd y (hsub y hy))))))))))))
      rintro _ z11 (⟨hf, _⟩ | ⟨_, gv, ov2, rfl, hz11⟩)
      · rw [hmv] at hf; cases hf
      rw [Afb hkb, Mz hkb] at hz11
      try simp only [fx, Nat.reduceAdd, forall_const, show ((0 : Int) != 0) = false from rfl, Ai (Sep.blk (Sep.pick hz11 [4] 5))]
      refine bldI hz11 fun q1 z12 hz12 => ?_
      refine appI (Sep.pick hz12 [10, 0, 1, 2, 3, 4, 5, 6, 7, 8, 9, 11, 12, 13, 14] 15) (Sep.rows hz12) (by omega) fun a' z13 hz13 => ?_
      have hgl : (CB s.t s.N (prf x)).length ≤ 1000000 := by rw [← Mz hkb]; omega
      have hgv : AB (rVec 32) z13.heap gv (CB s.t s.N (prf x)) := Sep.rows (Sep.pick hz13 [5] 6)
      refine BX CM EB (by simp) (Sep.pick hz13 [11, 0, 1, 2, 3, 4, 5, 6, 7, 8, 9, 10, 12, 13, 14] 15) hgv ?_ (by omega) (by omega) fun b' z14 hz14 => ?_
      · intro u hu
        obtain ⟨y, hy, hu⟩ := List.mem_flatMap.1 hu
        exact Ca u hu
      simp only [Ai (Sep.blk (Sep.pick hz14 [7] 8))]
      refine AE (b := prf x) (Sep.pick hz14 [12, 0, 1, 2, 3, 4, 5, 6, 7, 8, 9, 10, 11, 13, 14] 15) fun z15 hz15 => ?_
      refine hK (s.moved (prf x)) _ _ _ ⟨mvN s.t N' (prf x), S', ov2, E, hre.step hst, ?_, fun y hy => hsub y (List.mem_filter.1 hy).1, hSM, hsd', ?_⟩ hmu
      · show mvN s.t s.N (prf x) = _
        rw [hN, Ahr]
      · exact Sep.pick hz15 [11, 12, 4, 5, 6, 2, 1, 0, 13, 14] 15
    · -- polled, or the end
      have hnc : ∀ x, s.S s.pos = some x → ¬ (s.pos = s.t.root ∧ x.dn = true) := fun x hx hc => by
        rw [← hSM] at hx
        obtain ⟨v0, hS0⟩ := UL hx
        have hD : svD S' s.pos = (v0, x) := by unfold svD; rw [hS0]; rfl
        rw [hD, hS0] at h
        have h2 : x.dn = true := hc.2
        simp [hc.1, h2] at h
      refine Af (AdU (f := cntT s.t s.N V) htm (PL.to (Xs := [_, _]) hYA hd hsub hsd' hz6) (Abg (Sep.pick hz6 [11] 12)) (fun q hq => ?_) hlN.1) ?_
      · rw [FZ hkb] at hq
        have hqs := ((C3 hp.tm.w hp.tm.nd).1 hq).2.1
        unfold cF
        rw [if_pos (Ya hi.tm.w (hrc.names q hqs)), hrc.cnt q hqs]
      rintro _ z7 ⟨rfl, hf7⟩
      rw [FZ hkb]
      have hz7 := hz6.old hf7
      try simp only [fx, Nat.reduceAdd, forall_const]
      refine Av hz7 (AS z7) fun g20 z8 hz8 => ?_
      refine AE (b := (s.best V).1) hz8 fun z9 hz9 => ?_
      refine (GU (Sep.blk (Sep.p3 hz9)) _).mpr ?_
      try simp only [fx, Nat.reduceAdd, forall_const]
      rw [Aj]
      refine ⟨fun h2 => ?_, fun h2 => ?_⟩
      · have hend : pstep p V s = none := by
          unfold pstep
          cases hx : s.S s.pos with
          | none => rfl
          | some x =>
            simp only
            rw [if_neg (hnc x hx), if_pos (by simpa using h2)]
        exact ⟨s, N', S', ov', E, hre, hend, hN, hsub, hSM, hsd', Sep.pick hz9 [3, 4, 5, 6, 7, 8, 9, 10, 11, 12] 13⟩
      have hge : ¬ (s.best V).2 < p.2.1 := by simpa using h2
      obtain ⟨x, hxS⟩ : ∃ x, s.S s.pos = some x := by
        cases hx : s.S s.pos with
        | some x => exact ⟨x, rfl⟩
        | none =>
          exfalso
          have h3 := hp.no s.pos hp.pos hx
          apply hge
          show (B0 (cntT s.t s.N V) (Bk s.t s.N s.pos)).2 < p.2.1
          rw [h3]
          obtain ⟨q1, q2, q3, _⟩ := EZ hi.par
          show (0 : Int) < p.2.1
          omega
      obtain ⟨v0, hS0⟩ := UL (S := S') (k := s.pos) (x := x) (by rw [hSM]; exact hxS)
      have hst : pstep p V s = some (s.polled (B1 p x (s.best V).1 (s.best V).2).1 (s.best V).1) := by
        unfold pstep
        rw [hxS]
        simp only
        rw [if_neg (hnc x hxS), if_neg hge]
      have hmu := (L9 hp hb hsum hst).2
      obtain ⟨i1, i2, i3, i4, i5⟩ := hp.best_in hb hsum hxS hge
      have hmx := hp.may _ _ hxS
      obtain ⟨e1, e2, e3, e4, _⟩ := Abk hmx i5 i3 i4
      have hxl : x.l.length ≤ 1000000 := by have := hmx.n2; omega
      obtain ⟨kk, hkk⟩ : ∃ kk, kk = (s.best V).1 := ⟨_, rfl⟩
      obtain ⟨nn, hnn⟩ : ∃ nn, nn = (s.best V).2 := ⟨_, rfl⟩
      rw [← hkk, ← hnn] at hst hmu e1
      rw [show (B0 (cntT s.t s.N V) (Bk s.t s.N s.pos)).2 = nn from hnn.symm]
      rw [← hkk] at hz9
      obtain ⟨y, hy⟩ : ∃ y, y = (B1 p x kk nn).1 := ⟨_, rfl⟩
      rw [← hy] at hst hmu
      have hrow : ∀ {z : World} {Xs : List Asn}, Sep w0 z (Xs ++ (E ++ As)) → AB Ab z.heap v0 x.l := fun {z Xs} h => by
        obtain ⟨F, hF⟩ := h.onL (A := rows Ab v0 x.l) (List.mem_append_right _ ((List.mem_append.1 (hsd' s.pos (v0, x) hS0)).elim (fun h => List.mem_append_left _ h) (fun h => List.mem_append_right _ (hYA _ h))))
        exact Own.cel hF
      have h1v : v0.oneCell' = true := (hrow (Xs := [_, _, _, _, _, _, _, _, _, _, _, _, _]) hz9).one1
      refine A0 hz9 fun z10 hz10 _ => ?_
      refine ⟨fun a2 b2 z => ∃ g22 v', a2 = ptr g22 ∧ b2 = .int .i64 0 ∧ Sep w0 z (blk g22 (Rdr.cells Aq (snr v' y)).toArray Ak :: rows Ab v' y.l :: blk g20 (Rdr.cells (rVec 32) kk).toArray Aa :: blk g15 (Rdr.cells Aq (snr (svD S' s.pos).1 (svD S' s.pos).2)).toArray Ak :: blk g13 (Rdr.cells (rVec 32) s.t.root).toArray Aa ::
        blk g (Rdr.cells AP (toq p gt gs)).toArray Bj :: mpK gs (svF S') :: blk gt (Rdr.cells AN (tq s.t gm ov')).toArray BE :: mpN gm N' c :: rows (rVec 32) ov' (N'.map (·.1)) ::
        rows (rVec 32) a s.acc :: rows (rVec 32) b s.rej :: blk g11 (Rdr.cells (rVec 32) s.pos).toArray Aa :: mpF gp (polF s.pol) :: mpF gmm (cF t N V t.root fun _ => none) :: (E ++ As)), ?_, ?_⟩
      · refine ⟨pav p, fun u hu => (EC (Sep.blk (Sep.p3 hu)) _).mpr rfl, ?_⟩
        refine AF (v := .map (some gs)) (fun u hu K hk => (C1 (Sep.blk (Sep.p3 hu)) K).mpr hk) ?_
        refine ⟨kv s.pos, fun u hu => (Ai (Sep.blk (Sep.pick hu [10] 11)) _).mpr rfl, ?_⟩
        refine ⟨snv v0 x, fun u hu => ?_, ?_⟩
        · rw [WI Ch KT zSn (PL.to (Xs := [_, _, _]) hYA hd hsub hsd' hu).mp.mp s.pos]
          unfold svF
          rw [hS0]
          rfl
        refine ⟨kv kk, fun u hu => (Ai (Sep.blk hu) _).mpr rfl, ?_⟩
        refine ⟨?_, ?_, trivial⟩
        · refine Cl (Af (Tp (hrow (Xs := [_, _, _, _, _, _, _, _, _, _, _, _, _]) hz10) hxl h1v) ?_)
          rintro _ z11 ⟨v', rfl, hz11⟩
          have hz12 := hz10.join hz11
          refine ⟨fun u => Sep w0 u _, hz12, ?_⟩
          try simp only [fx, Nat.reduceAdd, forall_const]
          rw [← hy] at hz12 ⊢
          refine AL (Av hz12 (Bo z11) fun g22 z13 hz13 => ⟨hz13.tail, ?_⟩)
          refine A9 (AJ (b := snr v' y) hz13 (AD (Sep.oneR hz13.p1)) fun z14 hz14 => ?_)
          exact ⟨g22, v', rfl, by rw [e1], hz14⟩
        · refine AL (Av hz10 (Bo z10) fun g22 z11 hz11 => ⟨hz11.tail, ?_⟩)
          refine BD (Af (Tp (hrow (Xs := [_, _, _, _, _, _, _, _, _, _, _, _, _, _]) hz11) hxl h1v) ?_)
          rintro _ z12 ⟨v', rfl, hz12⟩
          have hz13 := hz11.join hz12
          try simp only [fx, Nat.reduceAdd, forall_const]
          rw [← hy] at hz13 ⊢
          refine A9 (AJ (b := snr v' y) hz13.p1 (AD (Sep.oneR hz13)) fun z14 hz14 => ?_)
          exact ⟨g22, v', rfl, by rw [e1], hz14⟩
      rintro _ _ z11 ⟨g22, v', rfl, rfl, hz11⟩ _
      try simp only [fx, Nat.reduceAdd, forall_const, show ((0 : Int) != 0) = false from rfl]
      refine A0 hz11 fun z12 hz12 _ => ?_
      refine AF (v := .map (some gs)) (fun u hu K hk => (C1 (Sep.blk (Sep.pick hu [5] 6)) K).mpr hk) ?_
      refine ⟨kv s.pos, fun u hu => (Ai (Sep.blk (Sep.pick hu [12] 13)) _).mpr rfl, ?_⟩
      refine ⟨snv v' y, fun u hu => (Ar (Sep.blk hu) _).mpr rfl, ?_⟩
      refine ND (U4 Ch KT (Sep.pick hz12 [6, 0, 1, 2, 3, 4, 5, 7, 8, 9, 10, 11, 12, 13, 14] 15) fun z13 hz13 => ?_)
      rw [WN S' s.pos (v', y)] at hz13
      simp only [Ai (Sep.blk (Sep.pick hz13 [12] 13))]
      refine Ae5 Kv KT (Sep.pick hz13 [13, 0, 1, 2, 3, 4, 5, 6, 7, 8, 9, 10, 11, 12, 14] 15) fun z14 hz14 => ?_
      rw [Aga] at hz14
      try simp only [fx, Nat.reduceAdd, forall_const, Ai (Sep.blk (Sep.pick hz14 [13] 14)), Ai (Sep.blk (Sep.pick hz14 [6] 7)), Ai (Sep.blk (Sep.pick hz14 [4] 5)), Ar (Sep.blk (Sep.pick hz14 [2] 3)), Ad (Sep.blk (Sep.pick hz14 [2] 3)), Ae (Sep.blk (Sep.pick hz14 [2] 3)), Ac (Sep.blk (Sep.pick hz14 [2] 3)), Ag (Sep.blk (Sep.pick hz14 [2] 3)), Ah (Sep.blk (Sep.pick hz14 [2] 3)), C0]
      have hSM2 : svM (updV S' s.pos (v', y)) = updS s.S s.pos y := by rw [RY, hSM]
      have hsd2 : SDat (updV S' s.pos (v', y)) ((rows Ab v' y.l :: E) ++ Ys) := SDat.upd hsd'
      rw [Aj]
      refine ⟨fun h3 => ?_, fun h3 => ?_⟩
      · have h3 : s.pos ≠ s.t.root ∨ y.dn = false := by simpa using h3
        refine AE (b := kk) (Sep.pick hz14 [13, 0, 1, 2, 3, 4, 5, 6, 7, 8, 9, 10, 11, 12, 14] 15) fun z15 hz15 => ?_
        refine hK (s.polled y kk) _ _ _ ⟨N', updV S' s.pos (v', y), ov', rows Ab v' y.l :: E, hre.step hst, hN, hsub, hSM2, hsd2, ?_⟩ hmu
        have ep : (s.polled y kk).pos = kk := if_pos h3
        rw [ep]
        exact Sep.pick hz15 [8, 2, 9, 10, 11, 12, 13, 0, 1, 14, 4] 15
      · have h3 : ¬ (s.pos ≠ s.t.root ∨ y.dn = false) := by simpa using h3
        refine hK (s.polled y kk) _ _ _ ⟨N', updV S' s.pos (v', y), ov', rows Ab v' y.l :: E, hre.step hst, hN, hsub, hSM2, hsd2, ?_⟩ hmu
        have ep : (s.polled y kk).pos = s.pos := if_neg h3
        rw [ep]
        exact Sep.pick hz14 [7, 1, 8, 9, 10, 11, 12, 13, 0, 14, 3] 15
  · rintro a b z ⟨s, N', S', ov', E, hre, hend, hN, hsub, hSM, hsd', hz⟩ _
    have hp := hre.pi hps hb hsum
    have hz2 := Sep.pick hz [0, 1, 2, 3, 4, 5, 6, 7, 8, 9] 10
    refine Af (AbZ (As := rows (rVec 32) a s.acc :: rows (rVec 32) b s.rej :: blk g11 (Rdr.cells (rVec 32) s.pos).toArray Aa :: mpF gp (polF s.pol) :: mpF gmm (cF t N V t.root fun _ => none) :: (E ++ As)) (t := s.t) (N := N') (pol := s.pol) (gp := gp) hz2 (fun x hx => ?_) hsd' (fun A hA => ?_) (fun k x hx => hp.may k x (by rw [← hSM]; exact hx)) (fun z h => Abg (Sep.pick h [3] 5))) ?_
    · have := hd x (hsub x hx)
      simp [this]
    · simp only [List.mem_cons]
      exact .inr (.inr (.inr (.inr (.inr (List.mem_append.2 ((List.mem_append.1 hA).imp id (hYA A)))))))
    rintro _ z3 ⟨rfl, gs', S2, E2, hS2, hsd2, hz3⟩
    refine hR _ _ (.inr ⟨he, s, a, b, gs', ov', N', S2, E2 ++ E, ⟨hre, hend⟩, rfl, hN, hsub, ?_, by rw [List.append_assoc]; exact hsd2, ?_⟩)
    · rw [hS2, hSM]
      funext k
      unfold Fo
      rw [D3 (by rw [hN, D2] : kbs N' = kbs s.N)]
    · rw [List.append_assoc]
      have h4 := hz3.perm (List.Perm.append_left _ (GC E2 [_, _, _, _, _] (E ++ As)))
      exact Sep.pick h4 [0, 1, 2, 3, 4, 5, 6] 10
end
end Go.Fx
namespace Go.Fx
section
variable {w0 w w' : World} {As : List Asn} {gx g gm gr c : Nat} {ov lv x : Value} {t : Tr} {N M : List TN} {ids : List (Vec 32)}
theorem AfT (r : Vec 32) (h m : Int) : cal P MY [kv r, .int .i64 h, .int .i64 m] w fun v w' => (¬ (0 ≤ h ∧ 1 ≤ m ∧ m ≤ 256) ∧ v = .tuple #[.pointer none, .int .i64 1] ∧ Fr [] w w') ∨
    ((0 ≤ h ∧ 1 ≤ m ∧ m ≤ 256) ∧ ∃ g, v = .tuple #[.pointer (some ⟨g, 0, none⟩), .int .i64 0] ∧ Sep w w' (rfH g (.slice none 0 0) ⟨r, h, m⟩ [])) := by
  refine Acr fun R hR => ?_
  unfold S0
  refine bxQ (Sep.start w) fun g1 w1 hs1 => ?_
  simp only [fx, Nat.reduceAdd, forall_const]
  rw [Aj]
  refine ⟨fun hc => ?_, fun hc => ?_⟩
  · simp only [Bool.or_eq_true, decide_eq_true_eq] at hc
    exact hR _ _ (.inl ⟨by omega, rfl, hs1.fr0⟩)
  simp only [Bool.or_eq_false_iff, decide_eq_false_iff_not] at hc
  simp only [Ai hs1.blk]
  rw [GR]
  refine bxQ hs1 fun g3 w3 hs3 => ?_
  refine hR _ _ (.inr ⟨by omega, g3, rfl, ?_⟩)
  exact Sep.dropR (As := rfH g3 (.slice none 0 0) ⟨r, h, m⟩ []) (Sep.pick (hs3.nilR (q := AI)) [1, 0] 3)
def Aax (t : Tr) (N : List TN) (b : Blk) (N' : List TN) (E : List Asn) : Prop :=
  (addE t N b ≠ 0 ∧ N' = N ∧ E = []) ∨ (addE t N b = 0 ∧ ∃ vd c, N' = N ++ [(b.id, b, vd, c)] ∧ E = [ownB vd b.d])
def Ej (t : Tr) (N : List TN) (b : Blk) : Vec 32 := if addE t N b = 0 then b.id else vz 32
theorem AddU {b : Blk} {v : Value} (Cs Ds : List Asn) (hs : Sep w0 w (trH g gm ov t N c ++ (Cs ++ Ds))) (hd : Dat N (Cs ++ Ds)) (hw : TrW t N) (hC : Cub w) (hb : RdB w.heap v b.d) (hh : b.h ≤ maxI) (hn : N.length ≤ 1000000) :
    cal P Da [.pointer (some ⟨g, 0, none⟩), bq b v] w fun r w' => ∃ N' ov' c' E, r = .tuple #[kv (Ej t N b), .int .i64 (addE t N b)] ∧ Aax t N b N' E ∧ Sep w0 w' (trH g gm ov' t N' c' ++ (Cs ++ (E ++ Ds))) := by
  refine Af (AgE hs hd hw hC hb hh hn) ?_
  rintro r w' (⟨he, rfl, hs'⟩ | ⟨he, rfl, ov', vd, hs'⟩)
  · exact ⟨N, ov, c, [], by rw [Ej, if_neg he], .inl ⟨he, rfl, rfl⟩, hs'⟩
  · exact ⟨_, ov', _, [ownB vd b.d], by rw [Ej, if_pos he, he], .inr ⟨he, vd, c, rfl, rfl⟩, hs'.perm ((List.perm_append_comm_assoc [ownB vd b.d] Cs Ds).append_left _)⟩
theorem VI {b : Blk} {v : Value} (Cs Ds : List Asn) (hs : Sep w0 w (rfH g lv t N ++ (Cs ++ Ds))) (hd : Dat N (Cs ++ Ds)) (hb : RdB w.heap v b.d) (hh : b.h ≤ maxI) (hn : N.length ≤ 1000000) :
    cal P Dq [.pointer (some ⟨g, 0, none⟩), bq b v] w fun r w' => ∃ N' lv' E, r = .tuple #[kv (Ej t N b), .int .i64 (addE t N b)] ∧ Aax t N b N' E ∧ Sep w0 w' (rfH g lv' t N' ++ (Cs ++ (E ++ Ds))) := by
  refine Af (Afh hs hd hb hh hn) ?_
  rintro r w' (⟨he, rfl, hs'⟩ | ⟨he, rfl, lv', vd, hs'⟩)
  · exact ⟨N, lv, [], by rw [Ej, if_neg he], .inl ⟨he, rfl, rfl⟩, hs'⟩
  · exact ⟨_, lv', [ownB vd b.d], by rw [Ej, if_pos he, he], .inr ⟨he, vd, 0, rfl, rfl⟩, hs'.perm ((List.perm_append_comm_assoc [ownB vd b.d] Cs Ds).append_left _)⟩
theorem AhA (h : kbs N = kbs M) (b : Blk) : addE t N b = addE t M b := by unfold addE; rw [D3 h, D3 h, ZV h, Gd h]
end
end Go.Fx
namespace Go.Fx
section
variable {w0 w w' : World} {As : List Asn} {g gt gm gs c : Nat} {ov v : Value} {p : Par} {t : Tr} {N : List TN} {S : SV} {m : Nat}
theorem X6 (p : Par) (r : Vec 32) (h mo : Int) : cal P La [pav p, kv r, .int .i64 h, .int .i64 mo] w fun v w' =>
    (∃ e, e ≠ 0 ∧ e = (if parE p ≠ 0 then parE p else 1) ∧ (parE p ≠ 0 ∨ ¬ (0 ≤ h ∧ 1 ≤ mo ∧ mo ≤ 256)) ∧ v = .tuple #[.pointer none, .int .i64 e] ∧ Fr [] w w') ∨
    ((parE p = 0 ∧ 0 ≤ h ∧ 1 ≤ mo ∧ mo ≤ 256) ∧ ∃ g gt gm gs, v = .tuple #[ptr g, .int .i64 0] ∧ Sep w w' (toH g gt gm gs (.slice none 0 0) p ⟨r, h, mo⟩ [] 0 fun _ => none)) := by
  refine AeI fun R hR => ?_
  unfold VD
  refine bxQ (Sep.start w) fun g4 w1 hs1 => ?_
  refine bxQ hs1 fun g5 w2 hs2 => ?_
  simp only [Bi (Sep.blk hs2.p1), AW (Sep.blk hs2.p1), AG (Sep.blk hs2.p1), AH (Sep.blk hs2.p1), AQ (Sep.blk hs2.p1)]
  refine Af Kd ?_
  rintro _ w3 ⟨rfl, hf3⟩
  have hs3 := hs2.old hf3
  try simp only [fx, Nat.reduceAdd, forall_const]
  rw [Aj]
  refine ⟨fun h1 => ?_, fun h1 => ?_⟩
  · have h1 : parE p ≠ 0 := by simpa using h1
    exact hR _ _ (.inl ⟨parE p, h1, by rw [if_pos h1], .inl h1, rfl, hs3.fr0⟩)
  have h1 : parE p = 0 := by simpa using h1
  simp only [Ai (Sep.blk hs3)]
  refine Af (Afg r h mo) ?_
  rintro _ w4 (⟨hno, rfl, hf4⟩ | ⟨hq, gt, gm, rfl, hs4⟩)
  · try simp only [fx, Nat.reduceAdd, forall_const, show ((1 : Int) != 0) = true from rfl]
    exact hR _ _ (.inl ⟨1, by decide, by rw [if_neg (by simpa using h1)], .inr hno, rfl, (hs3.old hf4).fr0⟩)
  · rw [AhY] at hs4
    replace hs4 := hs3.join hs4
    try simp only [fx, Nat.reduceAdd, forall_const, show ((0 : Int) != 0) = false from rfl]
    simp only [Bi (Sep.blk (Sep.pick hs4 [4] 5)), AW (Sep.blk (Sep.pick hs4 [4] 5)), AG (Sep.blk (Sep.pick hs4 [4] 5)), AH (Sep.blk (Sep.pick hs4 [4] 5)), AQ (Sep.blk (Sep.pick hs4 [4] 5))]
    refine RJ (n := 32) hs4 fun gs w5 hs5 => ?_
    rw [HG rfl rfl]
    refine bxQ hs5 fun g w6 hs6 => ?_
    exact hR _ _ (.inr ⟨⟨h1, hq⟩, g, gt, gm, gs, rfl, Sep.pick hs6 [0, 1, 2, 3, 4] 7⟩)
def Cc (t : Tr) (N : List TN) (S : SM) (b : Blk) : Vec 32 := if B5 t N S b = 0 then b.id else vz 32
structure AddT (p : Par) (t : Tr) (N : List TN) (S : SV) (b : Blk) (N' : List TN) (S' : SV) (E : List Asn) : Prop where
  no : B5 t N (svM S) b ≠ 0 → N' = N ∧ S' = S ∧ E = []
  yes : B5 t N (svM S) b = 0 → ∃ vd cc v x, N' = N ++ [(b.id, b, vd, cc)] ∧ S' = updV S b.p (v, x) ∧ svM S' = Hn p (svM S) b b.id ∧ E = [rows Ab v x.l, ownB vd b.d]
theorem AddT.dat {b : Blk} {N' : List TN} {S' : SV} {E As : List Asn} (h : AddT p t N S b N' S' E) (hd : Dat N As) (hs : SDat S As) : Dat N' (E ++ As) ∧ SDat S' (E ++ As) := by
  by_cases he : B5 t N (svM S) b = 0
  · obtain ⟨vd, cc, v, x, rfl, rfl, _, rfl⟩ := h.yes he
    exact ⟨hd.add.sub fun A hA => List.mem_cons_of_mem _ hA, (SDat.upd hs).sub fun A hA => by
      rcases List.mem_cons.1 hA with rfl | hA
      · exact List.mem_cons_self ..
      · exact List.mem_cons_of_mem _ (List.mem_cons_of_mem _ hA)⟩
  · obtain ⟨rfl, rfl, rfl⟩ := h.no he
    exact ⟨hd, hs⟩
set_option maxHeartbeats 1000000 in
theorem MF {b : Blk} (hs : Sep w0 w (toH g gt gm gs ov p t N c S ++ As)) (hd : Dat N As) (hsd : SDat S As) (hi : TpI p m t N (svM S)) (hC : Cub w0) (hb : ∀ z, Sep w0 z As → RdB z.heap v b.d) (hh : b.h ≤ maxI) (hn : N.length ≤ 1000000) :
    cal P El [ptr g, bq b v] w fun r w' => ∃ N' ov' c' S' E, r = .tuple #[kv (Cc t N (svM S) b), .int .i64 (B5 t N (svM S) b)] ∧ AddT p t N S b N' S' E ∧ Sep w0 w' (toH g gt gm gs ov' p t N' c' S' ++ (E ++ As)) := by
  refine V0 fun R hR => ?_
  unfold MA
  have hto : ∀ {z : World} {Xs : List Asn}, Sep w0 z (Xs ++ (toH g gt gm gs ov p t N c S ++ As)) → ToR z.heap g gt gm gs ov p t N c S := fun h => HV (Sep.dropL h) hd hsd
  have hbz : ∀ {z : World} {Xs : List Asn}, Sep w0 z (Xs ++ As) → RdB z.heap v b.d := fun h => hb _ (Sep.dropL h)
  refine bxQ hs fun g3 w1 hs1 => ?_
  refine Av hs1 (AS w1) fun g4 w2 hs2 => ?_
  refine Af (Dj (hto (Xs := [_, _]) hs2)) ?_
  rintro _ _ ⟨rfl, rfl⟩
  try simp only [fx, Nat.reduceAdd, forall_const]
  refine A0 hs2 fun w3 hs3 _ => ?_
  refine AF (v := .map (some gs)) (fun u hu K hk => (hto (Xs := [_, _]) hu).lds K hk) ?_
  refine ⟨kv b.p, fun u hu => (Am (Sep.blk hu.p1) _).mpr rfl, ?_⟩
  refine ⟨.tuple #[(svF S b.p).getD (snv (.slice none 0 0) snZ), .bool (svF S b.p).isSome], fun u hu => ((hto (Xs := [_, _]) hu).look b.p _).mpr rfl, ?_⟩
  rw [RB, Wm]
  try simp only [fx, Nat.reduceAdd, forall_const]
  refine AL (Av hs3 (Bo w3) fun g6 w4 hs4 => ⟨hs4.tail, ?_⟩)
  refine A9 (AJ (b := snr (svD S b.p).1 (svD S b.p).2) hs4 (AD ((hto (Xs := [_, _, _]) hs4).rwD b.p).one1) fun w5 hs5 => ?_)
  simp only [fx, Nat.reduceAdd, forall_const, Ar (Sep.blk hs5), Ad (Sep.blk hs5), Ae (Sep.blk hs5), Ac (Sep.blk hs5), Ag (Sep.blk hs5), Ah (Sep.blk hs5), ((hto (Xs := [_, _, _]) hs5).rwD b.p).len]
  have hf5 := hs5.fr0
  obtain ⟨L6, hL6⟩ : ∃ L6, L6 = blk g6 (Rdr.cells Aq (snr (svD S b.p).1 (svD S b.p).2)).toArray Ak :: blk g4 (Rdr.cells (rVec 32) (vz 32)).toArray Aa :: blk g3 (Rdr.cells Aw (b.p, b.h, v)).toArray Ao :: (toH g gt gm gs ov p t N c S ++ As) := ⟨_, rfl⟩
  have hdL : ∀ A ∈ As, A ∈ L6 := fun A hA => by
    rw [hL6]
    exact List.mem_cons_of_mem _ (List.mem_cons_of_mem _ (List.mem_cons_of_mem _ (List.mem_append_right _ hA)))
  have hbL : ∀ {z : World}, Sep w0 z L6 → RdB z.heap v b.d := fun h => by
    rw [hL6] at h
    exact hbz (Xs := [_, _, _, _, _, _, _, _]) h
  rw [Aj]
  refine ⟨fun h => ?_, fun h => ?_⟩
  · -- there is no room
    obtain ⟨v0, x, hS0, hx, hD⟩ := (TK S b.p).resolve_left (by rintro ⟨h1, _⟩; rw [h1] at h; simp at h)
    have h32 : 32 ≤ x.l.length := by
      rw [hD] at h
      simp only [Bool.and_eq_true, decide_eq_true_eq] at h
      have := h.2
      omega
    have hE : B5 t N (svM S) b = if addE t N b ≠ 0 then addE t N b else 6 := by
      unfold B5
      rw [hx]
      simp only [if_pos h32]
    have hE0 : B5 t N (svM S) b ≠ 0 := by
      rw [hE]
      split
      · assumption
      · decide
    have hend : ∀ {z : World} {e : Int}, e = B5 t N (svM S) b → Sep w0 z (toH g gt gm gs ov p t N c S ++ As) → R (.tuple #[kv (vz 32), .int .i64 e]) z := fun he hz =>
      hR _ _ ⟨N, ov, c, S, [], by rw [he, Cc, if_neg hE0], ⟨fun _ => ⟨rfl, rfl, rfl⟩, fun h => absurd h hE0⟩, hz⟩
    refine A0 hs5 fun w6 hs6 _ => ?_
    rw [← hL6] at hs6 ⊢
    have htoL : ∀ {u : World}, Sep w0 u L6 → ToR u.heap g gt gm gs ov p t N c S := fun hu => by
      rw [hL6] at hu
      exact hto (Xs := [_, _, _]) hu
    refine ⟨fun a z => a = .int .i64 (addE t N b) ∧ Sep w0 z L6, ?_, ?_⟩
    · refine AF (v := ptr gt) (fun u hu K hk => (htoL hu).ldt K hk) ?_
      refine ⟨bq b v, fun u hu => ?_, ?_⟩
      · rw [hL6] at hu
        exact (AA (Sep.blk (Sep.p2 hu)) _).mpr rfl
      refine ⟨?_, ?_, trivial⟩
      · refine AL (Af (HQ (htoL hs6).tr hn) ?_)
        rintro _ w7 ⟨g', gm', ov', c', rfl, hs7⟩
        replace hs7 := hs6.join hs7
        refine ⟨Sep.dropL (As := trH g' gm' ov' t N c') hs7, ?_, ?_, trivial⟩
        · refine Cl (Af (AddU [] L6 (g := g') hs7 (hd.sub hdL) hi.tm.w (hC.fr hs7.fr0) (hbL (Sep.dropL (As := trH g' gm' ov' t N c') hs7)) hh hn) ?_)
          rintro _ w8 ⟨N2, ov2, c2, E2, rfl, _, hs8⟩
          have hs9 : Sep w0 w8 L6 := Sep.dropL (As := E2) (Sep.dropL (As := trH g' gm' ov2 t N2 c2) hs8)
          refine ⟨fun u => Sep w0 u L6, hs9, ?_⟩
          try simp only [fx, Nat.reduceAdd, forall_const]
          refine AL (Av hs9 (AS w8) fun g8 w10 hs10 => ⟨hs10.tail, ?_⟩)
          refine A9 (AE (b := Ej t N b) hs10 fun w11 hs11 => ?_)
          exact ⟨by first | rfl | trivial, hs11.tail⟩
        · refine AL (Av hs7 (AS w7) fun g8 w8 hs8 => ⟨Sep.dropL (As := trH g' gm' ov' t N c') hs8.tail, ?_⟩)
          refine Cl (Af (AddU [] (blk g8 (Rdr.cells (rVec 32) (vz 32)).toArray Aa :: L6) (g := g') (Sep.pick hs8 [1, 2, 3, 0] 4) (hd.sub fun A hA => List.mem_cons_of_mem _ (hdL A hA)) hi.tm.w (hC.fr hs8.fr0) (hbL (Sep.dropL (As := trH g' gm' ov' t N c') hs8.tail)) hh hn) ?_)
          rintro _ w9 ⟨N2, ov2, c2, E2, rfl, _, hs9⟩
          have hs10 : Sep w0 w9 (blk g8 (Rdr.cells (rVec 32) (vz 32)).toArray Aa :: L6) := Sep.dropL (As := E2) (Sep.dropL (As := trH g' gm' ov2 t N2 c2) hs9)
          refine ⟨fun u => Sep w0 u L6, hs10.tail, ?_⟩
          try simp only [fx, Nat.reduceAdd, forall_const]
          refine A9 (AE (b := Ej t N b) hs10 fun w11 hs11 => ?_)
          exact ⟨by first | rfl | trivial, hs11.tail⟩
      · refine AL (Av hs6 (AS w6) fun g8 w7 hs7 => ⟨hs7.tail, ?_⟩)
        refine AL (Af (HQ (htoL hs7.tail).tr hn) ?_)
        rintro _ w8 ⟨g', gm', ov', c', rfl, hs8⟩
        replace hs8 := hs7.join hs8
        refine ⟨(Sep.dropL (As := trH g' gm' ov' t N c') hs8).tail, ?_⟩
        refine Cl (Af (AddU [] (blk g8 (Rdr.cells (rVec 32) (vz 32)).toArray Aa :: L6) (g := g') hs8 (hd.sub fun A hA => List.mem_cons_of_mem _ (hdL A hA)) hi.tm.w (hC.fr hs8.fr0) (hbL (Sep.dropL (As := trH g' gm' ov' t N c') hs8).tail) hh hn) ?_)
        rintro _ w9 ⟨N2, ov2, c2, E2, rfl, _, hs9⟩
        have hs10 : Sep w0 w9 (blk g8 (Rdr.cells (rVec 32) (vz 32)).toArray Aa :: L6) := Sep.dropL (As := E2) (Sep.dropL (As := trH g' gm' ov2 t N2 c2) hs9)
        refine ⟨fun u => Sep w0 u L6, hs10.tail, ?_⟩
        try simp only [fx, Nat.reduceAdd, forall_const]
        refine A9 (AE (b := Ej t N b) hs10 fun w11 hs11 => ?_)
        exact ⟨by first | rfl | trivial, hs11.tail⟩
    rintro _ w7 ⟨rfl, hs7⟩ _
    rw [hL6] at hs7
    try simp only [fx, Nat.reduceAdd, forall_const]
    rw [Aj]
    refine ⟨fun h2 => ?_, fun h2 => ?_⟩
    · have h2 : addE t N b ≠ 0 := by simpa using h2
      rw [IQ]
      refine AE hs7.p1 fun w8 hs8 => ?_
      simp only [Ai hs8.blk]
      exact hend (by rw [hE, if_pos h2]) (Sep.dropL (As := [_, _, _]) hs8)
    · have h2 : ¬ addE t N b ≠ 0 := by simpa using h2
      rw [IQ]
      refine AE hs7.p1 fun w8 hs8 => ?_
      simp only [Ai hs8.blk]
      exact hend (by rw [hE, if_neg h2]) (Sep.dropL (As := [_, _, _]) hs8)
  · -- there is room
    have hroom : ∀ x, svM S b.p = some x → x.l.length < 32 := fun x hx => by
      obtain ⟨v0, hS0⟩ := UL hx
      have hD : svD S b.p = (v0, x) := by unfold svD; rw [hS0]; rfl
      rw [hD, hS0] at h
      simp only [Option.isSome_some, Bool.true_and, decide_eq_false_iff_not] at h
      have h : ¬ (32 : Int) ≤ x.l.length := h
      omega
    have hE : B5 t N (svM S) b = addE t N b := by
      unfold B5
      split
      · rfl
      · rename_i h1
        have h1 : addE t N b = 0 := by simpa using h1
        rw [h1]
        cases hx : svM S b.p with
        | none => rfl
        | some x =>
          have := hroom x hx
          simp only
          rw [if_neg (by omega)]
    refine A0 hs5 fun w6 hs6 _ => ?_
    refine ⟨fun a e z => ∃ g10 N' ov' c' E, a = ptr g10 ∧ e = .int .i64 (addE t N b) ∧ Aax t N b N' E ∧ Sep w0 z (blk g10 (Rdr.cells (rVec 32) (Ej t N b)).toArray Aa :: blk g6 (Rdr.cells Aq (snr (svD S b.p).1 (svD S b.p).2)).toArray Ak :: blk g4 (Rdr.cells (rVec 32) (vz 32)).toArray Aa :: blk g3 (Rdr.cells Aw (b.p, b.h, v)).toArray Ao ::
      blk g (Rdr.cells AP (toq p gt gs)).toArray Bj :: mpK gs (svF S) :: (trH gt gm ov' t N' c' ++ (E ++ As))), ?_, ?_⟩
    · refine AF (v := ptr gt) (fun u hu K hk => (hto (Xs := [_, _, _]) hu).ldt K hk) ?_
      refine ⟨bq b v, fun u hu => (AA (Sep.blk (Sep.p2 hu)) _).mpr rfl, ?_⟩
      refine ⟨?_, ?_, trivial⟩
      · refine Cl (Af (AddU [blk g6 (Rdr.cells Aq (snr (svD S b.p).1 (svD S b.p).2)).toArray Ak, blk g4 (Rdr.cells (rVec 32) (vz 32)).toArray Aa, blk g3 (Rdr.cells Aw (b.p, b.h, v)).toArray Ao, blk g (Rdr.cells AP (toq p gt gs)).toArray Bj, mpK gs (svF S)] As (g := gt) (Sep.pick hs6 [5, 6, 7, 0, 1, 2, 3, 4] 8) (hd.sub fun A hA => List.mem_append_right _ hA) hi.tm.w (hC.fr hs6.fr0) (hbz (Xs := [_, _, _, _, _, _, _, _]) hs6) hh hn) ?_)
        rintro _ w7 ⟨N', ov', c', E, rfl, hAR, hs7⟩
        refine ⟨fun u => Sep w0 u _, hs7, ?_⟩
        try simp only [fx, Nat.reduceAdd, forall_const]
        refine AL (Av hs7 (AS w7) fun g10 w8 hs8 => ⟨hs8.tail, ?_⟩)
        refine A9 (AE (b := Ej t N b) hs8 fun w9 hs9 => ?_)
        exact ⟨g10, N', ov', c', E, by first | rfl | trivial, by first | rfl | trivial, hAR, Sep.pick hs9 [0, 4, 5, 6, 7, 8, 1, 2, 3] 9⟩
      · refine AL (Av hs6 (AS w6) fun g10 w7 hs7 => ⟨hs7.tail, ?_⟩)
        refine BD (Af (AddU [blk g10 (Rdr.cells (rVec 32) (vz 32)).toArray Aa, blk g6 (Rdr.cells Aq (snr (svD S b.p).1 (svD S b.p).2)).toArray Ak, blk g4 (Rdr.cells (rVec 32) (vz 32)).toArray Aa, blk g3 (Rdr.cells Aw (b.p, b.h, v)).toArray Ao, blk g (Rdr.cells AP (toq p gt gs)).toArray Bj, mpK gs (svF S)] As (g := gt) (Sep.pick hs7 [6, 7, 8, 0, 1, 2, 3, 4, 5] 9) (hd.sub fun A hA => List.mem_append_right _ hA) hi.tm.w (hC.fr hs7.fr0) (hbz (Xs := [_, _, _, _, _, _, _, _, _]) hs7) hh hn) ?_)
        rintro _ w8 ⟨N', ov', c', E, rfl, hAR, hs8⟩
        try simp only [fx, Nat.reduceAdd, forall_const]
        refine A9 (AE (b := Ej t N b) (Sep.pick hs8 [3, 0, 1, 2, 4, 5, 6, 7, 8] 9) fun w9 hs9 => ?_)
        exact ⟨g10, N', ov', c', E, by first | rfl | trivial, by first | rfl | trivial, hAR, Sep.pick hs9 [0, 4, 5, 6, 7, 8, 1, 2, 3] 9⟩
    rintro _ _ w7 ⟨g10, N', ov', c', E, rfl, rfl, hAR, hs7⟩ _
    try simp only [fx, Nat.reduceAdd, forall_const]
    rw [Aj]
    refine ⟨fun h2 => ?_, fun h2 => ?_⟩
    · have h2 : addE t N b ≠ 0 := by simpa using h2
      obtain ⟨_, rfl, rfl⟩ := hAR.resolve_right fun hq => h2 hq.1
      rw [IQ]
      refine AE hs7.p2 fun w8 hs8 => ?_
      simp only [Ai hs8.blk]
      have hE0 : B5 t N' (svM S) b ≠ 0 := by rw [hE]; exact h2
      exact hR _ _ ⟨N', ov', c', S, [], by rw [Cc, if_neg hE0, hE], ⟨fun _ => ⟨rfl, rfl, rfl⟩, fun hq => absurd hq hE0⟩, Sep.dropL (As := [_, _, _, _]) hs8⟩
    have h2 : addE t N b = 0 := by simpa using h2
    obtain ⟨_, vd, cc, rfl, rfl⟩ := hAR.resolve_left fun hq => hq.1 h2
    have hE0 : B5 t N (svM S) b = 0 := by rw [hE]; exact h2
    have hid : Ej t N b = b.id := by rw [Ej, if_pos h2]
    rw [hid] at hs7
    obtain ⟨a1, a2, a3, a4, a5, a6⟩ := Li h2
    refine ⟨fun a z => ∃ v1 x1, a = .int .i64 0 ∧ svM (updV S b.p (v1, x1)) = Hn p (svM S) b b.id ∧ Sep w0 z (rows Ab v1 x1.l :: blk g10 (Rdr.cells (rVec 32) b.id).toArray Aa :: blk g6 (Rdr.cells Aq (snr v1 x1)).toArray Ak :: blk g4 (Rdr.cells (rVec 32) (vz 32)).toArray Aa :: blk g3 (Rdr.cells Aw (b.p, b.h, v)).toArray Ao ::
      blk g (Rdr.cells AP (toq p gt gs)).toArray Bj :: mpK gs (svF S) :: (trH gt gm ov' t (N ++ [(b.id, b, vd, cc)]) c' ++ ([ownB vd b.d] ++ As))), ?_, ?_⟩
    · change cnd _ _ _
      rw [Aj]
      refine ⟨fun h3 => ?_, fun h3 => ?_⟩
      · obtain ⟨v0, x, hS0, hx, hD⟩ := (TK S b.p).resolve_left (by rintro ⟨h1, _⟩; rw [h1] at h3; cases h3)
        have hmx := hi.may _ _ hx
        have hadd : addM p x b.id = ({ x with l := x.l ++ [(b.id, 0)] }, 0) := by
          rcases W9 (id := b.id) hmx with hq | ⟨hq, _⟩
          · exfalso
            have hno : ¬ 0 ≤ plc x.l b.id := fun hp => by
              obtain ⟨i, d, _, hd, hd1, _⟩ := Js hp
              have : b.id ∈ x.l.map (·.1) := by rw [← hd1]; exact List.mem_map_of_mem (List.mem_of_getElem? hd)
              rw [(hi.kids _ x hx).2, C3 hi.tm.w hi.tm.nd, a2] at this
              cases this.2.1
            apply hq
            have := hroom x hx
            rw [addM, if_neg (by simpa using Ft.2 hmx), if_neg hno, if_neg (by omega)]
          · exact hq
        rw [hD] at hs7
        have hrow : ∀ {z : World} {Xs : List Asn}, Sep w0 z (Xs ++ ([ownB vd b.d] ++ As)) → AB Ab z.heap v0 x.l := fun {z Xs} hz => by
          obtain ⟨F, hF⟩ := hz.onL (A := rows Ab v0 x.l) (List.mem_append_right _ (List.mem_append_right _ (hsd b.p (v0, x) hS0)))
          exact Own.cel hF
        refine A0 hs7 fun w8 hs8 _ => ?_
        refine ⟨pav p, fun u hu => (EC (Sep.blk (Sep.p4 hu)) _).mpr rfl, ?_⟩
        refine ⟨snv v0 x, fun u hu => (Ar (Sep.blk hu.p1) _).mpr rfl, ?_⟩
        refine ⟨kv b.id, fun u hu => (Ai (Sep.blk hu) _).mpr rfl, ?_⟩
        have hrw := hrow (Xs := [_, _, _, _, _, _, _, _, _]) hs8
        refine BD (Af (AdK hrw (by have := hmx.n2; omega) hrw.one1) ?_)
        rintro _ w9 ⟨v1, rfl, hs9⟩
        rw [hadd] at hs9 ⊢
        have hs10 := hs8.join hs9
        try simp only [fx, Nat.reduceAdd, forall_const]
        refine A9 (AJ (b := snr v1 { x with l := x.l ++ [(b.id, 0)] }) (Sep.pick hs10 [2, 0, 1, 3, 4, 5, 6, 7, 8, 9] 10) (AD (Sep.oneR hs10)) fun w11 hs11 => ?_)
        refine ⟨v1, { x with l := x.l ++ [(b.id, 0)] }, by first | rfl | trivial, ?_, Sep.pick hs11 [1, 2, 0, 3, 4, 5, 6, 7, 8, 9] 10⟩
        rw [RY]
        unfold Hn
        rw [hx]
      · have hx : svM S b.p = none := by
          unfold svM
          cases hq : S b.p with
          | none => rfl
          | some q => rw [hq] at h3; cases h3
        obtain ⟨_, hn2, _, _⟩ := WK (id := b.id) hi.par
        refine A0 hs7 fun w8 hs8 _ => ?_
        refine ⟨pav p, fun u hu => (EC (Sep.blk (Sep.p4 hu)) _).mpr rfl, ?_⟩
        refine ⟨kv b.id, fun u hu => (Ai (Sep.blk hu) _).mpr rfl, ?_⟩
        refine BD (Af Aem ?_)
        rintro _ w9 ⟨v1, rfl, hs9⟩
        rw [hn2]
        have hs10 := hs8.join hs9
        try simp only [fx, Nat.reduceAdd, forall_const]
        refine A9 (AJ (b := snr v1 (newM p b.id).1) (Sep.pick hs10 [2, 0, 1, 3, 4, 5, 6, 7, 8, 9] 10) (AD (Sep.oneR hs10)) fun w11 hs11 => ?_)
        refine ⟨v1, (newM p b.id).1, by first | rfl | trivial, ?_, Sep.pick hs11 [1, 2, 0, 3, 4, 5, 6, 7, 8, 9] 10⟩
        rw [RY]
        unfold Hn
        rw [hx]
    rintro _ w8 ⟨v1, x1, rfl, hSM, hs8⟩ _
    refine ⟨fun z => Sep w0 z (rows Ab v1 x1.l :: blk g10 (Rdr.cells (rVec 32) b.id).toArray Aa :: blk g4 (Rdr.cells (rVec 32) (vz 32)).toArray Aa ::
      blk g (Rdr.cells AP (toq p gt gs)).toArray Bj :: mpK gs (svF (updV S b.p (v1, x1))) :: (trH gt gm ov' t (N ++ [(b.id, b, vd, cc)]) c' ++ ([ownB vd b.d] ++ As))), ?_, ?_⟩
    · try simp only [fx, Nat.reduceAdd, forall_const, show ((0 : Int) == 0) = true from rfl]
      refine A0 hs8 fun w9 hs9 _ => ?_
      refine AF (v := .map (some gs)) (fun u hu K hk => (C1 (Sep.blk (Sep.p5 hu)) K).mpr hk) ?_
      refine ⟨kv b.p, fun u hu => (Am (Sep.blk (Sep.p4 hu)) _).mpr rfl, ?_⟩
      refine ⟨snv v1 x1, fun u hu => (Ar (Sep.blk (Sep.p2 hu)) _).mpr rfl, ?_⟩
      refine ND (U4 Ch KT (Sep.pick hs9 [6, 0, 1, 3, 5, 7, 8, 9] 10) fun w10 hs10 => ?_)
      rw [WN S b.p (v1, x1)] at hs10
      exact Sep.pick hs10 [1, 2, 3, 4, 0] 5
    rintro w9 hs9 _
    simp only [Ai (Sep.blk hs9.p1)]
    refine AE hs9.p2 fun w10 hs10 => ?_
    simp only [Ai (Sep.blk hs10)]
    refine hR _ _ ⟨N ++ [(b.id, b, vd, cc)], ov', c', updV S b.p (v1, x1), [rows Ab v1 x1.l, ownB vd b.d], by rw [Cc, if_pos hE0, hE0], ⟨fun hq => absurd hE0 hq, fun _ => ⟨vd, cc, v1, x1, rfl, rfl, hSM, rfl⟩⟩, ?_⟩
    exact Sep.pick hs10 [3, 4, 5, 6, 7, 1, 8] 9
end
end Go.Fx
namespace Go.Fx
section
variable {w0 w w' : World} {As : List Asn} {gx o : Nat} {ids : List (Vec 32)} {hs : List Int} {x : AC}
theorem AeG {cur : Array Value} {T : TypeId} {x y v : Value} {b : Blk} {id : Vec 32} (hs0 : Sep w0 w (blk gx cur T :: rows (rVec 32) x ids :: rows (rInt .i64) y hs :: As)) (hcx : cur[o]? = some x) (hcy : cur[o + 1]? = some y) (hl1 : ids.length ≤ 1000000) (hl2 : hs.length ≤ 1000000) :
    cal P GV [.pointer (some ⟨gx, o, none⟩), kv id, bq b v] w fun r w' => r = .tuple #[] ∧ ∃ x' y', Sep w0 w' (blk gx ((cur.setIfInBounds o x').setIfInBounds (o + 1) y') T :: rows (rVec 32) x' (ids ++ [id]) :: rows (rInt .i64) y' (hs ++ [b.h]) :: As) := by
  have ho : o + 1 < cur.size := (Array.getElem?_eq_some_iff.1 hcy).1
  refine QQ fun R hR => ?_
  unfold JP
  refine bxQ hs0 fun g4 w1 hs1 => ?_
  refine bxQ hs1 fun g5 w2 hs2 => ?_
  refine ⟨fun u => Sep w0 u (blk g5 (Rdr.cells Aw (b.p, b.h, v)).toArray Ao :: blk g4 (Rdr.cells (rVec 32) id).toArray Aa :: blk gx cur T :: As), Sep.pick (hs2.drew _) [0, 1, 2] 5, ?_⟩
  refine ⟨fun z => ∃ x' y', Sep w0 z (blk gx ((cur.setIfInBounds o x').setIfInBounds (o + 1) y') T :: rows (rVec 32) x' (ids ++ [id]) :: rows (rInt .i64) y' (hs ++ [b.h]) :: As), ?_, ?_⟩
  · try simp only [fx, Nat.reduceAdd, forall_const]
    refine AF (v := x) (fun u hu K hk => Co (Sep.blk (Sep.p2 hu)) hcx hk) ?_
    refine ⟨kv id, fun u hu => (Ai (Sep.blk (Sep.p1 hu)) _).mpr rfl, ?_⟩
    refine AF (v := y) (fun u hu K hk => Co (Sep.blk (Sep.p2 hu)) hcy hk) ?_
    refine AF (v := .int .i64 b.h) (fun u hu K hk => (Ap (Sep.blk hu) K).mpr hk) ?_
    refine Af2 (Sep.pick (hs2.drew _) [3, 4, 0, 1, 2] 5) hl1 hl2 fun x' y' z hz => ?_
    refine Dd (Ib (Sep.pick hz [4, 0, 1, 2, 3] 5) (by omega) (Sep.oneR hz) fun z2 hz2 => ?_)
    refine Dd (Ib hz2 (by simp; omega) (Sep.oneR (Sep.pick hz2 [2] 3)) fun z3 hz3 => ?_)
    exact ⟨x', y', Sep.pick hz3 [0, 1, 2] 5⟩
  · rintro z ⟨x', y', hz⟩ _
    exact hR _ _ ⟨rfl, x', y', hz⟩
end
def wH (gw g gt gm gs : Nat) (ov : Value) (p : Par) (t : Tr) (N : List TN) (c : Nat) (S : SV) (xi yh lv gv : Value) (ids : List (Vec 32)) (hs : List Int) (line gone : List (Vec 32)) : List Asn :=
  blk gw (Rdr.cells D5 (ptr g, (xi, yh), lv, gv)).toArray Px :: rows (rVec 32) xi ids :: rows (rInt .i64) yh hs :: rows (rVec 32) lv line :: rows (rVec 32) gv gone :: toH g gt gm gs ov p t N c S
section
variable {w0 w w' : World} {As : List Asn} {gw g gt gm gs c : Nat} {ov xi yh lv gv : Value} {p : Par} {t : Tr} {N : List TN} {S : SV} {ids line gone : List (Vec 32)} {hs : List Int} {x : AC} {m : Nat}
end
end Go.Fx
namespace Go.Fx
theorem Lc {α : Type} (q : Rdr α) (h : Heap) : AB q h (.slice none 0 0) [] := ⟨none, 0, rfl, by simp, .inl (by simp)⟩
section
variable {w0 w w' : World} {As : List Asn} {gw g gt gm gs c : Nat} {ov xi yh lv gv : Value} {p : Par} {t : Tr} {N : List TN} {S : SV} {ids line gone : List (Vec 32)} {hs : List Int} {x : AC} {m : Nat}
end
end Go.Fx
namespace Go.Fx
structure TwD where
  gs : Nat
  c : Nat
  ov : Value
  xi : Value
  yh : Value
  lv : Value
  gv : Value
  t : Tr
  N : List TN
  S : SV
  ids : List (Vec 32)
  hs : List Int
  line : List (Vec 32)
  gone : List (Vec 32)
  As : List Asn
abbrev TwD.L (d : TwD) (gw g gt gm : Nat) (p : Par) : List Asn := wH gw g gt gm d.gs d.ov p d.t d.N d.c d.S d.xi d.yh d.lv d.gv d.ids d.hs d.line d.gone
structure TwI (w0 : World) (gw g gt gm : Nat) (p : Par) (n : Nat) (d : TwD) (z : World) : Prop where
  sep : Sep w0 z (d.L gw g gt gm p ++ d.As)
  dat : Dat d.N d.As
  sdat : SDat d.S d.As
  tp : TpI p n d.t d.N (svM d.S)
  hl : d.hs.length = d.ids.length
  h0 : 0 < d.ids.length
  hn : d.ids.length ≤ n + 1
  pos : ∀ y ∈ d.hs, 0 ≤ y
  cnt : d.line.length + d.gone.length + d.N.length ≤ n
theorem TpI.mono {p : Par} {m m' : Nat} {t : Tr} {N : List TN} {S : SM} (h : TpI p m t N S) (hm : m ≤ m') : TpI p m' t N S := ⟨h.tm.mono hm, h.par, h.may, h.no, h.kids, h.undone⟩
inductive AdP (p : Par) (x : AC) (d d' : TwD) (r : Value) : Prop
  | add (h1 : x.poll = false) (h2 : r = .bool false) (h3 : d'.t = d.t) (h4 : d'.line = d.line) (h5 : d'.gone = d.gone) (h6 : ∀ k y, svM d.S k = some y → ∃ y', svM d'.S k = some y' ∧ prf y' = prf y) : AdP p x d d' r
  | no (h1 : x.poll = true) (h2 : Dx p (E4 d.ids x.fs []) ≠ 0) (h3 : r = .bool false) (h4 : d'.t = d.t) (h5 : d'.S = d.S) (h6 : d'.line = d.line) (h7 : d'.gone = d.gone) (h8 : d'.N = d.N) : AdP p x d d' r
  | poll (h1 : x.poll = true) (h2 : Dx p (E4 d.ids x.fs []) = 0) (h3 : r = .bool true) (s : PS) (h4 : RI p (E4 d.ids x.fs []) d.t d.N (svM d.S) s) (h5 : d'.t = s.t) (h6 : s.N = sN d'.N) (h7 : svM d'.S = Fo p s.t s.N s.S s.pol) (h8 : d'.line = d.line ++ s.acc) (h9 : d'.gone = d.gone ++ s.rej) : AdP p x d d' r
section
variable {w0 z : World} {gw g gt gm n : Nat} {p : Par} {d : TwD} {x : AC}
theorem TwI.to (h : TwI w0 gw g gt gm p n d z) : ToR z.heap g gt gm d.gs d.ov p d.t d.N d.c d.S := by
  have h1 := Sep.pick h.sep [5, 6, 7, 8, 9] 10
  exact HV h1 h.dat h.sdat
theorem TwI.nm (h : TwI w0 gw g gt gm p n d z) : NmR z.heap gw 1 d.ids d.hs := ⟨_, _, _, d.xi, d.yh, Sep.blk h.sep, rfl, rfl, Sep.rows h.sep.tail, Sep.rows h.sep.tail.tail⟩
theorem TwI.ldt (h : TwI w0 gw g gt gm p n d z) (K : Value → Prop) : ld1 (.pointer (some ⟨gw, 0, none⟩)) z.heap K = K (ptr g) := Ni (Sep.blk h.sep) K
theorem TwI.ldx (h : TwI w0 gw g gt gm p n d z) (K : Value → Prop) : ld1 (.pointer (some ⟨gw, 1, none⟩)) z.heap K = K d.xi := Kb (Sep.blk h.sep) K
theorem TwI.rids (h : TwI w0 gw g gt gm p n d z) : AB (rVec 32) z.heap d.xi d.ids := Sep.rows h.sep.tail
theorem TwI.more {z' : World} {Bs : List Asn} (h : TwI w0 gw g gt gm p n d z) (hs : Sep w0 z' (Bs ++ (d.L gw g gt gm p ++ d.As))) : TwI w0 gw g gt gm p n { d with As := Bs ++ d.As } z' :=
  ⟨hs.perm (GC Bs [_, _, _, _, _, _, _, _, _, _] d.As), h.dat.sub fun A hA => List.mem_append_right _ hA, h.sdat.sub fun A hA => List.mem_append_right _ hA, h.tp, h.hl, h.h0, h.hn, h.pos, h.cnt⟩
theorem TwI.at (h : TwI w0 gw g gt gm p n d z) {z' : World} (hs : Sep w0 z' (d.L gw g gt gm p ++ d.As)) : TwI w0 gw g gt gm p n d z' := ⟨hs, h.dat, h.sdat, h.tp, h.hl, h.h0, h.hn, h.pos, h.cnt⟩
theorem TwI.fr {z' : World} (h : TwI w0 gw g gt gm p n d z) (hf : Fr [] z z') : TwI w0 gw g gt gm p n d z' := h.at (h.sep.old hf)
theorem TwI.mono {n' : Nat} (h : TwI w0 gw g gt gm p n d z) (hn : n ≤ n') : TwI w0 gw g gt gm p n' d z := ⟨h.sep, h.dat, h.sdat, h.tp.mono hn, h.hl, h.h0, Nat.le_trans h.hn (by omega), h.pos, Nat.le_trans h.cnt hn⟩
theorem Ahv {t : Tr} {N : List TN} {S : SM} {b : Blk} (h : B5 t N S b = 0) : 0 ≤ b.h := by
  obtain ⟨h1, _⟩ := AaW h
  obtain ⟨a1, _⟩ := Li h1
  exact (Blk.chk_ok a1).1
end
end Go.Fx
namespace Go.Fx
theorem CH.root {p : Par} {V : List Vt} {a s : PS} (h : CH p V a s) : s.t.root = a.t.root ∨ s.t.root ∈ s.acc := by
  induction h with
  | refl => exact .inl rfl
  | step h1 h2 ih =>
    rename_i b c
    unfold pstep at h2
    cases hx : b.S b.pos with
    | none => rw [hx] at h2; cases h2
    | some x =>
      rw [hx] at h2
      simp only at h2
      split at h2
      · simp only [Option.some.injEq] at h2
        subst h2
        right
        show prf x ∈ b.acc ++ [prf x]
        simp
      · split at h2
        · cases h2
        · simp only [Option.some.injEq] at h2
          subst h2
          exact ih
section
variable {p : Par} {V : List Vt} {m : Nat} {t : Tr} {N : List TN} {S : SM}
end
section
variable {w w0 : World} {g gm c : Nat} {ov : Value} {t : Tr} {N : List TN}
end
end Go.Fx
namespace Go.Fx
theorem Ip {α β : Type} {q : Rdr α} {s : Rdr β} {off : Nat} {get : α → β} {set : α → β → α} (f : Fld q s off get set) {S : World → Prop} {w : World} {v : Value} {l : List α} {j : Nat} {a : α} {K : Value → Prop} (hp : 0 < q.size)
    (hw : S w) (hS : ∀ u, S u → AB q u.heap v l) (hj : l[j]? = some a) (k : IntKind) (h : K (.agg (s.cells (get a)).toArray)) : ixs q.size v (.int k (j : Int)) fun t => fad off t fun p => rdS S (fun w => Go.Fx.ldN s.size p w.heap) K := by
  obtain ⟨g, o, c, rfl⟩ := (hS w hw).form hp hj
  have hlt := (List.getElem?_eq_some_iff.1 hj).1
  rw [DJ _ _ _ _ _ _ _ _ (by omega) (by omega), Int.toNat_natCast, Lz]
  refine ⟨_, fun z hz => ?_, h⟩
  have hat := f.at (At.of hp (hS z hz) hj)
  exact (hat.ldN (s.len _) _).mpr rfl
theorem Abv {α β : Type} {q : Rdr α} {s : Rdr β} {w0 w : World} {As : List Asn} {off off' : Nat} {get : α → β} {set : α → β → α} (f : Fld q s off get set) {g o c j : Nat} {l : List α} {a : α} {b : β} {K : World → Prop}
    (hs : Sep w0 w (Go.Fx.rows q (.slice (some ⟨g, o, none⟩) l.length c) l :: As)) (hj : l[j]? = some a) (hoff : off' = o + j * q.size + off) (h1 : ∀ u ∈ s.cells b, u.oneCell' = true) (h0 : 0 < s.size)
    (h : ∀ w', Sep w0 w' (Go.Fx.rows q (.slice (some ⟨g, o, none⟩) l.length c) (l.set j (set a b)) :: As) → K w') : stN s.size (.pointer (some ⟨g, off', none⟩)) (.agg (s.cells b).toArray) w K := by
  subst hoff
  obtain ⟨F, ho, hu⟩ := hs.upd
  have hlt := (List.getElem?_eq_some_iff.1 hj).1
  obtain ⟨pre, post, e1, e2, e3⟩ := f.spec a b
  obtain ⟨pre', post', d1, d2, d3⟩ := M3 (q := q) (b := set a b) hj
  have hl1 : (s.cells (get a)).length = s.size := s.len _
  have hl2 : (s.cells b).length = s.size := s.len _
  have hsz : q.size = pre.length + s.size + post.length := by rw [← q.len a, e1]; simp; omega
  have hb : j * q.size + q.size ≤ l.length * q.size := by rw [← Nat.succ_mul]; exact Nat.mul_le_mul_right _ hlt
  obtain ⟨hl, ⟨hv, _⟩ | ⟨g', o', cap, cur, E, hv, hn, hg, hfit, hcs, rfl⟩⟩ := ho
  · cases hv
  · cases hv
    have hcap : l.length * q.size ≤ c * q.size := Nat.mul_le_mul_right _ hn
    obtain ⟨A, hA⟩ : ∃ A, A = cur.toList.take o := ⟨_, rfl⟩
    obtain ⟨B, hB⟩ : ∃ B, B = (cur.toList.drop o).drop (l.length * q.size) := ⟨_, rfl⟩
    have hAl : A.length = o := by rw [hA, List.length_take]; simp; omega
    have hcur : cur.toList = (A ++ pre' ++ pre) ++ s.cells (get a) ++ (post ++ post' ++ B) := by
      have e : cur.toList = A ++ ((l.flatMap q.cells) ++ B) := by rw [← hcs, hA, hB, List.take_append_drop, List.take_append_drop]
      rw [e, d1, e1]
      simp
    have ecur : cur = ((A ++ pre' ++ pre) ++ s.cells (get a) ++ (post ++ post' ++ B)).toArray := Array.ext' (by rw [hcur])
    refine AeK hg (by simpa using hl2) (by omega) (by simpa using h1) fun w' hg' hf => h w' ?_
    have hll : (l.set j (set a b)).length = l.length := by simp
    refine hu w' [g] _ ?_ hf (Grew.refl _ _)
    show Own w'.heap _ q.size (l.set j (set a b)).length _ [g]
    rw [hll]
    have esp : splice cur (o + j * q.size + off) (s.cells b) = ((A ++ pre' ++ pre) ++ s.cells b ++ (post ++ post' ++ B)).toArray := by
      rw [ecur]
      exact Oc (by simp; omega) (by omega)
    have hg2 : w'.heap[g]? = some (.cells ((A ++ pre' ++ pre) ++ s.cells b ++ (post ++ post' ++ B)).toArray E (0, 0)) := by
      rw [hg']
      show some (Obj.cells (splice cur (o + j * q.size + off) (s.cells b)) E (0, 0)) = _
      rw [esp]
    refine ⟨by rw [Eg q.len, hll], .inr ⟨g, o, c, _, E, rfl, hn, hg2, ?_, ?_, rfl⟩⟩
    · rw [ecur] at hfit
      simp only [List.size_toArray, List.length_append] at hfit ⊢
      omega
    · rw [d2, e2]
      have hlen : (pre' ++ (pre ++ s.cells b ++ post) ++ post').length = l.length * q.size := by rw [← e2, ← d2, Eg q.len, hll]
      rw [show (A ++ pre' ++ pre ++ s.cells b ++ (post ++ post' ++ B)) = A ++ ((pre' ++ (pre ++ s.cells b ++ post) ++ post') ++ B) by simp]
      show List.take _ (List.drop o (A ++ _)) = _
      rw [List.drop_left' hAl, List.take_left' hlen]
def inst (e : Vec 32 × Value × Sn) : Vec 32 × (Value × Id × Id × Int × Bool) := (e.1, snr e.2.1 e.2.2)
def IM (I : List (Vec 32 × Value × Sn)) : SM := fun k => (I.find? fun e => decide (e.1 = k)).map (·.2.2)
theorem DO (e : Vec 32 × Value × Sn) (I : List (Vec 32 × Value × Sn)) (k : Vec 32) : IM (e :: I) k = if e.1 = k then some e.2.2 else IM I k := by
  unfold IM
  rw [List.find?_cons]
  by_cases h : e.1 = k
  · rw [if_pos h, decide_eq_true h]; rfl
  · rw [if_neg h, decide_eq_false h]
theorem Ah7 {I : List (Vec 32 × Value × Sn)} {e : Vec 32 × Value × Sn} (h : IM I e.1 = none) : IM (I ++ [e]) = updS (IM I) e.1 e.2.2 := by
  funext k
  induction I with
  | nil =>
    show IM [e] k = _
    rw [DO]
    unfold updS
    by_cases hk : e.1 = k
    · rw [if_pos hk, if_pos hk.symm]
    · rw [if_neg hk, if_neg fun h => hk h.symm]
  | cons a I ih =>
    rw [DO] at h
    show IM (a :: (I ++ [e])) k = _
    rw [DO]
    by_cases hae : a.1 = e.1
    · rw [if_pos hae] at h; cases h
    · rw [if_neg hae] at h
      rw [ih h]
      unfold updS
      by_cases hk : k = e.1
      · rw [if_pos hk, if_pos hk, if_neg fun h2 => hae (h2.trans hk)]
      · rw [if_neg hk, if_neg hk, DO]
theorem ZO : ∀ {I : List (Vec 32 × Value × Sn)} {j : Nat} {e : Vec 32 × Value × Sn} {v : Value} {x : Sn}, (I.map (·.1)).Nodup → I[j]? = some e → IM (I.set j (e.1, v, x)) = updS (IM I) e.1 x
  | [], j, e, v, x, _, h => by simp at h
  | a :: I, 0, e, v, x, hn, h => by
    have : a = e := by simpa using h
    subst this
    funext k
    show IM ((a.1, v, x) :: I) k = _
    rw [DO]
    unfold updS
    by_cases hk : a.1 = k
    · rw [if_pos hk, if_pos hk.symm]
    · rw [if_neg hk, if_neg fun h => hk h.symm, DO, if_neg hk]
  | a :: I, j + 1, e, v, x, hn, h => by
    have h : I[j]? = some e := by simpa using h
    have hn1 : a.1 ∉ I.map (·.1) ∧ (I.map (·.1)).Nodup := List.nodup_cons.1 hn
    have hne : a.1 ≠ e.1 := fun he => hn1.1 (he ▸ List.mem_map_of_mem (List.mem_of_getElem? h))
    funext k
    show IM (a :: I.set j (e.1, v, x)) k = _
    rw [DO, ZO hn1.2 h]
    unfold updS
    by_cases hk : k = e.1
    · rw [if_pos hk, if_pos hk, if_neg fun h2 => hne (h2.trans hk)]
    · rw [if_neg hk, if_neg hk, DO]
theorem AeE : ∀ {I : List (Vec 32 × Value × Sn)} {j : Nat} {e : Vec 32 × Value × Sn}, (I.map (·.1)).Nodup → I[j]? = some e → IM I e.1 = some e.2.2
  | [], j, e, _, h => by simp at h
  | a :: I, 0, e, hn, h => by
    have : a = e := by simpa using h
    subst this
    rw [DO, if_pos rfl]
  | a :: I, j + 1, e, hn, h => by
    have h : I[j]? = some e := by simpa using h
    have hn1 : a.1 ∉ I.map (·.1) ∧ (I.map (·.1)).Nodup := List.nodup_cons.1 hn
    have hne : a.1 ≠ e.1 := fun he => hn1.1 (he ▸ List.mem_map_of_mem (List.mem_of_getElem? h))
    rw [DO, if_neg hne, AeE hn1.2 h]
theorem AhW {I : List (Vec 32 × Value × Sn)} {k : Vec 32} (h : ∀ e ∈ I, e.1 ≠ k) : IM I k = none := by
  induction I with
  | nil => rfl
  | cons a I ih => rw [DO, if_neg (h a (List.mem_cons_self ..)), ih fun e he => h e (List.mem_cons_of_mem _ he)]
theorem Aiy {I : List (Vec 32 × Value × Sn)} {k : Vec 32} (h : k ∈ I.map (·.1)) : ∃ x, IM I k = some x := by
  induction I with
  | nil => cases h
  | cons a I ih =>
    rw [DO]
    by_cases hk : a.1 = k
    · rw [if_pos hk]; exact ⟨_, rfl⟩
    · rw [if_neg hk]
      rcases List.mem_cons.1 h with h | h
      · exact absurd h.symm hk
      · exact ih h
structure DoR (h : Heap) (g gr : Nat) (iv lv : Value) (p : Par) (t : Tr) (M : List TN) (I : List (Vec 32 × Value × Sn)) : Prop where
  cell : ∃ T fr, h[g]? = some (.cells (Rdr.cells AX (p, .pointer (some ⟨gr, 0, none⟩), iv)).toArray T fr)
  rw : AB Al h iv (I.map inst)
  rf : RfR h gr lv t M
  ch : ∀ e ∈ I, AB Ab h e.2.1 e.2.2.l
def doH (g gr : Nat) (iv lv : Value) (p : Par) (t : Tr) (M : List TN) (I : List (Vec 32 × Value × Sn)) : List Asn :=
  blk g (Rdr.cells AX (p, .pointer (some ⟨gr, 0, none⟩), iv)).toArray BI :: rows Al iv (I.map inst) :: rfH gr lv t M
def IDat (I : List (Vec 32 × Value × Sn)) (As : List Asn) : Prop := ∀ e ∈ I, rows Ab e.2.1 e.2.2.l ∈ As
theorem IDat.sub {I : List (Vec 32 × Value × Sn)} {As Bs : List Asn} (h : IDat I As) (hs : ∀ A ∈ As, A ∈ Bs) : IDat I Bs := fun e he => hs _ (h e he)
section
variable {w0 w w' : World} {As : List Asn} {g gr : Nat} {iv lv : Value} {p : Par} {t : Tr} {M : List TN} {I : List (Vec 32 × Value × Sn)} {m : Nat}
theorem DoR.fr (h : DoR w.heap g gr iv lv p t M I) (hf : Fr [] w w') : DoR w'.heap g gr iv lv p t M I := by
  obtain ⟨T, fr, hc⟩ := h.cell
  exact ⟨⟨T, fr, hf.blk hc (by simp)⟩, h.rw.fr hf, h.rf.fr hf, fun e he => (h.ch e he).fr hf⟩
theorem Sep.dor (h : Sep w0 w As) (hr : DoR w0.heap g gr iv lv p t M I) : DoR w.heap g gr iv lv p t M I := hr.fr h.1
theorem QJ (h : Sep w0 w (doH g gr iv lv p t M I ++ As)) (hd : Dat M As) (hi : IDat I As) : DoR w.heap g gr iv lv p t M I := by
  refine ⟨⟨_, _, Sep.blk h⟩, Sep.rows h.tail, Abn h.tail.tail hd, fun e he => ?_⟩
  obtain ⟨F, hF⟩ := h.onL (A := rows Ab e.2.1 e.2.2.l) (List.mem_append_right _ (hi e he))
  exact Own.cel hF
theorem DoR.len (hr : DoR w.heap g gr iv lv p t M I) (K : Value → Prop) : lenS iv K = K (.int .i64 I.length) := by
  have := hr.rw.len K
  rwa [List.length_map] at this
theorem DoR.ldT (hr : DoR w.heap g gr iv lv p t M I) (K : Value → Prop) : ld1 (.pointer (some ⟨g, 4, none⟩)) w.heap K = K (.pointer (some ⟨gr, 0, none⟩)) := by
  obtain ⟨T, fr, hc⟩ := hr.cell
  exact Iy hc K
theorem DoR.ldL (hr : DoR w.heap g gr iv lv p t M I) (K : Value → Prop) : ld1 (.pointer (some ⟨g, 5, none⟩)) w.heap K = K iv := by
  obtain ⟨T, fr, hc⟩ := hr.cell
  exact Dw hc K
theorem DoR.ldP (hr : DoR w.heap g gr iv lv p t M I) (K : Value → Prop) : ldN 4 (.pointer (some ⟨g, 0, none⟩)) w.heap K = K (pav p) := by
  obtain ⟨T, fr, hc⟩ := hr.cell
  exact FB hc K
theorem DoR.ldR (hr : DoR w.heap g gr iv lv p t M I) (K : Value → Prop) : ldN 32 (.pointer (some ⟨gr, 0, none⟩)) w.heap K = K (kv t.root) := by
  obtain ⟨T, fr, hc⟩ := hr.rf.cell
  exact A3 hc K
theorem Dt {j : Nat} {e : Vec 32 × Value × Sn} (h : I[j]? = some e) : (I.map inst)[j]? = some (inst e) := by rw [List.getElem?_map, h]; rfl
theorem fS : Fld Al Aq 32 (fun a => a.2) (fun a b => (a.1, b)) := Fld.snd Fld.self
theorem fAt : Fld Al (rVec 32) 0 (fun a => a.1) (fun a b => (b, a.2)) := Fld.fst Fld.self
theorem II (hr : DoR w.heap g gr iv lv p t M I) (hl : I.length ≤ 1000000) (k : Vec 32) : cal P CZ [ptr g, kv k] w fun r w' => Fr [] w w' ∧ ((IM I k = none ∧ r = .int .i64 (-1)) ∨ ∃ (j : Nat) (e : Vec 32 × Value × Sn), I[j]? = some e ∧ e.1 = k ∧ IM I k = some e.2.2 ∧ r = .int .i64 j) := by
  refine Q8 fun R hR => ?_
  unfold JN
  refine bxQ (Sep.start w) fun g3 w1 hs1 => ?_
  refine ⟨fun y z => ∃ i : Nat, y = .int .i64 i ∧ i ≤ I.length ∧ (∀ e ∈ I.take i, e.1 ≠ k) ∧ Sep w z [blk g3 (Rdr.cells (rVec 32) k).toArray Aa], fun y _ => (I.length - RowKit.intOf y).toNat, ⟨0, rfl, by omega, by simp, hs1⟩, ?_⟩
  rintro _ w2 ⟨i, rfl, hi, hp, hs2⟩ -
  have hr2 := hs2.dor hr
  simp only [fx, Nat.reduceAdd, forall_const, hr2.ldL, hr2.len]
  rw [Aj]
  refine ⟨fun h => ?_, fun h => ?_⟩
  · have hlt : i < I.length := by simp at h; omega
    obtain ⟨e, he⟩ : ∃ e, I[i]? = some e := ⟨_, List.getElem?_eq_getElem hlt⟩
    have htk : I.take (i + 1) = I.take i ++ [e] := by rw [List.take_add_one, he]; rfl
    refine CT hs2 fun w3 hs3 _ => ?_
    have hr3 := hs3.dor hr
    obtain ⟨g2, o, ha, hix⟩ := AB.ix (q := Al) (by decide) hr3.rw (Dt he)
    simp only [fx, Nat.reduceAdd, forall_const, hr3.ldL]
    rw [show ∀ K, ixs 99 iv (.int .i64 (i : Int)) K = K (.pointer (some ⟨g2, o, none⟩)) from fun K => hix .i64 K]
    simp only [fx, Nat.reduceAdd, forall_const, Mi ha, Ai hs3.blk, B3]
    rw [Aj]
    refine ⟨fun h2 => ?_, fun h2 => ?_⟩
    · have h2 : e.1 = k := of_decide_eq_true h2
      refine hR _ _ ⟨hs3.fr0, .inr ⟨i, e, he, h2, ?_, rfl⟩⟩
      have hI : I = I.take i ++ (e :: I.drop (i + 1)) := by
        have h3 : I[i] = e := by rw [List.getElem?_eq_getElem hlt] at he; simpa using he
        conv => lhs; rw [← List.take_append_drop i I, List.drop_eq_getElem_cons hlt, h3]
      rw [hI]
      generalize I.take i = A at hp
      generalize I.drop (i + 1) = B
      induction A with
      | nil => show IM (e :: B) k = _; rw [DO, if_pos h2]
      | cons a A ih =>
        show IM (a :: (A ++ (e :: B))) k = _
        rw [DO, if_neg (hp a (List.mem_cons_self ..))]
        exact ih fun x hx => hp x (List.mem_cons_of_mem _ hx)
    · have h2 : ¬ e.1 = k := of_decide_eq_false h2
      rw [wi64 (by omega) (by omega)]
      refine ⟨⟨i + 1, by simp, by omega, fun x hx => ?_, hs3⟩, by simp [RowKit.intOf]; omega⟩
      rw [htk] at hx
      rcases List.mem_append.1 hx with hx | hx
      · exact hp x hx
      · have : x = e := by simpa using hx
        rw [this]; exact h2
  · have hge : i = I.length := by simp at h; omega
    rw [hge, List.take_length] at hp
    exact hR _ _ ⟨hs2.fr0, .inl ⟨AhW hp, rfl⟩⟩
end
end Go.Fx
namespace Go.Fx
theorem NM {p : Par} (h : parE p = 0) : PaOk p := by
  obtain ⟨h1, h2, h3, h4, h5, h6, h7⟩ := EZ h
  unfold PaOk
  omega
section
variable {w0 w w' : World} {As : List Asn} {g gr : Nat} {iv lv v : Value} {p : Par} {t : Tr} {M : List TN} {I : List (Vec 32 × Value × Sn)} {m : Nat} {V : List Vt}
theorem AhD {l : List (Vec 32)} (hv : AB (rVec 32) w.heap v l) (hl : l.length ≤ 1000000) (k : Vec 32) : cal P NT [v, kv k] w fun r w' => r = .bool (decide (k ∈ l)) ∧ Fr [] w w' := by
  refine AdM fun R hR => ?_
  unfold Vy
  refine bxQ (Sep.start w) fun g3 w1 hs1 => ?_
  refine ⟨fun y z => ∃ i : Nat, y = .int .i64 i ∧ i ≤ l.length ∧ k ∉ l.take i ∧ Sep w z [blk g3 (Rdr.cells (rVec 32) k).toArray Aa], fun y _ => (l.length - RowKit.intOf y).toNat, ⟨0, rfl, by omega, by simp, hs1⟩, ?_⟩
  rintro _ w2 ⟨i, rfl, hi, hp, hs2⟩ -
  rw [hv.len]
  simp only [fx, Nat.reduceAdd, forall_const]
  rw [Aj]
  refine ⟨fun h => ?_, fun h => ?_⟩
  · have hlt : i < l.length := by simp at h; omega
    obtain ⟨e, he⟩ : ∃ e, l[i]? = some e := ⟨_, List.getElem?_eq_getElem hlt⟩
    have htk : l.take (i + 1) = l.take i ++ [e] := by rw [List.take_add_one, he]; rfl
    refine CT hs2 fun w3 hs3 _ => ?_
    change ixs 32 _ _ _
    refine AB.ldN (q := rVec 32) (by decide) (hv.fr hs3.fr0) he .i64 ?_
    simp only [Ai hs3.blk, B3]
    rw [Aj]
    refine ⟨fun h2 => ?_, fun h2 => ?_⟩
    · have h2 : e = k := of_decide_eq_true h2
      refine hR _ _ ⟨?_, hs3.fr0⟩
      rw [decide_eq_true (h2 ▸ List.mem_of_getElem? he)]
    · have h2 : ¬ e = k := of_decide_eq_false h2
      rw [wi64 (by omega) (by omega)]
      refine ⟨⟨i + 1, by simp, by omega, ?_, hs3⟩, by simp [RowKit.intOf]; omega⟩
      rw [htk]
      intro hx
      rcases List.mem_append.1 hx with hx | hx
      · exact hp hx
      · exact h2 (List.mem_singleton.1 hx).symm
  · have hge : i = l.length := by simp at h; omega
    rw [hge, List.take_length] at hp
    exact hR _ _ ⟨by rw [decide_eq_false hp], hs2.fr0⟩
theorem XP (hp : PaOk p) (r : Vec 32) (h mo : Int) : cal P MJ [pav p, kv r, .int .i64 h, .int .i64 mo] w fun v w' =>
    (∃ e, e ≠ 0 ∧ e = (if parE p ≠ 0 then parE p else 1) ∧ (parE p ≠ 0 ∨ ¬ (0 ≤ h ∧ 1 ≤ mo ∧ mo ≤ 256)) ∧ v = .tuple #[.pointer none, .int .i64 e] ∧ Fr [] w w') ∨
    ((parE p = 0 ∧ 0 ≤ h ∧ 1 ≤ mo ∧ mo ≤ 256) ∧ ∃ g gr, v = .tuple #[ptr g, .int .i64 0] ∧ Sep w w' (doH g gr (.slice none 0 0) (.slice none 0 0) p ⟨r, h, mo⟩ [] [])) := by
  refine AbX fun R hR => ?_
  unfold Te
  refine bxQ (Sep.start w) fun g4 w1 hs1 => ?_
  refine bxQ hs1 fun g5 w2 hs2 => ?_
  simp only [Bi (Sep.blk hs2.p1), AW (Sep.blk hs2.p1), AG (Sep.blk hs2.p1), AH (Sep.blk hs2.p1), AQ (Sep.blk hs2.p1)]
  refine Af (Kn hp) ?_
  rintro _ w3 ⟨rfl, hf3⟩
  have hs3 := hs2.old hf3
  try simp only [fx, Nat.reduceAdd, forall_const]
  rw [Aj]
  refine ⟨fun h1 => ?_, fun h1 => ?_⟩
  · have h1 : parE p ≠ 0 := by simpa using h1
    exact hR _ _ (.inl ⟨parE p, h1, by rw [if_pos h1], .inl h1, rfl, hs3.fr0⟩)
  have h1 : parE p = 0 := by simpa using h1
  simp only [Ai (Sep.blk hs3)]
  refine Af (AfT r h mo) ?_
  rintro _ w4 (⟨hno, rfl, hf4⟩ | ⟨hq, gr, rfl, hs4⟩)
  · try simp only [fx, Nat.reduceAdd, forall_const, show ((1 : Int) != 0) = true from rfl]
    exact hR _ _ (.inl ⟨1, by decide, by rw [if_neg (by simpa using h1)], .inr hno, rfl, (hs3.old hf4).fr0⟩)
  · replace hs4 := hs3.join hs4
    try simp only [fx, Nat.reduceAdd, forall_const, show ((0 : Int) != 0) = false from rfl]
    simp only [Bi (Sep.blk (Sep.pick hs4 [3] 4)), AW (Sep.blk (Sep.pick hs4 [3] 4)), AG (Sep.blk (Sep.pick hs4 [3] 4)), AH (Sep.blk (Sep.pick hs4 [3] 4)), AQ (Sep.blk (Sep.pick hs4 [3] 4))]
    rw [HM rfl]
    refine bxQ hs4 fun g w6 hs6 => ?_
    exact hR _ _ (.inr ⟨⟨h1, hq⟩, g, gr, rfl, Sep.pick (Sep.nilR (q := Al) hs6) [1, 0, 2, 3] 6⟩)
theorem WH (hr : DoR w.heap g gr iv lv p t M I) (hl : I.length ≤ 1000000) (hm : ∀ k x, IM I k = some x → x.l.length ≤ 1000000) (k : Vec 32) : cal P Fl [ptr g, kv k] w (SnR (IM I) k w) := by
  refine SB fun R hR => ?_
  unfold Ky
  refine bxQ (Sep.start w) fun g3 w1 hs1 => ?_
  refine Av hs1 (Bo w1) fun g4 w2 hs2 => ?_
  simp only [Ai (Sep.blk hs2.p1)]
  refine Af (II (hs2.dor hr) hl k) ?_
  rintro _ w3 ⟨hf3, ⟨hn, rfl⟩ | ⟨j, e, he, rfl, hI, rfl⟩⟩
  · have hs3 := hs2.old hf3
    simp only [fx, Nat.reduceAdd, forall_const, show decide ((-1 : Int) < 0) = true from rfl]
    rw [Ce]
    refine AJ hs3 (AD rfl) fun w4 hs4 => ?_
    simp only [Ar hs4.blk, Ad hs4.blk, Ae hs4.blk, Ac hs4.blk, Ag hs4.blk, Ah hs4.blk]
    refine hR _ _ ⟨.slice none 0 0, by rw [hn]; rfl, ?_⟩
    rw [hn]
    exact Sep.pick (Sep.nilR (q := Ab) hs4) [0] 3
  · have hs3 := hs2.old hf3
    have hr3 := hs3.dor hr
    have e1 : decide ((j : Int) < 0) = false := decide_eq_false (by omega)
    simp only [fx, Nat.reduceAdd, forall_const, e1, hr3.ldL]
    obtain ⟨g5, o, ha, hix⟩ := AB.ix (q := Al) (by decide) hr3.rw (Dt he)
    rw [show ∀ K, ixs 99 iv (.int .i64 (j : Int)) K = K (.pointer (some ⟨g5, o, none⟩)) from fun K => hix .i64 K]
    simp only [fx, Nat.reduceAdd, forall_const, HR ha]
    have hch := hr3.ch e (List.mem_of_getElem? he)
    refine Af (GZ (v := e.2.1) (x := e.2.2) hch (hm _ _ hI) hch.one1) ?_
    rintro _ w4 ⟨v', rfl, hs4⟩
    have hs5 := hs3.join hs4
    refine AJ (b := snr v' e.2.2) hs5.p1 (AD (Sep.oneR hs5)) fun w5 hs6 => ?_
    simp only [Ar (Sep.blk hs6), Ad (Sep.blk hs6), Ae (Sep.blk hs6), Ac (Sep.blk hs6), Ag (Sep.blk hs6), Ah (Sep.blk hs6)]
    refine hR _ _ ⟨v', by rw [hI]; rfl, ?_⟩
    rw [hI]
    exact Sep.pick hs6 [1] 3
theorem U1 (hi : TpI p m t M (IM I)) (hr : DoR w.heap g gr iv lv p t M I) (hl : I.length ≤ 1000000) : cal P DZ [ptr g] w fun r w' => ∃ k, ID t (IM I) k ∧ r = kv k ∧ Fr [] w w' := by
  refine Mb fun R hR => ?_
  unfold Hv
  refine Av (Sep.start w) (AS w) fun g2 w1 hs1 => ?_
  have hr1 := hs1.dor hr
  simp only [fx, Nat.reduceAdd, forall_const, hr1.ldT, hr1.ldR]
  refine Av hs1 (AS w1) fun g3 w3 hs3 => ?_
  refine AE hs3 fun w4 hs4 => ?_
  refine ⟨fun z => ∃ k, CL (IM I) t.root k ∧ Sep w z [blk g3 (Rdr.cells (rVec 32) k).toArray Aa, blk g2 (Rdr.cells (rVec 32) (vz 32)).toArray Aa], fun z => m - hgt t M (Rw g3 z), ⟨t.root, .refl _, hs4⟩, ?_⟩
  rintro w5 ⟨k, hk, hs5⟩ -
  have hkh := hi.pref_has hk
  simp only [Ai (Sep.blk hs5)]
  refine Af (II (hs5.dor hr) hl k) ?_
  rintro _ w6 ⟨hf6, hcase⟩
  have hs6 := hs5.old hf6
  rcases hcase with ⟨hn, rfl⟩ | ⟨j, e, he, hek, hI, rfl⟩
  · simp only [fx, Nat.reduceAdd, forall_const, show decide ((-1 : Int) ≥ 0) = false from rfl, show decide ((0 : Int) ≤ -1) = false from rfl]
    simp only [Ai (Sep.blk hs6)]
    refine AE hs6.p1 fun w9 hs9 => ?_
    simp only [Ai hs9.blk]
    exact hR _ _ ⟨k, ⟨hk, hn⟩, rfl, hs9.fr0⟩
  · have e1 : decide ((j : Int) ≥ 0) = true := decide_eq_true (by omega)
    simp only [fx, Nat.reduceAdd, forall_const, e1]
    refine A0 hs6 fun w7 hs7 _ => ?_
    refine AF (v := iv) (fun u hu K hk => ((hu.dor hr).ldL K).mpr hk) ?_
    refine ⟨kv k, fun u hu => (Ai hu.blk _).mpr rfl, ?_⟩
    refine AL (Af (II (hs7.dor hr) hl k) ?_)
    rintro _ w8 ⟨hf8, ⟨hn, _⟩ | ⟨j2, e2, he2, hek2, hI2, rfl⟩⟩
    · rw [hn] at hI; cases hI
    have hs8 := hs7.old hf8
    refine ⟨hs8, ?_⟩
    refine Ip (q := Al) (s := Aq) fS (by decide) hs8 (fun u hu => (hu.dor hr).rw) (Dt he2) .i64 ?_
    refine BD (Af (NE (v := e2.2.1) (x := e2.2.2)) ?_)
    rintro _ w9 ⟨rfl, hf9⟩
    have hs9 := hs8.old hf9
    refine A9 (AE (b := prf e2.2.2) hs9 fun w10 hs10 => ?_)
    refine ⟨⟨prf e2.2.2, hk.step hI2, hs10⟩, ?_⟩
    have h1 := hi.pref_step hI2
    have h2 := hi.tm.hb _ h1.1
    rw [GX (Sep.blk hs10), GX (Sep.blk hs5), h1.2.2.2]
    omega
theorem Wc (hi : TpI p m t M (IM I)) (hr : DoR w.heap g gr iv lv p t M I) (hl : I.length ≤ 1000000) (hn : M.length ≤ 1000000) (hm : m ≤ 1000000) (b : Vec 32) : cal P Fc [ptr g, kv b] w fun r w' => ∃ k, ID t (IM I) k ∧ r = .bool (under t M k b) ∧ Fr [] w w' := by
  refine M2 fun R hR => ?_
  unfold HW
  refine bxQ (Sep.start w) fun g3 w1 hs1 => ?_
  refine A0 hs1 fun w2 hs2 _ => ?_
  simp only [fx, Nat.reduceAdd, forall_const]
  refine AF (v := ptr gr) (fun u hu K hk => ((hu.dor hr).ldT K).mpr hk) ?_
  refine ⟨kv b, fun u hu => (Ai hu.blk _).mpr rfl, ?_⟩
  refine AL (Af (U1 hi (hs2.dor hr) hl) ?_)
  rintro _ w3 ⟨k, hk, rfl, hf3⟩
  have hs3 := hs2.old hf3
  refine ⟨hs3, ?_⟩
  refine BD (Af (Lq (hs3.dor hr).rf hi.tm.w hn k b (Nat.le_trans (NZ hi.tm k) hm)) ?_)
  rintro _ w4 ⟨rfl, hf4⟩
  exact hR _ _ ⟨k, hk, rfl, (hs3.old hf4).fr0⟩
theorem Afo (t : Tr) (M : List TN) (V : List Vt) (k : Vec 32) {i : Nat} {v : Vt} (h : V[i]? = some v) : cntT t M (V.take (i + 1)) k = cntT t M (V.take i) k + if under t M v.1 k = true then v.2 else 0 := by
  unfold cntT
  rw [List.take_add_one, h]
  simp
theorem Tm (hi : TM t M m) (hr : DoR w.heap g gr iv lv p t M I) (hv : AB Au w.heap v V) (hl : V.length ≤ 1000000) (hn : M.length ≤ 1000000) (hm : m ≤ 1000000) (k : Vec 32) :
    cal P E9 [ptr g, v, kv k] w fun r w' => r = .int .i64 (cntB t M V k) ∧ Fr [] w w' := by
  refine Rb fun R hR => ?_
  unfold JQ
  refine bxQ (Sep.start w) fun g5 w1 hs1 => ?_
  refine ⟨fun a b z => ∃ i : Nat, b = .int .i64 i ∧ i ≤ V.length ∧ a = .int .i64 (cntT t M (V.take i) k) ∧ (i = 0 ∨ BN V) ∧ 0 ≤ cntT t M (V.take i) k ∧ cntT t M (V.take i) k ≤ sumV (V.take i) ∧ Sep w z [blk g5 (Rdr.cells (rVec 32) k).toArray Aa], fun _ b _ => (V.length - RowKit.intOf b).toNat, ⟨0, rfl, by omega, by simp [cntT], .inl rfl, by simp [cntT], by simp [cntT, sumV], hs1⟩, ?_⟩
  rintro _ _ w2 ⟨i, rfl, hi2, rfl, hok, h0, h1, hs2⟩ -
  rw [hv.len]
  simp only [fx, Nat.reduceAdd, forall_const]
  refine Lj (decide ((i : Int) < V.length) && decide (bagE V = 0)) (fun z => Sep w z [blk g5 (Rdr.cells (rVec 32) k).toArray Aa]) (fun hp => ?_) (fun hp => ⟨by rw [hp]; rfl, hs2⟩) fun y w3 hy hs3 _ => ?_
  · refine Af (RO (hv.fr hs2.fr0) (by omega)) ?_
    rintro _ w3 ⟨rfl, hf3⟩
    simp only [fx, Nat.reduceAdd, forall_const]
    refine ⟨?_, hs2.old hf3⟩
    rw [hp, Bool.true_and]
    by_cases hb : bagE V = 0
    · rw [hb]; rfl
    · rw [decide_eq_false hb, beq_eq_false_iff_ne.2 hb]
  rw [hy, Aj]
  refine ⟨fun h => ?_, fun h => ?_⟩
  · simp only [Bool.and_eq_true, decide_eq_true_eq] at h
    obtain ⟨hlt, hb⟩ := h
    have hb := GK.1 hb
    have hlt : i < V.length := by omega
    obtain ⟨x, hx⟩ : ∃ x, V[i]? = some x := ⟨_, List.getElem?_eq_getElem hlt⟩
    obtain ⟨_, v1, v2⟩ := hb i x hx
    have hst := E7 hx
    have hct := Afo t M V k hx
    refine ⟨fun y z => y = .int .i64 (cntT t M (V.take (i + 1)) k) ∧ Sep w z [blk g5 (Rdr.cells (rVec 32) k).toArray Aa], ?_, ?_⟩
    · refine A0 hs3 fun w4 hs4 _ => ?_
      refine AF (v := ptr gr) (fun u hu K hk => ((hu.dor hr).ldT K).mpr hk) ?_
      refine Ip (q := Au) (s := rVec 32) (Fld.fst Fld.self) (by decide) hs4 (fun u hu => hv.fr hu.fr0) hx .i64 ?_
      refine ⟨kv k, fun u hu => (Ai hu.blk _).mpr rfl, ?_⟩
      refine BD (Af (Lq (hs4.dor hr).rf hi.w hn x.1 k (Nat.le_trans (NZ hi x.1) hm)) ?_)
      rintro _ w5 ⟨rfl, hf5⟩
      have hs5 := hs4.old hf5
      rw [Aj]
      refine ⟨fun h2 => ?_, fun h2 => ?_⟩
      · obtain ⟨g6, o, ha, hix⟩ := AB.ix (q := Au) (by decide) (hv.fr hs5.fr0) hx
        rw [show ∀ K, ixs 33 v (.int .i64 (i : Int)) K = K (.pointer (some ⟨g6, o, none⟩)) from fun K => hix .i64 K]
        simp only [fx, Nat.reduceAdd, forall_const, Jg ha]
        rw [if_pos h2] at hct
        rw [wi64 (by omega) (by omega)]
        exact ⟨by rw [hct], hs5⟩
      · rw [if_neg (by rw [h2]; simp)] at hct
        exact ⟨by rw [hct, Int.add_zero], hs5⟩
    · rintro _ w4 ⟨rfl, hs4⟩ _
      rw [wi64 (by omega) (by omega)]
      have hcc : 0 ≤ cntT t M (V.take (i + 1)) k ∧ cntT t M (V.take (i + 1)) k ≤ sumV (V.take (i + 1)) := by
        rw [hct, hst]
        split <;> omega
      exact ⟨⟨i + 1, by simp, by omega, rfl, .inr hb, hcc.1, hcc.2, hs4⟩, by simp [RowKit.intOf]; omega⟩
  · refine hR _ _ ⟨?_, hs3.fr0⟩
    by_cases hb : BN V
    · rw [cntB, if_pos hb]
      rw [decide_eq_true (Hg hb), Bool.and_true] at h
      have hge : i = V.length := by simp at h; omega
      rw [hge, List.take_length]
    · rw [cntB, if_neg hb]
      obtain rfl := hok.resolve_right hb
      simp [cntT]
end
end Go.Fx
namespace Go.Fx
section
variable {w0 w w' : World} {As : List Asn} {g gr : Nat} {iv lv v : Value} {p : Par} {t : Tr} {M : List TN} {I : List (Vec 32 × Value × Sn)} {m : Nat} {V : List Vt}
theorem Ad0 (hi : TM t M m) (hr : DoR w.heap g gr iv lv p t M I) (hv : AB Au w.heap v V) (hl : V.length ≤ 1000000) (hn : M.length ≤ 1000000) (hm : m ≤ 1000000) (k : Vec 32) :
    cal P Hy [ptr g, v, kv k] w fun r w' => r = .tuple #[kv (B0 (cntB t M V) (Bk t M k)).1, .int .i64 (B0 (cntB t M V) (Bk t M k)).2] ∧ Fr [] w w' := by
  refine SE fun R hR => ?_
  unfold KE
  refine bxQ (Sep.start w) fun g5 w1 hs1 => ?_
  refine Av hs1 (AS w1) fun g6 w2 hs2 => ?_
  refine A0 hs2 fun w3 hs3 _ => ?_
  try simp only [fx, Nat.reduceAdd, forall_const]
  refine AF (v := ptr gr) (fun u hu K hk => ((hu.dor hr).ldT K).mpr hk) ?_
  refine ⟨kv k, fun u hu => (Ai (Sep.blk hu.p1) _).mpr rfl, ?_⟩
  refine BD (Af (Aew (hs3.dor hr).rf hn k) ?_)
  rintro kv' w4 hs4
  change Sep w3 w4 [rows (rVec 32) kv' (Bk t M k)] at hs4
  replace hs4 := hs3.join hs4
  obtain ⟨kids, hkids⟩ : ∃ l, l = Bk t M k := ⟨_, rfl⟩
  have hkl : kids.length ≤ 1000000 := by
    rw [hkids]
    exact Nat.le_trans (TY t M k) hn
  rw [← hkids] at hs4 hR
  obtain ⟨f, hf⟩ : ∃ f, f = cntB t M V := ⟨_, rfl⟩
  rw [← hf] at hR
  refine Av hs4 (AS w4) fun g9 w5 hs5 => ?_
  refine ⟨fun a b z => ∃ i : Nat, b = .int .i64 i ∧ i ≤ kids.length ∧ a = .int .i64 (B0 f (kids.take i)).2 ∧ Sep w z [blk g9 (Rdr.cells (rVec 32) (B0 f (kids.take i)).1).toArray Aa, rows (rVec 32) kv' kids, blk g6 (Rdr.cells (rVec 32) (vz 32)).toArray Aa, blk g5 (Rdr.cells (rVec 32) k).toArray Aa], fun _ b _ => (kids.length - RowKit.intOf b).toNat, ⟨0, rfl, by omega, rfl, hs5⟩, ?_⟩
  rintro _ _ z ⟨i, rfl, hi', rfl, hz⟩ -
  rw [(Sep.rows hz.p1).len]
  simp only [fx, Nat.reduceAdd, forall_const]
  rw [Aj]
  refine ⟨fun h => ?_, fun h => ?_⟩
  · have hlt : i < kids.length := by simp at h; omega
    obtain ⟨x, hx⟩ : ∃ x, kids[i]? = some x := ⟨_, List.getElem?_eq_getElem hlt⟩
    have htk : kids.take (i + 1) = kids.take i ++ [x] := by rw [List.take_add_one, hx]; rfl
    obtain ⟨b, hb⟩ : ∃ b, b = B0 f (kids.take i) := ⟨_, rfl⟩
    have hstep : B0 f (kids.take (i + 1)) = if b.2 < f x ∨ (f x = b.2 ∧ 0 < b.2 ∧ ltV x b.1 = true) then (x, f x) else b := by
      rw [htk, hb]
      unfold B0
      rw [List.foldl_append]
      rfl
    rw [← hb] at hz ⊢
    obtain ⟨D, hD⟩ : ∃ D, D = decide (b.2 < f x ∨ (f x = b.2 ∧ 0 < b.2 ∧ ltV x b.1 = true)) := ⟨_, rfl⟩
    have hstep : B0 f (kids.take (i + 1)) = if D = true then (x, f x) else b := by
      rw [hstep, hD]
      simp only [decide_eq_true_eq]
    refine ⟨fun y z => y = .int .i64 (B0 f (kids.take (i + 1))).2 ∧ Sep w z [blk g9 (Rdr.cells (rVec 32) (B0 f (kids.take (i + 1))).1).toArray Aa, rows (rVec 32) kv' kids, blk g6 (Rdr.cells (rVec 32) (vz 32)).toArray Aa, blk g5 (Rdr.cells (rVec 32) k).toArray Aa], ?_, ?_⟩
    case refine_2 =>
      rintro _ z2 ⟨rfl, hz2⟩ _
      rw [wi64 (by omega) (by omega)]
      exact ⟨⟨i + 1, by simp, by omega, rfl, hz2⟩, by simp [RowKit.intOf]; omega⟩
    change ixs 32 _ _ _
    refine AB.ldN (q := rVec 32) (by decide) (Sep.rows hz.p1) hx .i64 ?_
    refine Af (Tm hi (hz.dor hr) (hv.fr hz.fr0) hl hn hm x) ?_
    rintro _ z1 ⟨rfl, hf1⟩
    have hz1 := hz.old hf1
    rw [show cntB t M V x = f x by rw [hf]]
    refine A0 hz1 fun z2 hz2 _ => ?_
    have hend : ∀ {z3 : World}, Sep w z3 [blk g9 (Rdr.cells (rVec 32) b.1).toArray Aa, rows (rVec 32) kv' kids, blk g6 (Rdr.cells (rVec 32) (vz 32)).toArray Aa, blk g5 (Rdr.cells (rVec 32) k).toArray Aa] → cnd (.bool D)
        (ixs 32 kv' (.int .i64 (i : Int)) fun t54 => ldN 32 t54 z3.heap fun t55 => stN 32 (.pointer (some ⟨g9, 0, none⟩)) t55 z3 fun z => (Value.int .i64 (f x)) = .int .i64 (B0 f (kids.take (i + 1))).2 ∧ Sep w z [blk g9 (Rdr.cells (rVec 32) (B0 f (kids.take (i + 1))).1).toArray Aa, rows (rVec 32) kv' kids, blk g6 (Rdr.cells (rVec 32) (vz 32)).toArray Aa, blk g5 (Rdr.cells (rVec 32) k).toArray Aa])
        ((Value.int .i64 b.2) = .int .i64 (B0 f (kids.take (i + 1))).2 ∧ Sep w z3 [blk g9 (Rdr.cells (rVec 32) (B0 f (kids.take (i + 1))).1).toArray Aa, rows (rVec 32) kv' kids, blk g6 (Rdr.cells (rVec 32) (vz 32)).toArray Aa, blk g5 (Rdr.cells (rVec 32) k).toArray Aa]) := fun {z3} hz3 => by
      rw [Aj]
      refine ⟨fun h => ?_, fun h => ?_⟩
      · rw [hstep, if_pos h]
        refine AB.ldN (q := rVec 32) (by decide) (Sep.rows hz3.p1) hx .i64 ?_
        refine AE (b := x) hz3 fun z4 hz4 => ?_
        exact ⟨rfl, hz4⟩
      · rw [hstep, if_neg (by rw [h]; simp)]
        exact ⟨rfl, hz3⟩
    by_cases h1 : b.2 < f x
    · have e1 : decide (f x > b.2) = true := decide_eq_true h1
      have := hend hz2
      rw [hD, decide_eq_true (Or.inl h1)] at this
      simp only [e1, fx, Nat.reduceAdd, forall_const] at this ⊢
      exact this
    · have e1 : decide (f x > b.2) = false := decide_eq_false h1
      simp only [e1, fx, Nat.reduceAdd, forall_const]
      by_cases h2 : f x = b.2
      case neg =>
        have e2 : (f x == b.2) = false := beq_eq_false_iff_ne.2 h2
        have := hend hz2
        rw [hD, decide_eq_false (by rintro (h | h); · exact h1 h
                                    · exact h2 h.1)] at this
        simp only [e2, fx, Nat.reduceAdd, forall_const] at this ⊢
        exact this
      have e2 : (f x == b.2) = true := beq_iff_eq.2 h2
      by_cases h3 : 0 < b.2
      case neg =>
        have e3 : decide (0 < b.2) = false := decide_eq_false h3
        have := hend hz2
        rw [hD, decide_eq_false (by rintro (h | h); · exact h1 h
                                    · exact h3 h.2.1)] at this
        simp only [e2, e3, fx, Nat.reduceAdd, forall_const] at this ⊢
        exact this
      have e3 : decide (0 < b.2) = true := decide_eq_true h3
      simp only [e2, e3, fx, Nat.reduceAdd, forall_const]
      refine Bu ?_
      change ixs 32 _ _ _
      refine LE (q := rVec 32) (by decide) hz2 (fun u hu => Sep.rows hu.p1) hx .i64 ?_
      refine ⟨kv b.1, fun u hu => (Ai (Sep.blk hu) _).mpr rfl, ?_⟩
      refine AL (Af (AaT x b.1) ?_)
      rintro _ z3 ⟨rfl, hf3⟩
      have hz3 := hz2.old hf3
      refine ⟨hz3, ?_⟩
      have := hend hz3
      rw [hD, show decide (b.2 < f x ∨ (f x = b.2 ∧ 0 < b.2 ∧ ltV x b.1 = true)) = ltV x b.1 by
        cases hl : ltV x b.1 with
        | true => exact decide_eq_true (.inr ⟨h2, h3, rfl⟩)
        | false => exact decide_eq_false (by rintro (h | h); · exact h1 h
                                             · cases h.2.2)] at this
      try simp only [fx, Nat.reduceAdd, forall_const] at this ⊢
      exact this
  · have hge : i = kids.length := by simp at h; omega
    rw [hge, List.take_length] at hz ⊢
    simp only [Ai hz.blk]
    refine AE hz.p2 fun z2 hz2 => ?_
    simp only [Ai hz2.blk]
    exact hR _ _ ⟨rfl, hz2.fr0⟩
end
end Go.Fx
namespace Go.Fx
theorem Yd {I : List (Vec 32 × Value × Sn)} {j : Nat} {e : Vec 32 × Value × Sn} {v : Value} {x : Sn} (h : I[j]? = some e) : (I.set j (e.1, v, x)).map (·.1) = I.map (·.1) := by
  rw [List.map_set]
  refine List.ext_getElem? fun i => ?_
  rw [List.getElem?_set]
  split
  · rename_i hi
    subst hi
    have hlt := (List.getElem?_eq_some_iff.1 h).1
    rw [if_pos (by simpa using hlt), List.getElem?_map, h]
    rfl
  · rfl
structure AddD (p : Par) (t : Tr) (M : List TN) (I : List (Vec 32 × Value × Sn)) (b : Blk) (M' : List TN) (I' : List (Vec 32 × Value × Sn)) (E : List Asn) : Prop where
  no : B5 t M (IM I) b ≠ 0 → M' = M ∧ I' = I ∧ E = []
  yes : B5 t M (IM I) b = 0 → ∃ vd cc v x, M' = M ++ [(b.id, b, vd, cc)] ∧ IM I' = Hn p (IM I) b b.id ∧ (I'.map (·.1)).Nodup ∧ I'.length ≤ I.length + 1 ∧ E = [rows Ab v x, ownB vd b.d] ∧ ∀ As, IDat I As → IDat I' (rows Ab v x :: As)
theorem Ady {e : Vec 32 × Value × Sn} (h : e.2.1.oneCell' = true) : ∀ u ∈ Rdr.cells Al (inst e), u.oneCell' = true := N4 h
theorem Uy {e : Vec 32 × Value × Sn} (h : e.2.1.oneCell' = true) : ∀ u ∈ [inst e].flatMap (Rdr.cells Al), u.oneCell' = true := fun u hu => by
  simp only [List.flatMap_cons, List.flatMap_nil, List.append_nil] at hu
  exact Ady h u hu
section
variable {w0 w w' : World} {As : List Asn} {g gr : Nat} {iv lv v : Value} {p : Par} {t : Tr} {M : List TN} {I : List (Vec 32 × Value × Sn)} {m : Nat}
set_option maxHeartbeats 1000000 in
theorem Q5 {b : Blk} (hs : Sep w0 w (doH g gr iv lv p t M I ++ As)) (hd : Dat M As) (hid : IDat I As) (hnd : (I.map (·.1)).Nodup) (hi : TpI p m t M (IM I)) (hb : ∀ z, Sep w0 z As → RdB z.heap v b.d) (hh : b.h ≤ maxI) (hn : M.length ≤ 1000000) (hl : I.length ≤ 1000000) :
    cal P EF [ptr g, bq b v] w fun r w' => ∃ M' iv' lv' I' E, r = .tuple #[kv (Cc t M (IM I) b), .int .i64 (B5 t M (IM I) b)] ∧ AddD p t M I b M' I' E ∧ Sep w0 w' (doH g gr iv' lv' p t M' I' ++ (E ++ As)) := by
  refine UA fun R hR => ?_
  unfold L4
  have hto : ∀ {z : World} {Xs : List Asn}, Sep w0 z (Xs ++ (doH g gr iv lv p t M I ++ As)) → DoR z.heap g gr iv lv p t M I := fun h => QJ (Sep.dropL h) hd hid
  have hbz : ∀ {z : World} {Xs : List Asn}, Sep w0 z (Xs ++ As) → RdB z.heap v b.d := fun h => hb _ (Sep.dropL h)
  refine bxQ hs fun g3 w1 hs1 => ?_
  refine Av hs1 (AS w1) fun g4 w2 hs2 => ?_
  obtain ⟨L, hL⟩ : ∃ L, L = blk g4 (Rdr.cells (rVec 32) (vz 32)).toArray Aa :: blk g3 (Rdr.cells Aw (b.p, b.h, v)).toArray Ao :: (doH g gr iv lv p t M I ++ As) := ⟨_, rfl⟩
  have hdL : ∀ A ∈ As, A ∈ L := fun A hA => by
    rw [hL]
    exact List.mem_cons_of_mem _ (List.mem_cons_of_mem _ (List.mem_append_right _ hA))
  have hbL : ∀ {z : World}, Sep w0 z L → RdB z.heap v b.d := fun h => by
    rw [hL] at h
    exact hbz (Xs := [_, _, _, _, _, _]) h
  have htoL : ∀ {u : World}, Sep w0 u L → DoR u.heap g gr iv lv p t M I := fun hu => by
    rw [hL] at hu
    exact hto (Xs := [_, _]) hu
  have hrb : ∀ {u : World}, Sep w0 u L → ∀ K, ldN 34 (.pointer (some ⟨g3, 0, none⟩)) u.heap K = K (bq b v) := fun hu K => by
    rw [hL] at hu
    exact AA (Sep.blk hu.p1) K
  refine A0 hs2 fun w6 hs6 _ => ?_
  rw [← hL] at hs6 ⊢
  refine ⟨fun a e z => ∃ g6, a = ptr g6 ∧ e = .int .i64 (addE t M b) ∧ Sep w0 z (blk g6 (Rdr.cells (rVec 32) (Ej t M b)).toArray Aa :: L), ?_, ?_⟩
  · try simp only [fx, Nat.reduceAdd, forall_const]
    refine AF (v := ptr gr) (fun u hu K hk => ((htoL hu).ldT K).mpr hk) ?_
    refine ⟨bq b v, fun u hu => (hrb hu _).mpr rfl, ?_⟩
    refine ⟨?_, ?_, trivial⟩
    · refine AL (Af (MP (htoL hs6).rf hn) ?_)
      rintro _ w7 ⟨g', lv', rfl, hs7⟩
      replace hs7 := hs6.join hs7
      refine ⟨Sep.dropL (As := rfH g' lv' t M) hs7, ?_, ?_, trivial⟩
      · refine Cl (Af (VI [] L (g := g') hs7 (hd.sub hdL) (hbL (Sep.dropL (As := rfH g' lv' t M) hs7)) hh hn) ?_)
        rintro _ w8 ⟨N2, lv2, E2, rfl, _, hs8⟩
        have hs9 : Sep w0 w8 L := Sep.dropL (As := E2) (Sep.dropL (As := rfH g' lv2 t N2) hs8)
        refine ⟨fun u => Sep w0 u L, hs9, ?_⟩
        try simp only [fx, Nat.reduceAdd, forall_const]
        refine AL (Av hs9 (AS w8) fun g8 w10 hs10 => ⟨hs10.tail, ?_⟩)
        refine A9 (AE (b := Ej t M b) hs10 fun w11 hs11 => ?_)
        exact ⟨g8, by first | rfl | trivial, by first | rfl | trivial, hs11⟩
      · refine AL (Av hs7 (AS w7) fun g8 w8 hs8 => ⟨Sep.dropL (As := rfH g' lv' t M) hs8.tail, ?_⟩)
        refine Cl (Af (VI [] (blk g8 (Rdr.cells (rVec 32) (vz 32)).toArray Aa :: L) (g := g') (Sep.pick hs8 [1, 2, 0] 3) (hd.sub fun A hA => List.mem_cons_of_mem _ (hdL A hA)) (hbL (Sep.dropL (As := rfH g' lv' t M) hs8.tail)) hh hn) ?_)
        rintro _ w9 ⟨N2, lv2, E2, rfl, _, hs9⟩
        have hs10 : Sep w0 w9 (blk g8 (Rdr.cells (rVec 32) (vz 32)).toArray Aa :: L) := Sep.dropL (As := E2) (Sep.dropL (As := rfH g' lv2 t N2) hs9)
        refine ⟨fun u => Sep w0 u L, hs10.tail, ?_⟩
        try simp only [fx, Nat.reduceAdd, forall_const]
        refine A9 (AE (b := Ej t M b) hs10 fun w11 hs11 => ?_)
        exact ⟨g8, by first | rfl | trivial, by first | rfl | trivial, hs11⟩
    · refine AL (Av hs6 (AS w6) fun g8 w7 hs7 => ⟨hs7.tail, ?_⟩)
      refine AL (Af (MP (htoL hs7.tail).rf hn) ?_)
      rintro _ w8 ⟨g', lv', rfl, hs8⟩
      replace hs8 := hs7.join hs8
      refine ⟨(Sep.dropL (As := rfH g' lv' t M) hs8).tail, ?_⟩
      refine Cl (Af (VI [] (blk g8 (Rdr.cells (rVec 32) (vz 32)).toArray Aa :: L) (g := g') hs8 (hd.sub fun A hA => List.mem_cons_of_mem _ (hdL A hA)) (hbL (Sep.dropL (As := rfH g' lv' t M) hs8).tail) hh hn) ?_)
      rintro _ w9 ⟨N2, lv2, E2, rfl, _, hs9⟩
      have hs10 : Sep w0 w9 (blk g8 (Rdr.cells (rVec 32) (vz 32)).toArray Aa :: L) := Sep.dropL (As := E2) (Sep.dropL (As := rfH g' lv2 t N2) hs9)
      refine ⟨fun u => Sep w0 u L, hs10.tail, ?_⟩
      try simp only [fx, Nat.reduceAdd, forall_const]
      refine A9 (AE (b := Ej t M b) hs10 fun w11 hs11 => ?_)
      exact ⟨g8, by first | rfl | trivial, by first | rfl | trivial, hs11⟩
  rintro _ _ w7 ⟨g6, rfl, rfl, hs7⟩ _
  try simp only [fx, Nat.reduceAdd, forall_const]
  rw [Aj]
  refine ⟨fun h2 => ?_, fun h2 => ?_⟩
  · have h2 : addE t M b ≠ 0 := by simpa using h2
    have hE : B5 t M (IM I) b = addE t M b := by unfold B5; rw [if_pos h2]
    rw [IQ]
    rw [hL] at hs7
    refine AE hs7.p1 fun w8 hs8 => ?_
    simp only [Ai hs8.blk]
    have hE0 : B5 t M (IM I) b ≠ 0 := by rw [hE]; exact h2
    exact hR _ _ ⟨M, iv, lv, I, [], by rw [Cc, if_neg hE0, hE], ⟨fun _ => ⟨rfl, rfl, rfl⟩, fun hq => absurd hq hE0⟩, Sep.dropL (As := [_, _, _]) hs8⟩
  have h2 : addE t M b = 0 := by simpa using h2
  have hidE : Ej t M b = b.id := by rw [Ej, if_pos h2]
  rw [hidE, hL] at hs7
  have hE : B5 t M (IM I) b = match IM I b.p with
    | some x => if 32 ≤ x.l.length then 6 else 0
    | none => 0 := by
    unfold B5
    rw [if_neg (by simpa using h2)]
    cases IM I b.p <;> rfl
  obtain ⟨a1, a2, a3, a4, a5, a6⟩ := Li h2
  refine (Am (Sep.blk hs7.p2) _).mpr ?_
  refine Af (II (hto (Xs := [_, _, _]) hs7) hl b.p) ?_
  rintro _ w8 ⟨hf8, hcase⟩
  have hs8 := hs7.old hf8
  rcases hcase with ⟨hIn, rfl⟩ | ⟨j, e, he, hek, hI, rfl⟩
  · rw [hIn] at hE
    have hE0 : B5 t M (IM I) b = 0 := hE
    obtain ⟨_, hn2, _, _⟩ := WK (id := b.id) hi.par
    simp only [fx, Nat.reduceAdd, forall_const, show decide ((-1 : Int) ≥ 0) = false from rfl, show decide ((0 : Int) ≤ -1) = false from rfl, show decide ((-1 : Int) < 0) = true from rfl]
    refine A0 hs8 fun w9 hs9 _ => ?_
    refine AF (v := ptr gr) (fun u hu K hk => ((hto (Xs := [_, _, _]) hu).ldT K).mpr hk) ?_
    refine ⟨bq b v, fun u hu => (AA (Sep.blk hu.p2) _).mpr rfl, ?_⟩
    refine BD (Af (VI [blk g6 (Rdr.cells (rVec 32) b.id).toArray Aa, blk g4 (Rdr.cells (rVec 32) (vz 32)).toArray Aa, blk g3 (Rdr.cells Aw (b.p, b.h, v)).toArray Ao, blk g (Rdr.cells AX (p, .pointer (some ⟨gr, 0, none⟩), iv)).toArray BI, rows Al iv (I.map inst)] As (g := gr) (Sep.pick hs9 [5, 6, 0, 1, 2, 3, 4] 7) (hd.sub fun A hA => List.mem_append_right _ hA) (hbz (Xs := [_, _, _, _, _, _, _]) hs9) hh hn) ?_)
    rintro _ w10 ⟨M', lv', E, rfl, hAR, hs10⟩
    obtain ⟨_, vd, cc, rfl, rfl⟩ := hAR.resolve_left fun hq => hq.1 h2
    try simp only [fx, Nat.reduceAdd, forall_const]
    refine A0 hs10 fun w11 hs11 _ => ?_
    refine ⟨fun a z => ∃ g9 v1, a = ptr g9 ∧ Sep w0 z (blk g9 (Rdr.cells Aq (snr v1 (newM p b.id).1)).toArray Ak :: rows Ab v1 (newM p b.id).1.l :: (rfH gr lv' t (M ++ [(b.id, b, vd, cc)]) ++ ([blk g6 (Rdr.cells (rVec 32) b.id).toArray Aa, blk g4 (Rdr.cells (rVec 32) (vz 32)).toArray Aa, blk g3 (Rdr.cells Aw (b.p, b.h, v)).toArray Ao, blk g (Rdr.cells AX (p, .pointer (some ⟨gr, 0, none⟩), iv)).toArray BI, rows Al iv (I.map inst)] ++ ([ownB vd b.d] ++ As)))), ?_, ?_⟩
    · refine ⟨pav p, fun u hu => (FB (Sep.blk (Sep.p5 hu)) _).mpr rfl, ?_⟩
      refine ⟨kv b.id, fun u hu => (Ai (Sep.blk hu.p2) _).mpr rfl, ?_⟩
      refine ⟨?_, ?_, trivial⟩
      · refine Cl (Af (VZ (NM hi.par)) ?_)
        rintro _ w12 ⟨v1, rfl, hs12⟩
        have hs13 := hs11.join hs12
        refine ⟨fun u => Sep w0 u _, hs13, ?_⟩
        try simp only [fx, Nat.reduceAdd, forall_const]
        refine AL (Av hs13 (Bo w12) fun g9 w14 hs14 => ⟨hs14.tail, ?_⟩)
        refine A9 (AJ (b := snr v1 (newM p b.id).1) hs14 (AD (Sep.oneR hs14.p1)) fun w15 hs15 => ?_)
        exact ⟨g9, v1, by first | rfl | trivial, hs15⟩
      · refine AL (Av hs11 (Bo w11) fun g9 w12 hs12 => ⟨hs12.tail, ?_⟩)
        refine BD (Af (VZ (NM hi.par)) ?_)
        rintro _ w13 ⟨v1, rfl, hs13⟩
        have hs14 := hs12.join hs13
        try simp only [fx, Nat.reduceAdd, forall_const]
        refine A9 (AJ (b := snr v1 (newM p b.id).1) hs14.p1 (AD (Sep.oneR hs14)) fun w15 hs15 => ?_)
        exact ⟨g9, v1, by first | rfl | trivial, hs15⟩
    rintro _ w12 ⟨g9, v1, rfl, hs12⟩ _
    have h1v : v1.oneCell' = true := Sep.oneR hs12.p1
    refine A0 hs12 fun w13 hs13 _ => ?_
    refine AF (v := iv) (fun u hu K hk => (Dw (Sep.blk (Sep.pick hu [7] 8)) K).mpr hk) ?_
    refine ⟨kv b.p, fun u hu => (Am (Sep.blk (Sep.pick hu [6] 7)) _).mpr rfl, ?_⟩
    refine ⟨snv v1 (newM p b.id).1, fun u hu => (Ar (Sep.blk hu) _).mpr rfl, ?_⟩
    refine ⟨.agg (Rdr.cells Al (inst (b.p, v1, (newM p b.id).1))).toArray, fun u hu => by rw [HX]; rfl, ?_⟩
    refine AL (CQ hs13 CU (l := [inst (b.p, v1, (newM p b.id).1)]) (V := fun a => .agg (Rdr.cells Al a).toArray) (fun a => rfl) rfl rfl (by decide) (by decide) fun g14 w14 hs14 => ⟨hs14.tail, ?_⟩)
    refine EE (BX CU Fv (by simp) (Sep.pick hs14 [9, 0, 1, 2, 3, 4, 5, 6, 7, 8, 10] 11) (Sep.rows hs14) (Uy h1v) (by simp; omega) (by simp; omega) fun iv' w15 hs15 => ?_)
    refine Dd (Fh (Sep.pick hs15 [9, 0, 1, 2, 3, 4, 5, 6, 7, 8, 10] 11) (Sep.oneR hs15) fun w16 hs16 => ?_)
    simp only [Ai (Sep.blk (Sep.pick hs16 [7] 8))]
    refine AE (Sep.pick hs16 [8, 0, 1, 2, 3, 4, 5, 6, 7, 9, 10] 11) fun w17 hs17 => ?_
    simp only [Ai (Sep.blk hs17)]
    refine hR _ _ ⟨M ++ [(b.id, b, vd, cc)], iv', lv', I ++ [(b.p, v1, (newM p b.id).1)], [rows Ab v1 (newM p b.id).1.l, ownB vd b.d], by rw [Cc, if_pos hE0, hE0], ⟨fun hq => absurd hE0 hq, fun _ => ⟨vd, cc, v1, (newM p b.id).1.l, rfl, ?_, ?_, by simp, rfl, fun Bs hB x hx => ?_⟩⟩, ?_⟩
    · rw [Ah7 hIn]
      unfold Hn
      rw [hIn]
    · rw [List.map_append, List.nodup_append]
      refine ⟨hnd, by simp, fun x hx y hy => ?_⟩
      have hy : y = b.p := by simpa using hy
      rintro rfl
      obtain ⟨z, hz⟩ := Aiy (I := I) (k := x) hx
      rw [hy, hIn] at hz
      cases hz
    · rcases List.mem_append.1 hx with hx | hx
      · exact List.mem_cons_of_mem _ (hB x hx)
      · obtain rfl : x = (b.p, v1, (newM p b.id).1) := by simpa using hx
        exact List.mem_cons_self ..
    · unfold doH
      rw [List.map_append]
      exact Sep.pick hs17 [1, 2, 6, 7, 5, 10] 11
  · obtain ⟨gx, ox, cx, rfl⟩ := (hto (Xs := [_, _, _]) hs8).rw.form (by decide) (Dt he)
    rw [hI] at hE
    simp only at hE
    have hmx := hi.may _ _ hI
    have hlx : e.2.2.l.length ≤ 1000000 := by have := hmx.n2; omega
    have hr8 := hto (Xs := [_, _, _]) hs8
    have e1 : decide ((j : Int) ≥ 0) = true := decide_eq_true (by omega)
    have e2 : decide ((j : Int) < 0) = false := decide_eq_false (by omega)
    have hjl := (List.getElem?_eq_some_iff.1 he).1
    have hix : ∀ K, ixs 99 (.slice (some ⟨gx, ox, none⟩) (I.map inst).length cx) (.int .i64 (j : Int)) K = K (.pointer (some ⟨gx, ox + j * 99, none⟩)) := fun K => by
      rw [DJ _ _ _ _ _ _ _ _ (by omega) (by simp; omega), Int.toNat_natCast]
    have hat : At w8.heap gx (ox + j * 99) (Rdr.cells Al (inst e)) := At.of (q := Al) (by decide) hr8.rw (Dt he)
    simp only [fx, Nat.reduceAdd, forall_const, e1, hr8.ldL, hix, JL hat]
    have hch : ∀ {z : World} {Xs : List Asn}, Sep w0 z (Xs ++ As) → AB Ab z.heap e.2.1 e.2.2.l := fun {z Xs} hz => by
      obtain ⟨F, hF⟩ := hz.onL (A := rows Ab e.2.1 e.2.2.l) (List.mem_append_right _ (hid e (List.mem_of_getElem? he)))
      exact Own.cel hF
    have hlen : ∀ K, lenS (inst e).2.1 K = K (.int .i64 e.2.2.l.length) := fun K => (hr8.ch e (List.mem_of_getElem? he)).len K
    refine Bu ?_
    rw [hlen]
    simp only [fx, Nat.reduceAdd, forall_const]
    rw [Aj]
    refine ⟨fun h3 => ?_, fun h3 => ?_⟩
    · have h3 : 32 ≤ e.2.2.l.length := by simp at h3; omega
      rw [if_pos h3] at hE
      have hE0 : B5 t M (IM I) b ≠ 0 := by rw [hE]; decide
      rw [IQ]
      refine AE hs8.p1 fun w9 hs9 => ?_
      simp only [Ai hs9.blk]
      exact hR _ _ ⟨M, _, lv, I, [], by rw [Cc, if_neg hE0, hE], ⟨fun _ => ⟨rfl, rfl, rfl⟩, fun hq => absurd hq hE0⟩, Sep.dropL (As := [_, _, _]) hs9⟩
    have h3 : e.2.2.l.length < 32 := by simp at h3; omega
    rw [if_neg (by omega)] at hE
    have hE0 : B5 t M (IM I) b = 0 := hE
    have hadd : addM p e.2.2 b.id = ({ e.2.2 with l := e.2.2.l ++ [(b.id, 0)] }, 0) := by
      rcases W9 (id := b.id) hmx with hq | ⟨hq, _⟩
      · exfalso
        have hno : ¬ 0 ≤ plc e.2.2.l b.id := fun hp => by
          obtain ⟨i, d, _, hd, hd1, _⟩ := Js hp
          have : b.id ∈ e.2.2.l.map (·.1) := by rw [← hd1]; exact List.mem_map_of_mem (List.mem_of_getElem? hd)
          rw [(hi.kids _ _ hI).2, C3 hi.tm.w hi.tm.nd, a2] at this
          cases this.2.1
        apply hq
        rw [addM, if_neg (by simpa using Ft.2 hmx), if_neg hno, if_neg (by omega)]
      · exact hq
    refine A0 hs8 fun w9 hs9 _ => ?_
    refine AF (v := ptr gr) (fun u hu K hk => ((hto (Xs := [_, _, _]) hu).ldT K).mpr hk) ?_
    refine ⟨bq b v, fun u hu => (AA (Sep.blk hu.p2) _).mpr rfl, ?_⟩
    refine BD (Af (VI [blk g6 (Rdr.cells (rVec 32) b.id).toArray Aa, blk g4 (Rdr.cells (rVec 32) (vz 32)).toArray Aa, blk g3 (Rdr.cells Aw (b.p, b.h, v)).toArray Ao, blk g (Rdr.cells AX (p, .pointer (some ⟨gr, 0, none⟩), .slice (some ⟨gx, ox, none⟩) (I.map inst).length cx)).toArray BI, rows Al (.slice (some ⟨gx, ox, none⟩) (I.map inst).length cx) (I.map inst)] As (g := gr) (Sep.pick hs9 [5, 6, 0, 1, 2, 3, 4] 7) (hd.sub fun A hA => List.mem_append_right _ hA) (hbz (Xs := [_, _, _, _, _, _, _]) hs9) hh hn) ?_)
    rintro _ w10 ⟨M', lv', E, rfl, hAR, hs10⟩
    obtain ⟨_, vd, cc, rfl, rfl⟩ := hAR.resolve_left fun hq => hq.1 h2
    try simp only [fx, Nat.reduceAdd, forall_const]
    rw [e2]
    simp only [fx, Nat.reduceAdd, forall_const]
    refine A0 hs10 fun w11 hs11 _ => ?_
    have rd5 : ∀ {u : World} {Xs : List Asn}, Sep w0 u (rfH gr lv' t (M ++ [(b.id, b, vd, cc)]) ++ (blk g6 (Rdr.cells (rVec 32) b.id).toArray Aa :: blk g4 (Rdr.cells (rVec 32) (vz 32)).toArray Aa :: blk g3 (Rdr.cells Aw (b.p, b.h, v)).toArray Ao :: Xs)) → Sep w0 u Xs := fun h => Sep.dropL (As := [_, _, _, _, _]) h
    refine AF (v := .slice (some ⟨gx, ox, none⟩) (I.map inst).length cx) (fun u hu K hk => (Dw (Sep.blk (rd5 hu)) K).mpr hk) ?_
    refine ⟨pav p, fun u hu => (FB (Sep.blk (rd5 hu)) _).mpr rfl, ?_⟩
    refine AF (v := .slice (some ⟨gx, ox, none⟩) (I.map inst).length cx) (fun u hu K hk => (Dw (Sep.blk (rd5 hu)) K).mpr hk) ?_
    refine Ip (q := Al) (s := Aq) fS (by decide) hs11 (fun u hu => Sep.rows (rd5 hu).tail) (Dt he) .i64 ?_
    refine ⟨kv b.id, fun u hu => (Ai (Sep.blk hu.p2) _).mpr rfl, ?_⟩
    have hcr := hch (Xs := [_, _, _, _, _, _, _, _]) hs11
    refine AL (Af (AdB (v := e.2.1) (x := e.2.2) (NM hi.par) hcr hlx hcr.one1) ?_)
    rintro _ w12 ⟨v1, rfl, hs12⟩
    rw [hadd] at hs12 ⊢
    have hs13 := hs11.join hs12
    refine ⟨hs13.tail, ?_⟩
    try simp only [fx, Nat.reduceAdd, forall_const, hix]
    refine A9 (Abv (q := Al) (s := Aq) fS (b := snr v1 { e.2.2 with l := e.2.2.l ++ [(b.id, 0)] }) (Sep.pick hs13 [7, 0, 1, 2, 3, 4, 5, 6, 8] 9) (Dt he) rfl (AD (Sep.oneR hs13)) (by decide) fun w14 hs14 => ?_)
    simp only [Ai (Sep.blk (Sep.pick hs14 [4] 5))]
    refine AE (Sep.pick hs14 [5, 0, 1, 2, 3, 4, 6, 7, 8] 9) fun w15 hs15 => ?_
    simp only [Ai (Sep.blk hs15)]
    refine hR _ _ ⟨M ++ [(b.id, b, vd, cc)], .slice (some ⟨gx, ox, none⟩) (I.map inst).length cx, lv', I.set j (e.1, v1, { e.2.2 with l := e.2.2.l ++ [(b.id, 0)] }), [rows Ab v1 (e.2.2.l ++ [(b.id, 0)]), ownB vd b.d], by rw [Cc, if_pos hE0, hE0], ⟨fun hq => absurd hE0 hq, fun _ => ⟨vd, cc, v1, _, rfl, ?_, ?_, by simp, rfl, fun Bs hB x hx => ?_⟩⟩, ?_⟩
    · rw [ZO hnd he, hek]
      unfold Hn
      rw [hI]
    · rw [Yd he]
      exact hnd
    · rcases List.mem_or_eq_of_mem_set hx with hx | rfl
      · exact List.mem_cons_of_mem _ (hB x hx)
      · exact List.mem_cons_self ..
    · unfold doH
      rw [List.map_set]
      exact Sep.pick hs15 [7, 1, 3, 4, 2, 8] 9
end
end Go.Fx
namespace Go.Fx
theorem AfK {D : Type} {a0 b0 c0 : Value} {w0 : World} {body : Env → Value → Value → Value → World → (Value → Value → Value → World → Prop) → Prop} (I : D → Value → Value → Value → World → Prop) (μ : D → Nat) (d0 : D) (h0 : I d0 a0 b0 c0 w0)
    (hstep : ∀ d a b c w (K : Value → Value → Value → World → Prop), I d a b c w → (∀ d' a' b' c' w', I d' a' b' c' w' → μ d' < μ d → K a' b' c' w') → ∀ junk, body junk a b c w K) : lp3 a0 b0 c0 w0 body := by
  refine ⟨fun a b c w => ∃ d, I d a b c w, fun a b c w => PX fun n => ∃ d, I d a b c w ∧ μ d = n, ⟨d0, h0⟩, fun a b c w ⟨d, hd⟩ junk => ?_⟩
  obtain ⟨⟨d1, h1, h2⟩, _⟩ := Jy (A := fun n => ∃ d, I d a b c w ∧ μ d = n) ⟨d, hd, rfl⟩
  refine hstep d1 a b c w _ h1 (fun d' a' b' c' w' h' hlt => ⟨⟨d', h'⟩, ?_⟩) junk
  have := (Jy (A := fun n => ∃ d, I d a' b' c' w' ∧ μ d = n) ⟨d', h', rfl⟩).2
  exact Nat.lt_of_le_of_lt this (Nat.lt_of_lt_of_eq hlt h2)
theorem RF {P : Vec 32 → Bool} {G : Vec 32 → Sn → Sn} : ∀ {I J : List (Vec 32 × Value × Sn)} (_ : J.map (fun e => (e.1, e.2.2)) = (I.filter fun e => P e.1).map fun e => (e.1, G e.1 e.2.2)), IM J = fun k => if P k = true then (IM I k).map (G k) else none
  | [], J, h => by
    have : J = [] := by simpa using h
    subst this
    funext k
    split <;> rfl
  | a :: I, J, h => by
    funext k
    rw [DO]
    rw [List.filter_cons] at h
    by_cases hp : P a.1 = true
    · rw [if_pos hp] at h
      cases J with
      | nil => simp at h
      | cons b J =>
        simp only [List.map_cons, List.cons.injEq, Prod.mk.injEq] at h
        obtain ⟨⟨h1, h2⟩, h3⟩ := h
        rw [DO, h1, h2]
        by_cases hk : a.1 = k
        · subst hk
          rw [if_pos rfl, if_pos hp, if_pos rfl]
          rfl
        · rw [if_neg hk, if_neg hk, RF h3]
    · rw [if_neg hp] at h
      rw [RF h]
      show (if P k = true then (IM I k).map (G k) else none) = (if P k = true then (if a.1 = k then some a.2.2 else IM I k).map (G k) else none)
      by_cases hk : a.1 = k
      · subst hk
        rw [if_neg hp, if_neg hp]
      · rw [if_neg hk]
theorem Ago {P : Vec 32 → Bool} {G : Vec 32 → Sn → Sn} {I J : List (Vec 32 × Value × Sn)} (h : J.map (fun e => (e.1, e.2.2)) = (I.filter fun e => P e.1).map fun e => (e.1, G e.1 e.2.2)) (hn : (I.map (·.1)).Nodup) : (J.map (·.1)).Nodup ∧ J.length ≤ I.length := by
  have e : J.map (·.1) = (I.filter fun e => P e.1).map (·.1) := by
    have := congrArg (List.map Prod.fst) h
    simpa [List.map_map, Function.comp_def] using this
  refine ⟨?_, ?_⟩
  · rw [e]
    exact List.Nodup.sublist (List.Sublist.map _ List.filter_sublist) hn
  · have h1 := congrArg List.length e
    simp only [List.length_map] at h1
    rw [h1]
    exact List.length_filter_le _ _
section
variable {w0 w w' : World} {As Bs : List Asn} {g gr : Nat} {iv lv v pv : Value} {p : Par} {t : Tr} {M : List TN} {I : List (Vec 32 × Value × Sn)} {m : Nat} {pol : List (Vec 32)}
noncomputable def endG (p : Par) (pol : List (Vec 32)) (k : Vec 32) (x : Sn) : Sn := if k ∈ pol then x else (BC p x).1
structure EndI (w0 : World) (g gr : Nat) (iv lv : Value) (p : Par) (t : Tr) (M : List TN) (I : List (Vec 32 × Value × Sn)) (pol : List (Vec 32)) (As Ys : List Asn) (i : Nat) (nv : Value) (J : List (Vec 32 × Value × Sn)) (E : List Asn) (z : World) : Prop where
  eq : J.map (fun e => (e.1, e.2.2)) = ((I.take i).filter fun e => has t M e.1).map fun e => (e.1, endG p pol e.1 e.2.2)
  dat : IDat J (E ++ Ys)
  sep : Sep w0 z (rows Al nv (J.map inst) :: (doH g gr iv lv p t M I ++ (E ++ As)))
end
end Go.Fx
namespace Go.Fx
theorem AhT {t : Tr} {M : List TN} {V : List Vt} (h : BN V) : cntB t M V = cntT t M V := by
  funext k
  rw [cntB, if_pos h]
structure DL (w0 : World) (As Ys : List Asn) (g gr g10 : Nat) (p : Par) (M0 : List TN) (n0 : Nat) (s : PS) (M : List TN) (I : List (Vec 32 × Value × Sn)) (iv lv : Value) (E : List Asn) (polL : List (Vec 32)) (a b c : Value) (z : World) : Prop where
  eN : s.N = sN M
  sub : ∀ x ∈ M, x ∈ M0
  eS : IM I = s.S
  nd : (I.map (·.1)).Nodup
  len : I.length = n0
  dat : IDat I (E ++ Ys)
  pol : ∀ k, k ∈ polL ↔ k ∈ s.pol
  sep : Sep w0 z (doH g gr iv lv p s.t M I ++ (rows (rVec 32) a s.acc :: rows (rVec 32) b s.rej :: rows (rVec 32) c polL :: blk g10 (Rdr.cells (rVec 32) s.pos).toArray Aa :: (E ++ As)))
section
variable {w0 w w' : World} {As Ys : List Asn} {g gr g10 n0 : Nat} {iv lv v : Value} {p : Par} {t : Tr} {M : List TN} {I : List (Vec 32 × Value × Sn)} {m : Nat} {V : List Vt}
theorem DL.to {s : PS} {M0 : List TN} {E Xs : List Asn} {polL : List (Vec 32)} {a b c : Value} {z : World} (hYA : ∀ A ∈ Ys, A ∈ As) (hd : Dat M0 As) (hsub : ∀ x ∈ M, x ∈ M0) (hdat : IDat I (E ++ Ys))
    (h : Sep w0 z (Xs ++ (doH g gr iv lv p s.t M I ++ (rows (rVec 32) a s.acc :: rows (rVec 32) b s.rej :: rows (rVec 32) c polL :: blk g10 (Rdr.cells (rVec 32) s.pos).toArray Aa :: (E ++ As))))) : DoR z.heap g gr iv lv p s.t M I := by
  refine QJ (Sep.dropL h) (fun x hx => ?_) (hdat.sub fun A hA => ?_)
  · have := hd x (hsub x hx)
    simp [this]
  · simp only [List.mem_cons]
    exact .inr (.inr (.inr (.inr (List.mem_append.2 ((List.mem_append.1 hA).imp id (hYA A))))))
set_option maxHeartbeats 2000000 in
theorem Vh (hs : Sep w0 w (doH g gr iv lv p t M I ++ As)) (hd : Dat M As) (hid : IDat I Ys) (hYA : ∀ A ∈ Ys, A ∈ As) (hnd : (I.map (·.1)).Nodup) (hi : TpI p m t M (IM I)) (hm : m ≤ 100) (hv : ∀ z, Sep w0 z As → AB Au z.heap v V) (hl : V.length ≤ 1000000) (hn : M.length ≤ 100) (hIl : I.length ≤ 1000000) :
    cal P HL [ptr g, v] w fun r w' =>
      (Dx p V ≠ 0 ∧ r = .tuple #[.slice none 0 0, .slice none 0 0, .int .i64 (Dx p V)] ∧ Sep w0 w' (doH g gr iv lv p t M I ++ As)) ∨
      (Dx p V = 0 ∧ ∃ s av rv iv' lv' M' J E, RI p V t M (IM I) s ∧ r = .tuple #[av, rv, .int .i64 0] ∧ s.N = sN M' ∧ (∀ x ∈ M', x ∈ M) ∧ IM J = Fo p s.t s.N s.S s.pol ∧ (J.map (·.1)).Nodup ∧ J.length ≤ I.length ∧ IDat J (E ++ Ys) ∧
        Sep w0 w' (doH g gr iv' lv' p s.t M' J ++ (rows (rVec 32) av s.acc :: rows (rVec 32) rv s.rej :: (E ++ As)))) := by
  refine St fun R hR => ?_
  unfold Kz
  have hvA : ∀ {z : World} {Xs : List Asn}, Sep w0 z (Xs ++ As) → AB Au z.heap v V := fun h => hv _ (Sep.dropL h)
  have hto0 : ∀ {z : World}, Sep w0 z (doH g gr iv lv p t M I ++ As) → DoR z.heap g gr iv lv p t M I := fun h => QJ h hd (hid.sub hYA)
  refine Af (RO (hvA hs) (by omega)) ?_
  rintro _ w1 ⟨rfl, hf1⟩
  have hs1 := hs.old hf1
  try simp only [fx, Nat.reduceAdd, forall_const]
  rw [Aj]
  refine ⟨fun h => ?_, fun h => ?_⟩
  · have hb : ¬ BN V := fun hb => by rw [Hg hb] at h; cases h
    have he : Dx p V = 70 := by rw [Dx, if_pos hb]
    exact hR _ _ (.inl ⟨by rw [he]; decide, by rw [he], hs1⟩)
  have hb : BN V := GK.1 (by simpa using h)
  refine A0 hs1 fun w2 hs2 _ => ?_
  refine AF (v := .int .i64 p.1) (fun u hu K hk => by
    obtain ⟨T, fr, hc⟩ := (hto0 hu).cell
    exact (Mj hc K).mpr hk) ?_
  refine AL (Af (Adq (hvA hs2) (by omega)) ?_)
  rintro _ w3 ⟨rfl, hf3⟩
  have hs3 := hs2.old hf3
  refine ⟨hs3, ?_⟩
  rw [XE hb]
  try simp only [fx, Nat.reduceAdd, forall_const]
  rw [Aj]
  refine ⟨fun h => ?_, fun h => ?_⟩
  · have h : p.1 < sumV V := by simpa using h
    have he : Dx p V = 1 := by rw [Dx, if_neg (by simpa using hb), if_pos h]
    exact hR _ _ (.inl ⟨by rw [he]; decide, by rw [he], hs3⟩)
  have hsum : sumV V ≤ p.1 := by simp at h; omega
  have he0 : Dx p V = 0 := by rw [Dx, if_neg (by simpa using hb), if_neg (by omega)]
  have hr3 := hto0 hs3
  simp only [fx, Nat.reduceAdd, forall_const, hr3.ldT, hr3.ldR]
  refine Av hs3 (AS w3) fun g10 w4 hs4 => ?_
  refine AE hs4 fun w5 hs5 => ?_
  have hps := hi.pi
  obtain ⟨B, hB⟩ : ∃ B, B = muP m (ps0 t M (IM I)) := ⟨_, rfl⟩
  have hBl : B ≤ 100000 := by
    rw [hB]
    unfold muP
    have h1 : (ps0 t M (IM I)).N.length = M.length := Gd (D2 M)
    rw [h1]
    have h2 : M.length * (2 * m + 4) ≤ 100 * 204 := Nat.mul_le_mul hn (by omega)
    split <;> omega
  refine AfK (D := PS) (fun s a b c z => ∃ M' I' iv' lv' E polL, CH p V (ps0 t M (IM I)) s ∧ polL.length + muP m s ≤ B ∧ DL w0 As Ys g gr g10 p M I.length s M' I' iv' lv' E polL a b c z) (muP m) (ps0 t M (IM I))
    ⟨M, I, iv, lv, [], [], .refl _, by rw [hB]; simp, ⟨rfl, fun _ h => h, rfl, hnd, rfl, hid, fun k => Iff.rfl, Sep.pick (Sep.nilR (q := rVec 32) (Sep.nilR (q := rVec 32) (Sep.nilR (q := rVec 32) hs5))) [4, 5, 6, 7, 0, 1, 2, 3] 8⟩⟩ ?_
  rintro s a b c z K ⟨M', I', iv', lv', E, polL, hre, hpl, hD⟩ hK -
  have hp := hre.pi hps hb hsum
  have eN := hD.eN
  have hsub := hD.sub
  have eS := hD.eS
  have hdat := hD.dat
  have hz := hD.sep
  have hkb : kbs M' = kbs s.N := by rw [eN, D2]
  have hlN : M'.length ≤ 1000 ∧ s.acc.length + s.rej.length + M'.length ≤ 1000 := by
    have h1 := hre.parts hps hb hsum
    have h2 := Gd hkb
    have h3 : (ps0 t M (IM I)).N.length = M.length := Gd (D2 M)
    have h4 : (ps0 t M (IM I)).acc.length = 0 := rfl
    have h5 : (ps0 t M (IM I)).rej.length = 0 := rfl
    omega
  have htm : TM s.t M' m := hp.tm.kb hkb.symm
  have hI'l : I'.length ≤ 1000000 := by rw [hD.len]; exact hIl
  have hto : ∀ {z : World} {Xs : List Asn}, Sep w0 z (Xs ++ (doH g gr iv' lv' p s.t M' I' ++ (rows (rVec 32) a s.acc :: rows (rVec 32) b s.rej :: rows (rVec 32) c polL :: blk g10 (Rdr.cells (rVec 32) s.pos).toArray Aa :: (E ++ As)))) → DoR z.heap g gr iv' lv' p s.t M' I' := fun h => DL.to hYA hd hsub hdat h
  simp only [Ai (Sep.blk (Sep.pick hz [7] 8))]
  refine Af (II (hto (Xs := []) hz) hI'l s.pos) ?_
  rintro _ z1 ⟨hf1, hcase⟩
  have hz1 := hz.old hf1
  refine CT hz1 fun z2 hz2 _ => ?_
  obtain ⟨dnv, hdnv⟩ : ∃ d : Bool, d = match s.S s.pos with | some x => x.dn | none => false := ⟨_, rfl⟩
  obtain ⟨τ, hτ⟩ : ∃ τ : Int, (IM I' s.pos = none ∧ τ = -1 ∨ ∃ (j : Nat) (e : Vec 32 × Value × Sn), I'[j]? = some e ∧ e.1 = s.pos ∧ IM I' s.pos = some e.2.2 ∧ τ = (j : Int)) ∧ (_ : Value) = .int .i64 τ := by
    rcases hcase with ⟨h1, h2⟩ | ⟨j, e, h1, h2, h3, h4⟩
    · exact ⟨-1, .inl ⟨h1, rfl⟩, h2⟩
    · exact ⟨j, .inr ⟨j, e, h1, h2, h3, rfl⟩, h4⟩
  obtain ⟨hτ, rfl⟩ := hτ
  clear hcase
  have hr2 := hto (Xs := []) hz2
  have hd2 : 0 ≤ τ → ∃ (j : Nat) (e : Vec 32 × Value × Sn), I'[j]? = some e ∧ e.1 = s.pos ∧ s.S s.pos = some e.2.2 ∧ dnv = e.2.2.dn ∧ τ = (j : Int) := fun h0 => by
    rcases hτ with ⟨_, h2⟩ | ⟨j, e, h1, h2, h3, h4⟩
    · omega
    · rw [eS] at h3
      exact ⟨j, e, h1, h2, h3, by rw [hdnv, h3], h4⟩
  have hbe : s.best V = B0 (cntB s.t M' V) (Bk s.t M' s.pos) := by
    rw [AhT hb, FZ hkb]
    exact AeF fun k _ => (W2 hkb V k).symm
  simp only [fx, Nat.reduceAdd, forall_const]
  refine Lj (decide (τ ≥ 0) && decide (s.pos = s.t.root)) (fun u => Sep w0 u (doH g gr iv' lv' p s.t M' I' ++ (rows (rVec 32) a s.acc :: rows (rVec 32) b s.rej :: rows (rVec 32) c polL :: blk g10 (Rdr.cells (rVec 32) s.pos).toArray Aa :: (E ++ As)))) (fun hq => ?_) (fun hq => ⟨by rw [hq]; rfl, hz2⟩) fun y z3 hy hz3 _ => ?_
  · simp only [Ai (Sep.blk (Sep.pick hz2 [7] 8)), hr2.ldT, fx, Nat.reduceAdd, forall_const, hr2.ldR, B3]
    exact ⟨by rw [hq]; rfl, hz2⟩
  rw [hy]
  have hr3 := hto (Xs := []) hz3
  refine Lj (decide (τ ≥ 0) && decide (s.pos = s.t.root) && dnv) (fun u => Sep w0 u (doH g gr iv' lv' p s.t M' I' ++ (rows (rVec 32) a s.acc :: rows (rVec 32) b s.rej :: rows (rVec 32) c polL :: blk g10 (Rdr.cells (rVec 32) s.pos).toArray Aa :: (E ++ As)))) (fun hq => ?_) (fun hq => ⟨by rw [hq]; rfl, hz3⟩) fun y2 z4 hy2 hz4 _ => ?_
  · obtain ⟨j, e, h1, h2, h3, h4, rfl⟩ := hd2 (by simp only [Bool.and_eq_true, decide_eq_true_eq] at hq; exact hq.1)
    obtain ⟨g5, o, ha, hix⟩ := AB.ix (q := Al) (by decide) hr3.rw (Dt h1)
    simp only [fx, Nat.reduceAdd, forall_const, hr3.ldL]
    rw [show ∀ K, ixs 99 iv' (.int .i64 (j : Int)) K = K (.pointer (some ⟨g5, o, none⟩)) from fun K => hix .i64 K]
    simp only [fx, Nat.reduceAdd, forall_const, FG ha]
    exact ⟨by rw [hq, h4]; rfl, hz3⟩
  rw [hy2]
  have hr4 := hto (Xs := []) hz4
  rw [Aj]
  refine ⟨fun h => ?_, fun h => ?_⟩
  · -- the root's instance is done
    simp only [Bool.and_eq_true, decide_eq_true_eq] at h
    obtain ⟨⟨h0, hroot⟩, hdn⟩ := h
    obtain ⟨j, e, h1, h2, hxS, h4, rfl⟩ := hd2 h0
    have hdn : e.2.2.dn = true := h4 ▸ hdn
    have hst : pstep p V s = some (s.moved (prf e.2.2)) := by
      unfold pstep
      rw [hxS]
      simp only
      rw [if_pos ⟨hroot, hdn⟩]
    have hmu := (L9 hp hb hsum hst).2
    have hmv : mvOk s.t M' (prf e.2.2) = true := by rw [Ac8 hkb]; exact (hp.root_x hroot hxS).1
    obtain ⟨g5, o, ha, hix⟩ := AB.ix (q := Al) (by decide) hr4.rw (Dt h1)
    simp only [fx, Nat.reduceAdd, forall_const, hr4.ldL]
    rw [show ∀ K, ixs 99 iv' (.int .i64 (j : Int)) K = K (.pointer (some ⟨g5, o, none⟩)) from fun K => hix .i64 K]
    simp only [fx, Nat.reduceAdd, forall_const, HR ha]
    refine Af (NE (v := e.2.1) (x := e.2.2)) ?_
    rintro _ z5 ⟨rfl, hf5⟩
    have hz5 := hz4.old hf5
    refine AE (b := prf e.2.2) (Sep.pick hz5 [7, 0, 1, 2, 3, 4, 5, 6] 8) fun z6 hz6 => ?_
    refine A0 hz6 fun z7 hz7 _ => ?_
    try simp only [fx, Nat.reduceAdd, forall_const]
    refine AF (v := ptr gr) (fun u hu K hk => (Iy (Sep.blk hu.p1) K).mpr hk) ?_
    refine ⟨kv (prf e.2.2), fun u hu => (Ai (Sep.blk hu) _).mpr rfl, ?_⟩
    have hzm := Sep.pick hz7 [3, 4, 0, 1, 2, 5, 6, 7] 8
    refine BD (Af (Aec (t := s.t) (N := M') (g := gr) (lv := lv') hzm (fun y hy => ?_) htm.w htm.nd (by omega) (fun q hq => Nat.le_trans (htm.hb q hq) (by omega)) (prf e.2.2)) ?_)
    · exact List.mem_cons_of_mem _ (List.mem_cons_of_mem _ (List.mem_cons_of_mem _ (List.mem_cons_of_mem _ (List.mem_cons_of_mem _ (List.mem_cons_of_mem _ (List.mem_append_right _ (hd y (hsub y hy))))))))
    rintro _ z8 (⟨hf, _⟩ | ⟨_, gv, lv2, rfl, hz8⟩)
    · rw [hmv] at hf; cases hf
    rw [Afb hkb, Mz hkb] at hz8
    try simp only [fx, Nat.reduceAdd, forall_const, Ai (Sep.blk (Sep.pick hz8 [3] 4))]
    refine bldI hz8 fun q1 z9 hz9 => ?_
    refine appI (Sep.pick hz9 [7, 0, 1, 2, 3, 4, 5, 6, 8, 9] 10) (Sep.rows hz9) (by omega) fun a' z10 hz10 => ?_
    have hgl : (CB s.t s.N (prf e.2.2)).length ≤ 1000000 := by
      rw [← Mz hkb]
      have := T6 htm.w hmv
      omega
    have hgv : AB (rVec 32) z10.heap gv (CB s.t s.N (prf e.2.2)) := Sep.rows (Sep.pick hz10 [4] 5)
    refine BX CM EB (by simp) (Sep.pick hz10 [8, 0, 1, 2, 3, 4, 5, 6, 7, 9] 10) hgv ?_ (by omega) (by omega) fun b' z11 hz11 => ?_
    · intro u hu
      obtain ⟨y, hy, hu⟩ := List.mem_flatMap.1 hu
      exact Ca u hu
    refine hK (s.moved (prf e.2.2)) _ _ _ _ ⟨mvN s.t M' (prf e.2.2), I', iv', lv2, E, polL, hre.step hst, by omega, ⟨?_, fun y hy => hsub y (List.mem_filter.1 hy).1, eS, hD.nd, hD.len, hdat, hD.pol, ?_⟩⟩ hmu
    · show mvN s.t s.N (prf e.2.2) = _
      rw [eN, Ahr]
    · exact Sep.pick hz11 [7, 8, 3, 4, 1, 0, 9, 6] 10
  · -- polled, or the end
    have hnc : ∀ x, s.S s.pos = some x → ¬ (s.pos = s.t.root ∧ x.dn = true) := fun x hx hc => by
      rcases hτ with ⟨h1, _⟩ | ⟨j, e, h1, h2, h3, h4⟩
      · rw [eS] at h1; rw [h1] at hx; cases hx
      · have e1 : dnv = true := by rw [hdnv, hx]; exact hc.2
        rw [e1, hc.1, h4] at h
        simp at h
    simp only [Ai (Sep.blk (Sep.pick hz4 [7] 8))]
    refine Af (Ad0 htm hr4 (hvA (Xs := doH g gr iv' lv' p s.t M' I' ++ (rows (rVec 32) a s.acc :: rows (rVec 32) b s.rej :: rows (rVec 32) c polL :: blk g10 (Rdr.cells (rVec 32) s.pos).toArray Aa :: E)) (by simpa using hz4)) hl (by omega) (by omega) s.pos) ?_
    rintro _ z5 ⟨rfl, hf5⟩
    rw [← hbe]
    have hz5 := hz4.old hf5
    try simp only [fx, Nat.reduceAdd, forall_const]
    refine Av hz5 (AS z5) fun g14 z6 hz6 => ?_
    refine AE (b := (s.best V).1) hz6 fun z7 hz7 => ?_
    have hr7 := hto (Xs := [_]) hz7
    obtain ⟨T7, fr7, hc7⟩ := hr7.cell
    refine (IB hc7 _).mpr ?_
    try simp only [fx, Nat.reduceAdd, forall_const]
    rw [Aj]
    refine ⟨fun h2 => ?_, fun h2 => ?_⟩
    · have h2 : (s.best V).2 < p.2.1 := by simpa using h2
      have hend : pstep p V s = none := by
        unfold pstep
        cases hx : s.S s.pos with
        | none => rfl
        | some x =>
          simp only
          rw [if_neg (hnc x hx), if_pos h2]
      have hz8 : Sep w0 z7 (doH g gr iv' lv' p s.t M' I' ++ (rows (rVec 32) a s.acc :: rows (rVec 32) b s.rej :: rows (rVec 32) c polL :: (E ++ As))) := Sep.pick hz7 [1, 2, 3, 4, 5, 6, 7] 9
      obtain ⟨Zs, hZs⟩ : ∃ Zs, Zs = rows (rVec 32) a s.acc :: rows (rVec 32) b s.rej :: rows (rVec 32) c polL :: (E ++ As) := ⟨_, rfl⟩
      obtain ⟨Qs, hQs⟩ : ∃ Qs, Qs = E ++ Ys := ⟨_, rfl⟩
      rw [← hZs] at hz8
      have hQZ : ∀ A ∈ Qs, A ∈ Zs := fun A hA => by
        rw [hZs]
        rw [hQs] at hA
        refine List.mem_cons_of_mem _ (List.mem_cons_of_mem _ (List.mem_cons_of_mem _ ?_))
        exact List.mem_append.2 ((List.mem_append.1 hA).imp id (hYA A))
      have hdZ : Dat M' Zs := fun x hx => by
        rw [hZs]
        exact List.mem_cons_of_mem _ (List.mem_cons_of_mem _ (List.mem_cons_of_mem _ (List.mem_append_right _ (hd x (hsub x hx)))))
      have hIQ : IDat I' Qs := hQs ▸ hdat
      have hmay : ∀ k x, IM I' k = some x → May p x := fun k x hx => hp.may k x (by rw [← eS]; exact hx)
      have hndI := hD.nd
      refine ⟨fun nv y z => ∃ (i : Nat) (J : List (Vec 32 × Value × Sn)) (E2 : List Asn), y = .int .i64 i ∧ i ≤ I'.length ∧ EndI w0 g gr iv' lv' p s.t M' I' polL Zs Qs i nv J E2 z, fun _ y _ => (I'.length - RowKit.intOf y).toNat,
        ⟨0, [], [], rfl, by omega, ⟨rfl, fun x hx => (by cases hx), Sep.nilR (q := Al) hz8⟩⟩, ?_⟩
      rintro nv _ z9 ⟨i, J, E2, rfl, hi2, hEI⟩ -
      have hz9 := hEI.sep
      have rdo : ∀ {z : World} {Xs E3 : List Asn}, (∀ A ∈ E2, A ∈ E3) → Sep w0 z (Xs ++ (doH g gr iv' lv' p s.t M' I' ++ (E3 ++ Zs))) → DoR z.heap g gr iv' lv' p s.t M' I' := fun hE h => QJ (Sep.dropL h) (hdZ.sub fun A hA => List.mem_append_right _ hA) (hIQ.sub fun A hA => List.mem_append_right _ (hQZ A hA))
      have hJl : J.length ≤ 1000000 := by
        have h1 := congrArg List.length hEI.eq
        simp only [List.length_map] at h1
        have h3 := List.length_filter_le (fun e : Vec 32 × Value × Sn => has s.t M' e.1) (I'.take i)
        rw [List.length_take] at h3
        omega
      have hr9 := rdo (Xs := [_]) (fun _ h => h) hz9
      simp only [fx, Nat.reduceAdd, forall_const, hr9.ldL, hr9.len]
      rw [Aj]
      refine ⟨fun h3 => ?_, fun h3 => ?_⟩
      · have hlt : i < I'.length := by simp at h3; omega
        obtain ⟨e, he⟩ : ∃ e, I'[i]? = some e := ⟨_, List.getElem?_eq_getElem hlt⟩
        have htk : I'.take (i + 1) = I'.take i ++ [e] := by rw [List.take_add_one, he]; rfl
        have hem := List.mem_of_getElem? he
        refine ⟨fun nv' z => ∃ J2 E3, EndI w0 g gr iv' lv' p s.t M' I' polL Zs Qs (i + 1) nv' J2 E3 z, ?_, ?_⟩
        case refine_2 =>
          rintro nv' z' ⟨J2, E3, hEI'⟩ _
          rw [wi64 (by omega) (by omega)]
          exact ⟨⟨i + 1, J2, E3, by simp, by omega, hEI'⟩, by simp [RowKit.intOf]; omega⟩
        refine A0 hz9 fun z10 hz10 _ => ?_
        refine AF (v := ptr gr) (fun u hu K hk => ((rdo (Xs := [_]) (fun _ h => h) hu).ldT K).mpr hk) ?_
        refine AF (v := iv') (fun u hu K hk => ((rdo (Xs := [_]) (fun _ h => h) hu).ldL K).mpr hk) ?_
        refine Ip (q := Al) (s := rVec 32) fAt (by decide) hz10 (fun u hu => (rdo (Xs := [_]) (fun _ h => h) hu).rw) (Dt he) .i64 ?_
        refine BD (Af (GY (rdo (Xs := [_]) (fun _ h => h) hz10).rf (by omega) e.1) ?_)
        rintro _ z11 ⟨rfl, hf11⟩
        have hz11 := hz10.old hf11
        simp only [fx, Nat.reduceAdd, forall_const]
        rw [Aj]
        refine ⟨fun h4 => ?_, fun h4 => ?_⟩
        · have h4 : has s.t M' e.1 = false := by simpa using h4
          refine ⟨J, E2, ⟨?_, hEI.dat, hz11⟩⟩
          rw [htk, List.filter_append, List.filter_cons, h4]
          simp only [Bool.false_eq_true, if_false, List.filter_nil, List.append_nil]
          exact hEI.eq
        have h4 : has s.t M' e.1 = true := by simpa using h4
        have hr11 := rdo (Xs := [_]) (fun _ h => h) hz11
        rw [hr11.ldL]
        change ixs 99 _ _ _
        refine AB.ldN (q := Al) (by decide) hr11.rw (Dt he) .i64 ?_
        have h1e : e.2.1.oneCell' = true := (hr11.ch e hem).one1
        refine Av hz11 (PO z11) fun g18 z12 hz12 => ?_
        refine Pu (b := inst e) hz12 (Ady h1e) fun z13 hz13 => ?_
        refine ⟨fun z => ∃ v' x' E3, x' = endG p polL e.1 e.2.2 ∧ v'.oneCell' = true ∧ rows Ab v' x'.l ∈ E3 ++ Qs ∧ (∀ A ∈ E2, A ∈ E3) ∧ Sep w0 z (blk g18 (Rdr.cells Al (inst (e.1, v', x'))).toArray BG :: rows Al nv (J.map inst) :: (doH g gr iv' lv' p s.t M' I' ++ (E3 ++ Zs))), ?_, ?_⟩
        · try simp only [fx, Nat.reduceAdd, forall_const]
          refine (MV (Sep.blk hz13) _).mpr ?_
          have hpr : AB (rVec 32) z13.heap c polL := by
            have h5 := Sep.dropL (As := E2) (Sep.dropL (As := doH g gr iv' lv' p s.t M' I') hz13.tail.tail)
            rw [hZs] at h5
            exact Sep.rows h5.p2
          refine Af (AhD hpr (by omega) e.1) ?_
          rintro _ z14 ⟨rfl, hf14⟩
          have hz14 := hz13.old hf14
          simp only [fx, Nat.reduceAdd, forall_const]
          rw [Aj]
          refine ⟨fun h5 => ?_, fun h5 => ?_⟩
          · have h5 : e.1 ∉ polL := by simpa using h5
            refine A0 hz14 fun z15 hz15 _ => ?_
            refine ⟨pav p, fun u hu => ((rdo (Xs := [_, _]) (fun _ h => h) hu).ldP _).mpr rfl, ?_⟩
            refine ⟨snv e.2.1 e.2.2, fun u hu => (NJ (Sep.blk hu) _).mpr rfl, ?_⟩
            have hch := (rdo (Xs := [_, _]) (fun _ h => h) hz15).ch e hem
            have hmx := hmay _ _ (AeE hndI he)
            refine BD (Af (TA (v := e.2.1) (x := e.2.2) (NM hi.par) hch (by have := hmx.n2; omega) hch.one1) ?_)
            rintro _ z16 ⟨v', rfl, hz16⟩
            have hz17 := hz15.join hz16
            try simp only [fx, Nat.reduceAdd, forall_const]
            refine A9 (Ng (b := snr v' (BC p e.2.2).1) hz17.p1 (AD (Sep.oneR hz17)) fun z18 hz18 => ?_)
            refine ⟨v', (BC p e.2.2).1, rows Ab v' (BC p e.2.2).1.l :: E2, by rw [endG, if_neg h5], Sep.oneR hz17, List.mem_cons_self .., fun A hA => List.mem_cons_of_mem _ hA, ?_⟩
            exact Sep.pick hz18 [0, 2, 3, 4, 5, 6, 1] 7
          · have h5 : e.1 ∈ polL := by simpa using h5
            exact ⟨e.2.1, e.2.2, E2, by rw [endG, if_pos h5], h1e, List.mem_append_right _ (hIQ e hem), fun A hA => hA, hz14⟩
        · rintro z14 ⟨v', x', E3, hx', h1v, hmem, hE23, hz14⟩ _
          refine (QI (Sep.blk hz14) _).mpr ?_
          refine CQ hz14 CU (l := [inst (e.1, v', x')]) (V := fun a => .agg (Rdr.cells Al a).toArray) (fun a => rfl) rfl rfl (by decide) (by decide) fun g15 z15 hz15 => ?_
          refine BX CU Fv (by simp) hz15.p2 (Sep.rows hz15) (Uy h1v) (by simp; omega) (by simp; omega) fun nv' z16 hz16 => ?_
          refine ⟨J ++ [(e.1, v', x')], E3, ⟨?_, fun x hx => ?_, ?_⟩⟩
          · rw [htk, List.filter_append, List.map_append, List.map_append, hEI.eq, List.filter_cons, h4, hx']
            rfl
          · rcases List.mem_append.1 hx with hx | hx
            · exact List.mem_append.2 ((List.mem_append.1 (hEI.dat x hx)).imp (hE23 _) id)
            · obtain rfl : x = (e.1, v', x') := by simpa using hx
              exact hmem
          · rw [List.map_append]
            exact hz16.d1.d1
      · have hie : i = I'.length := by simp at h3; omega
        have heq := hEI.eq
        rw [hie, List.take_length] at heq
        refine Fh hz9.p1 (Sep.oneR hz9) fun z10 hz10 => ?_
        have hnm := Ago heq hD.nd
        refine hR _ _ (.inr ⟨he0, s, a, b, nv, lv', M', J, E2 ++ E, ⟨hre, hend⟩, rfl, eN, hsub, ?_, hnm.1, by rw [← hD.len]; exact hnm.2, ?_, ?_⟩)
        · rw [RF (P := has s.t M') heq]
          funext k
          unfold Fo
          rw [D3 hkb, eS]
          split
          · cases s.S k with
            | none => rfl
            | some x =>
              show some (endG p polL k x) = some (if k ∈ s.pol then x else (BC p x).1)
              unfold endG
              by_cases hk : k ∈ polL
              · rw [if_pos hk, if_pos ((hD.pol k).1 hk)]
              · rw [if_neg hk, if_neg fun h => hk ((hD.pol k).2 h)]
          · rfl
        · rw [List.append_assoc, ← hQs]
          exact hEI.dat
        · rw [List.append_assoc]
          rw [hZs] at hz10
          have h5 := Sep.pick hz10 [0, 1, 3, 4] 5
          have h6 := h5.perm (List.Perm.append_left [_, _, _, _] (GC E2 [_, _, _] (E ++ As)))
          exact Sep.pick h6 [0, 1, 2, 3, 4, 5] 7
    · have hge : ¬ (s.best V).2 < p.2.1 := by simpa using h2
      obtain ⟨x, hxS⟩ : ∃ x, s.S s.pos = some x := by
        cases hx : s.S s.pos with
        | some x => exact ⟨x, rfl⟩
        | none =>
          exfalso
          have h3 := hp.no s.pos hp.pos hx
          apply hge
          show (B0 (cntT s.t s.N V) (Bk s.t s.N s.pos)).2 < p.2.1
          rw [h3]
          obtain ⟨q1, q2, q3, _⟩ := EZ hi.par
          show (0 : Int) < p.2.1
          omega
      obtain ⟨j, e, h1, hpe, hIe, rfl⟩ : ∃ (j : Nat) (e : Vec 32 × Value × Sn), I'[j]? = some e ∧ e.1 = s.pos ∧ s.S s.pos = some e.2.2 ∧ τ = (j : Int) := by
        rcases hτ with ⟨h1, _⟩ | ⟨j, e, h1, h2, h3, h4⟩
        · rw [eS] at h1; rw [h1] at hxS; cases hxS
        · rw [eS] at h3
          exact ⟨j, e, h1, h2, h3, h4⟩
      obtain rfl : x = e.2.2 := by rw [hxS] at hIe; exact Option.some.inj hIe
      have hst : pstep p V s = some (s.polled (B1 p e.2.2 (s.best V).1 (s.best V).2).1 (s.best V).1) := by
        unfold pstep
        rw [hxS]
        simp only
        rw [if_neg (hnc _ hxS), if_neg hge]
      have hmu := (L9 hp hb hsum hst).2
      obtain ⟨i1, i2, i3, i4, i5⟩ := hp.best_in hb hsum hxS hge
      have hmx := hp.may _ _ hxS
      have hxl : e.2.2.l.length ≤ 1000000 := by have := hmx.n2; omega
      obtain ⟨kk, hkk⟩ : ∃ kk, kk = (s.best V).1 := ⟨_, rfl⟩
      obtain ⟨nn, hnn⟩ : ∃ nn, nn = (s.best V).2 := ⟨_, rfl⟩
      rw [← hkk, ← hnn] at hst hmu
      rw [← hkk] at hz7
      rw [← hnn]
      obtain ⟨y, hyy⟩ : ∃ y, y = (B1 p e.2.2 kk nn).1 := ⟨_, rfl⟩
      rw [← hyy] at hst hmu
      have hem := List.mem_of_getElem? h1
      obtain ⟨gx, ox, cx, rfl⟩ := hr7.rw.form (by decide) (Dt h1)
      have hjl := (List.getElem?_eq_some_iff.1 h1).1
      have hix : ∀ K, ixs 99 (.slice (some ⟨gx, ox, none⟩) (I'.map inst).length cx) (.int .i64 (j : Int)) K = K (.pointer (some ⟨gx, ox + j * 99, none⟩)) := fun K => by
        rw [DJ _ _ _ _ _ _ _ _ (by omega) (by simp; omega), Int.toNat_natCast]
      refine A0 hz7 fun z8 hz8 _ => ?_
      refine AF (v := .slice (some ⟨gx, ox, none⟩) (I'.map inst).length cx) (fun u hu K hk => ((hto (Xs := [_]) hu).ldL K).mpr hk) ?_
      refine ⟨pav p, fun u hu => ((hto (Xs := [_]) hu).ldP _).mpr rfl, ?_⟩
      refine AF (v := .slice (some ⟨gx, ox, none⟩) (I'.map inst).length cx) (fun u hu K hk => ((hto (Xs := [_]) hu).ldL K).mpr hk) ?_
      refine Ip (q := Al) (s := Aq) fS (by decide) hz8 (fun u hu => (hto (Xs := [_]) hu).rw) (Dt h1) .i64 ?_
      refine ⟨kv kk, fun u hu => (Ai (Sep.blk hu) _).mpr rfl, ?_⟩
      have hch := (hto (Xs := [_]) hz8).ch e hem
      refine AL (Af (Ab4 (v := e.2.1) (x := e.2.2) (NM hi.par) hch hxl hch.one1) ?_)
      rintro _ z9 ⟨v', rfl, hz9⟩
      replace hz9 := hz8.join hz9
      rw [← hyy] at hz9 ⊢
      refine ⟨hz9.tail, ?_⟩
      simp only [fx, Nat.reduceAdd, forall_const, hix]
      refine A9 (Abv (q := Al) (s := Aq) fS (b := snr v' y) (Sep.pick hz9 [3, 0, 1, 2, 4, 5, 6, 7, 8, 9] 10) (Dt h1) rfl (AD (Sep.oneR hz9)) (by decide) fun z10 hz10 => ?_)
      simp only [Ai (Sep.blk (Sep.pick hz10 [9] 10))]
      refine bldI hz10 fun q1 z11 hz11 => ?_
      refine appI (Sep.pick hz11 [9, 0, 1, 2, 3, 4, 5, 6, 7, 8, 10] 11) (Sep.rows hz11) (by omega) fun c' z12 hz12 => ?_
      have hndI := hD.nd
      obtain ⟨I2, hI2⟩ : ∃ I2, I2 = I'.set j (e.1, v', y) := ⟨_, rfl⟩
      obtain ⟨E2, hE2⟩ : ∃ E2, E2 = blk g14 (Rdr.cells (rVec 32) kk).toArray Aa :: rows Ab v' y.l :: E := ⟨_, rfl⟩
      have hz13 : Sep w0 z12 (doH g gr (.slice (some ⟨gx, ox, none⟩) (I'.map inst).length cx) lv' p s.t M' I2 ++ (rows (rVec 32) a s.acc :: rows (rVec 32) b s.rej :: rows (rVec 32) c' (polL ++ [s.pos]) :: blk g10 (Rdr.cells (rVec 32) s.pos).toArray Aa :: (E2 ++ As))) := by
        unfold doH
        rw [hI2, hE2, List.map_set]
        exact Sep.pick hz12 [5, 2, 6, 7, 8, 9, 0, 10, 4, 3] 11
      have hdat2 : IDat I2 (E2 ++ Ys) := fun x hx => by
        rw [hI2] at hx
        rw [hE2]
        rcases List.mem_or_eq_of_mem_set hx with hx | rfl
        · exact List.mem_cons_of_mem _ (List.mem_cons_of_mem _ (hdat x hx))
        · exact List.mem_cons_of_mem _ (List.mem_cons_self ..)
      have hI2S : IM I2 = updS s.S s.pos y := by rw [hI2, ZO hndI h1, eS, hpe]
      have hI2n : (I2.map (·.1)).Nodup := by rw [hI2, Yd h1]; exact hndI
      have hI2l : I2.length = I.length := by rw [hI2, List.length_set]; exact hD.len
      have hI2e : I2[j]? = some (e.1, v', y) := by rw [hI2, List.getElem?_set_self hjl]
      have hpol2 : ∀ k, k ∈ polL ++ [s.pos] ↔ k ∈ (s.polled y kk).pol := fun k => by
        show _ ↔ k ∈ s.pos :: s.pol
        rw [List.mem_append, List.mem_singleton, List.mem_cons, hD.pol k]
        exact Or.comm
      have hto2 : ∀ {z : World}, Sep w0 z (doH g gr (.slice (some ⟨gx, ox, none⟩) (I'.map inst).length cx) lv' p s.t M' I2 ++ (rows (rVec 32) a s.acc :: rows (rVec 32) b s.rej :: rows (rVec 32) c' (polL ++ [s.pos]) :: blk g10 (Rdr.cells (rVec 32) s.pos).toArray Aa :: (E2 ++ As))) → DoR z.heap g gr (.slice (some ⟨gx, ox, none⟩) (I'.map inst).length cx) lv' p s.t M' I2 := fun h => DL.to (Xs := []) hYA hd hsub hdat2 h
      have rd14 : ∀ {z : World}, Sep w0 z (doH g gr (.slice (some ⟨gx, ox, none⟩) (I'.map inst).length cx) lv' p s.t M' I2 ++ (rows (rVec 32) a s.acc :: rows (rVec 32) b s.rej :: rows (rVec 32) c' (polL ++ [s.pos]) :: blk g10 (Rdr.cells (rVec 32) s.pos).toArray Aa :: (E2 ++ As))) → z.heap[g14]? = some (.cells (Rdr.cells (rVec 32) kk).toArray Aa (0, 0)) := fun h => by
        rw [hE2] at h
        exact Sep.blk (Sep.pick h [8] 9)
      refine CT hz13 fun z14 hz14 _ => ?_
      have hr14 := hto2 hz14
      simp only [Ai (Sep.blk (Sep.pick hz14 [7] 8)), hr14.ldT, fx, Nat.reduceAdd, forall_const, hr14.ldR, C0]
      refine Agv (!decide (s.pos = s.t.root) || !y.dn) (fun u => Sep w0 u (doH g gr (.slice (some ⟨gx, ox, none⟩) (I'.map inst).length cx) lv' p s.t M' I2 ++ (rows (rVec 32) a s.acc :: rows (rVec 32) b s.rej :: rows (rVec 32) c' (polL ++ [s.pos]) :: blk g10 (Rdr.cells (rVec 32) s.pos).toArray Aa :: (E2 ++ As)))) (fun hq => ?_) (fun hq => ⟨by rw [hq]; rfl, hz14⟩) fun y3 z15 hy3 hz15 _ => ?_
      · have hat : At z14.heap gx (ox + j * 99) (Rdr.cells Al (inst (e.1, v', y))) := by
          have h9 := hr14.rw
          have hll : (I'.map inst).length = (I2.map inst).length := by rw [hI2]; simp
          rw [hll] at h9
          exact At.of (q := Al) (by decide) h9 (Dt hI2e)
        simp only [fx, Nat.reduceAdd, forall_const, hr14.ldL, hix, FG hat]
        exact ⟨by rw [hq]; rfl, hz14⟩
      rw [hy3, Aj]
      refine ⟨fun h3 => ?_, fun h3 => ?_⟩
      · have h3 : s.pos ≠ s.t.root ∨ y.dn = false := by simpa using h3
        simp only [Ai (rd14 hz15)]
        refine AE (b := kk) (Sep.pick hz15 [7, 0, 1, 2, 3, 4, 5, 6] 8) fun z16 hz16 => ?_
        refine hK (s.polled y kk) _ _ _ _ ⟨M', I2, .slice (some ⟨gx, ox, none⟩) (I'.map inst).length cx, lv', E2, polL ++ [s.pos], hre.step hst, by simp; omega, ⟨eN, hsub, hI2S, hI2n, hI2l, hdat2, hpol2, ?_⟩⟩ hmu
        have ep : (s.polled y kk).pos = kk := if_pos h3
        rw [ep]
        exact Sep.pick hz16 [1, 2, 3, 4, 5, 6, 7, 0] 8
      · have h3 : ¬ (s.pos ≠ s.t.root ∨ y.dn = false) := by simpa using h3
        refine hK (s.polled y kk) _ _ _ _ ⟨M', I2, .slice (some ⟨gx, ox, none⟩) (I'.map inst).length cx, lv', E2, polL ++ [s.pos], hre.step hst, by simp; omega, ⟨eN, hsub, hI2S, hI2n, hI2l, hdat2, hpol2, ?_⟩⟩ hmu
        have ep : (s.polled y kk).pos = s.pos := if_neg h3
        rw [ep]
        exact hz15
end
end Go.Fx
namespace Go.Fx
def tlI0 : Vec 32 := ⟨[135, 143, 50, 247, 107, 21, 148, 148, 245, 163, 159, 147, 33, 97, 108, 96, 104, 205, 184, 46, 136, 223, 137, 188, 199, 57, 187, 193, 234, 120, 225, 249], by decide⟩
def tlIA : Vec 32 := ⟨[62, 253, 43, 128, 233, 213, 25, 64, 19, 138, 112, 192, 69, 117, 141, 110, 224, 187, 73, 199, 3, 47, 27, 66, 188, 217, 192, 69, 156, 95, 161, 204], by decide⟩
def tlIB : Vec 32 := ⟨[14, 29, 244, 54, 134, 100, 220, 212, 83, 189, 125, 81, 230, 184, 242, 135, 211, 169, 170, 163, 239, 228, 185, 3, 98, 215, 115, 60, 241, 136, 174, 250], by decide⟩
def tl0 : Blk := ⟨vz 32, 0, []⟩
def tlA : Blk := ⟨tlI0, 1, [97]⟩
def tlB : Blk := ⟨tlIA, 2, [98]⟩
set_option maxRecDepth 1000000 in
theorem Afs : tl0.id = tlI0 := by
  apply Subtype.ext
  show (shaL tl0.bytes).flatMap wOut = _
  rw [WY _ (by decide +kernel)]
  decide +kernel
set_option maxRecDepth 1000000 in
theorem VH : tlA.id = tlIA := by
  apply Subtype.ext
  show (shaL tlA.bytes).flatMap wOut = _
  rw [WY _ (by decide +kernel)]
  decide +kernel
set_option maxRecDepth 1000000 in
theorem Aah : tlB.id = tlIB := by
  apply Subtype.ext
  show (shaL tlB.bytes).flatMap wOut = _
  rw [WY _ (by decide +kernel)]
  decide +kernel
theorem Nq : tl0.chk = 0 := by decide +kernel
theorem AhJ : tlA.chk = 0 := by decide +kernel
def tlP : Par := (1, 1, 1, 1)
def tlT : Tr := ⟨tlI0, 0, 9⟩
def Ahq (t : Tr) (N : List TN) (b : Blk) (k : Vec 32) : Int :=
  if b.chk ≠ 0 then b.chk else if has t N k = true then 110 else if has t N b.p = false ∨ b.h < 1 ∨ b.h - 1 ≠ levH t N b.p then 31 else if t.most ≤ N.length then 6 else 0
def Abs (t : Tr) (N : List TN) (S : SM) (b : Blk) (k : Vec 32) : Int := if Ahq t N b k ≠ 0 then Ahq t N b k else match S b.p with
  | some x => if 32 ≤ x.l.length then 6 else 0
  | none => 0
theorem XI {t : Tr} {N : List TN} {S : SM} {b : Blk} {k : Vec 32} (h : b.id = k) : B5 t N S b = Abs t N S b k := by subst h; rfl
def tlS0 : SM := fun _ => none
def tlSA : SM := Hn tlP tlS0 tlA tlIA
def tlS : SM := Hn tlP tlSA tlB tlIB
abbrev tlN (v1 v2 : Value) (c1 c2 : Nat) : List TN := [(tlIA, tlA, v1, c1), (tlIB, tlB, v2, c2)]
theorem tlE1 : Abs tlT [] tlS0 tlA tlIA = 0 := by kernel_rfl
theorem tlE2 (v1 : Value) (c1 : Nat) : Abs tlT [(tlIA, tlA, v1, c1)] tlSA tlB tlIB = 0 := by kernel_rfl
def tlx (k : Vec 32) : Sn := ⟨[(k, 0)], k, k, 0, false⟩
def tly (k : Vec 32) : Sn := ⟨[(k, 1)], k, k, 1, true⟩
theorem AdA : tlS tlI0 = some (tlx tlIA) := by kernel_rfl
theorem Ahf : tlS tlIA = some (tlx tlIB) := by kernel_rfl
theorem AiW : tlS tlIB = none := by kernel_rfl
abbrev tlV : List Vt := [(tlIB, 1)]
theorem Agg : BN tlV := fun j v hv => by
  rcases j with _ | j
  · simp only [List.getElem?_cons_zero, Option.some.injEq] at hv
    subst hv
    exact ⟨fun u h => absurd h (by omega), by decide, by decide⟩
  · simp at hv
theorem Adr {k : Vec 32} (hm : May tlP (tlx k)) : (B1 tlP (tlx k) k 1).1 = tly k := by
  rw [Og (k := 0) (c := (k, 0)) (Ft.2 hm) (by decide) (LO rfl rfl fun j d hj => absurd hj (by omega)) rfl rfl (by decide)]
  have e : cfM tlP (tlx k) k 1 = 1 := by
    unfold cfM
    rw [if_neg (by decide), if_pos (show k = (tlx k).flake from rfl)]
    rfl
  show ({ updM (tlx k) k 0 (k, 0) with conf := cfM tlP (tlx k) k 1, dn := decide (cfM tlP (tlx k) k 1 = 1) } : Sn) = tly k
  rw [e]
  unfold updM
  show (⟨[(k, 1)], if _ then k else k, k, 1, true⟩ : Sn) = _
  rw [ite_self]
  rfl
def tl1 : PS := ⟨tlT, tlN undef undef 0 0, updS tlS tlI0 (tly tlIA), tlI0, [], [], [tlI0]⟩
def tl2 : PS := ⟨⟨tlIA, 1, 9⟩, [(tlIB, tlB, undef, 0)], updS tlS tlI0 (tly tlIA), tlIA, [tlIA], [], [tlI0]⟩
def tl3 : PS := ⟨⟨tlIA, 1, 9⟩, [(tlIB, tlB, undef, 0)], updS (updS tlS tlI0 (tly tlIA)) tlIA (tly tlIB), tlIA, [tlIA], [], [tlIA, tlI0]⟩
def tl4 : PS := ⟨⟨tlIB, 2, 9⟩, [], updS (updS tlS tlI0 (tly tlIA)) tlIA (tly tlIB), tlIB, [tlIA, tlIB], [], [tlIA, tlI0]⟩
theorem tlb0 : (⟨tlT, tlN undef undef 0 0, tlS, tlI0, [], [], []⟩ : PS).best tlV = (tlIA, 1) := by kernel_rfl
theorem tlb2 : tl2.best tlV = (tlIB, 1) := by kernel_rfl
theorem tlq1 (v1 v2 : Value) (c1 c2 : Nat) (h : ∀ k x, tlS k = some x → May tlP x) : pstep tlP tlV (ps0 tlT (tlN v1 v2 c1 c2) tlS) = some tl1 := by
  show pstep tlP tlV ⟨tlT, tlN undef undef 0 0, tlS, tlI0, [], [], []⟩ = some tl1
  unfold pstep
  simp only [AdA, tlb0, Adr (h _ _ AdA)]
  rw [if_neg (by simp [tlx]), if_neg (by decide)]
  show some (⟨tlT, tlN undef undef 0 0, updS tlS tlI0 (tly tlIA), if tlI0 ≠ tlI0 ∨ (tly tlIA).dn = false then tlIA else tlI0, [], [], [tlI0]⟩ : PS) = some tl1
  rw [if_neg (by simp [tly])]
  rfl
theorem tlq2 : pstep tlP tlV tl1 = some tl2 := by
  have e : tl1.S tl1.pos = some (tly tlIA) := by kernel_rfl
  unfold pstep
  simp only [e]
  rw [if_pos ⟨rfl, rfl⟩]
  show some (⟨mvT tlT (tlN undef undef 0 0) tlIA, mvN tlT (tlN undef undef 0 0) tlIA, updS tlS tlI0 (tly tlIA), tlIA, [] ++ [tlIA], [] ++ CB tlT (tlN undef undef 0 0) tlIA, [tlI0]⟩ : PS) = some tl2
  have e1 : mvT tlT (tlN undef undef 0 0) tlIA = ⟨tlIA, 1, 9⟩ := by kernel_rfl
  have e2 : mvN tlT (tlN undef undef 0 0) tlIA = [(tlIB, tlB, undef, 0)] := by kernel_rfl
  have e3 : CB tlT (tlN undef undef 0 0) tlIA = [] := by kernel_rfl
  rw [e1, e2, e3]
  rfl
theorem tlq3 (h : ∀ k x, tlS k = some x → May tlP x) : pstep tlP tlV tl2 = some tl3 := by
  have e : tl2.S tl2.pos = some (tlx tlIB) := by kernel_rfl
  unfold pstep
  simp only [e, tlb2, Adr (h _ _ Ahf)]
  rw [if_neg (by simp [tlx]), if_neg (by decide)]
  show some (⟨⟨tlIA, 1, 9⟩, [(tlIB, tlB, undef, 0)], updS (updS tlS tlI0 (tly tlIA)) tlIA (tly tlIB), if tlIA ≠ tlIA ∨ (tly tlIB).dn = false then tlIB else tlIA, [tlIA], [], [tlIA, tlI0]⟩ : PS) = some tl3
  rw [if_neg (by simp [tly])]
  rfl
theorem tlq4 : pstep tlP tlV tl3 = some tl4 := by
  have e : tl3.S tl3.pos = some (tly tlIB) := by kernel_rfl
  unfold pstep
  simp only [e]
  rw [if_pos ⟨rfl, rfl⟩]
  show some (⟨mvT ⟨tlIA, 1, 9⟩ [(tlIB, tlB, undef, 0)] tlIB, mvN ⟨tlIA, 1, 9⟩ [(tlIB, tlB, undef, 0)] tlIB, updS (updS tlS tlI0 (tly tlIA)) tlIA (tly tlIB), tlIB, [tlIA] ++ [tlIB], [] ++ CB ⟨tlIA, 1, 9⟩ [(tlIB, tlB, undef, 0)] tlIB, [tlIA, tlI0]⟩ : PS) = some tl4
  have e1 : mvT ⟨tlIA, 1, 9⟩ [(tlIB, tlB, undef, 0)] tlIB = ⟨tlIB, 2, 9⟩ := by kernel_rfl
  have e2 : mvN ⟨tlIA, 1, 9⟩ [(tlIB, tlB, undef, 0)] tlIB = [] := by kernel_rfl
  have e3 : CB ⟨tlIA, 1, 9⟩ [(tlIB, tlB, undef, 0)] tlIB = [] := by kernel_rfl
  rw [e1, e2, e3]
  rfl
theorem AdD : tl4.S tlIB = none := by kernel_rfl
theorem tlq5 : pstep tlP tlV tl4 = none := by
  have e : tl4.S tl4.pos = none := AdD
  unfold pstep
  simp only [e]
theorem Aii {v1 v2 : Value} {c1 c2 : Nat} {s : PS} (h : ∀ k x, tlS k = some x → May tlP x) (ho : RI tlP tlV tlT (tlN v1 v2 c1 c2) tlS s) : s = tl4 :=
  CH.one ho.reach ((((CH.step (.refl _) (tlq1 v1 v2 c1 c2 h)).step tlq2).step (tlq3 h)).step tlq4) ho.fin tlq5
theorem AhL : ID tlT tlS tlIB := by
  have h1 : CL tlS tlI0 (prf (tlx tlIA)) := (CL.refl _).step AdA
  have h2 : CL tlS tlI0 (prf (tlx tlIB)) := CL.step (b := tlIA) h1 Ahf
  exact ⟨h2, AiW⟩
theorem TpI.start {p : Par} {t : Tr} (hp : parE p = 0) (ht : 0 ≤ t.ht) : TpI p 0 t [] fun _ => none :=
  ⟨TM.nil ht, hp, fun _ _ h => (by cases h), fun k hk _ => (by unfold Bk; rw [if_pos hk]; rfl), fun _ _ h => (by cases h), fun _ h => (by cases h)⟩
theorem AeM {w : World} : cal P MT [] w fun r w' => r = pav tlP ∧ Fr [] w w' := by
  refine AbH fun R hR => ?_
  unfold TC
  refine Av (Sep.start w) (Z7 w) fun g w1 hs1 => ?_
  rw [Oo]
  refine YO hs1 Xn fun w2 hs2 => ?_
  simp only [Bi hs2.blk, AW hs2.blk, AG hs2.blk, AH hs2.blk, AQ hs2.blk]
  exact hR _ _ ⟨rfl, hs2.fr0⟩
set_option maxHeartbeats 1000000 in
theorem S8 {w : World} (hC : Cub w) : cal P GH [] w fun r w' => r = .bool true ∧ Fr [] w w' := by
  refine Z6 fun R hR => ?_
  unfold Qr
  refine Af (AdC (RdB.nil _ 0)) ?_
  rintro _ w1 ⟨v1, rfl, hs1⟩
  have eg : (Blk.first []).mk' = tl0 := by
    show (if tl0.chk = 0 then tl0 else Blk.none) = tl0
    rw [if_pos Nq]
  have ec : (Blk.first []).chk = 0 := Nq
  rw [eg] at hs1
  rw [eg, ec]
  simp only [fx, Nat.reduceAdd, forall_const]
  refine Av hs1 (BF w1) fun g2 w2 hs2 => ?_
  refine Bm hs2 (Bh (Sep.one hs2.p1)) fun w3 hs3 => ?_
  simp only [AA hs3.blk, Am hs3.blk, Ap hs3.blk, Ay hs3.blk]
  refine Af (Qp (b := tl0) (hC.fr hs3.fr0) (Sep.rd hs3.p1) (by decide +kernel)) ?_
  rintro _ w4 ⟨rfl, hf4⟩
  have hs4 := hs3.old hf4
  have en : tl0.name = tlI0 := by rw [Blk.name, if_pos Nq, Afs]
  rw [en, Nq]
  try simp only [fx, Nat.reduceAdd, forall_const]
  refine Av hs4 (AS w4) fun g5 w5 hs5 => ?_
  refine AE hs5 fun w6 hs6 => ?_
  refine A0 hs6 fun w7 hs7 _ => ?_
  refine ⟨kv tlI0, fun u hu => (Ai (Sep.blk hu) _).mpr rfl, ?_⟩
  refine AL (Af AeM ?_)
  rintro _ w8 ⟨rfl, hf8⟩
  have hs8 := hs7.old hf8
  refine ⟨hs8, ?_⟩
  refine BD (Af (X6 tlP tlI0 0 9) ?_)
  rintro _ w9 (⟨e, he, _, hno, _⟩ | ⟨_, g, gt, gm, gs, rfl, hs9⟩)
  · exact absurd hno (by decide)
  replace hs9 := hs8.join hs9
  change Sep w w9 (toH g gt gm gs (.slice none 0 0) tlP tlT [] 0 (fun _ => none) ++ _) at hs9
  try simp only [fx, Nat.reduceAdd, forall_const, Option.isNone_some, show ((0 : Int) != 0) = false from rfl]
  have hb : ∀ (x : UInt8) (w : World), (Instr.buildSlice Az 1 #[(0, bv x)]).run P w = .ok (.slice (some ⟨w.heap.size, 0, none⟩) 1 1) (w.alloc (.cells (bvs [x]).toArray Ei)) := fun x w => by kernel_rfl
  have hs9' := Sep.pick hs9 [6, 5, 7, 0, 1, 2, 3, 4] 8
  simp only [AA hs9'.blk, Am hs9'.blk, Ap hs9'.blk, Ay hs9'.blk]
  refine Ahb (l := [97]) hs9' DE Iv rfl (hb 97 w9) fun ga w10 hs10 => ?_
  refine Af (Vn (b := tl0) (d := [97]) (hC.fr hs10.fr0) (Sep.rd (Sep.p3 hs10)) (Sep.rda hs10) (by decide +kernel)) ?_
  rintro _ w11 ⟨va, rfl, hs11⟩
  have hkA : tl0.kidOk [97] := ⟨Nq, by decide +kernel, by decide⟩
  have ekA : tl0.child [97] = tlA := by rw [Blk.child, if_pos hkA, Blk.kid, Afs]; rfl
  have eeA : tl0.childE [97] = 0 := by rw [Blk.childE, if_pos hkA]
  rw [ekA] at hs11
  rw [ekA, eeA]
  replace hs11 := hs10.join hs11
  try simp only [fx, Nat.reduceAdd, forall_const]
  refine Av hs11 (BF w11) fun g7 w12 hs12 => ?_
  refine Bm hs12 (Bh (Sep.one hs12.p1)) fun w13 hs13 => ?_
  simp only [AA hs13.blk, Am hs13.blk, Ap hs13.blk, Ay hs13.blk]
  refine Ahb (l := [98]) hs13 DE Iv rfl (hb 98 w13) fun gb w14 hs14 => ?_
  refine Af (Vn (b := tlA) (d := [98]) (hC.fr hs14.fr0) (Sep.rd (Sep.p2 hs14)) (Sep.rda hs14) (by decide +kernel)) ?_
  rintro _ w15 ⟨vb, rfl, hs15⟩
  have hkB : tlA.kidOk [98] := ⟨AhJ, by decide +kernel, by decide⟩
  have ekB : tlA.child [98] = tlB := by rw [Blk.child, if_pos hkB, Blk.kid, VH]; rfl
  have eeB : tlA.childE [98] = 0 := by rw [Blk.childE, if_pos hkB]
  rw [ekB] at hs15
  rw [ekB, eeB]
  replace hs15 := hs14.join hs15
  try simp only [fx, Nat.reduceAdd, forall_const]
  refine Av hs15 (BF w15) fun g8 w16 hs16 => ?_
  refine Bm hs16 (Bh (Sep.one hs16.p1)) fun w17 hs17 => ?_
  have hs18 : Sep w w17 (toH g gt gm gs (.slice none 0 0) tlP tlT [] 0 (fun _ => none) ++ [blk g8 (Rdr.cells Aw (tlB.p, tlB.h, vb)).toArray Ao, ownB vb tlB.d, blk g7 (Rdr.cells Aw (tlA.p, tlA.h, va)).toArray Ao, ownB va tlA.d]) := Sep.pick hs17 [9, 10, 11, 12, 13, 0, 1, 3, 4] 14
  have hd0 : Dat ([] : List TN) [blk g8 (Rdr.cells Aw (tlB.p, tlB.h, vb)).toArray Ao, ownB vb tlB.d, blk g7 (Rdr.cells Aw (tlA.p, tlA.h, va)).toArray Ao, ownB va tlA.d] := fun x hx => by cases hx
  have hsd0 : SDat (fun _ => none) [blk g8 (Rdr.cells Aw (tlB.p, tlB.h, vb)).toArray Ao, ownB vb tlB.d, blk g7 (Rdr.cells Aw (tlA.p, tlA.h, va)).toArray Ao, ownB va tlA.d] := fun k q h => by cases h
  have hi0 : TpI tlP 0 tlT [] (svM fun _ => none) := TpI.start (by decide) (by decide)
  simp only [AA (Sep.blk (Sep.pick hs18 [7] 8)), Am (Sep.blk (Sep.pick hs18 [7] 8)), Ap (Sep.blk (Sep.pick hs18 [7] 8)), Ay (Sep.blk (Sep.pick hs18 [7] 8))]
  refine Af (MF hs18 hd0 hsd0 hi0 hC (fun z hz => Sep.rd (Sep.p3 hz)) (by decide +kernel) (by simp)) ?_
  rintro _ w19 ⟨N1, ov1, c1, S1, E1, rfl, hA1, hs19⟩
  obtain ⟨hd1, hsd1⟩ := hA1.dat hd0 hsd0
  have e1 : B5 tlT [] (svM fun _ => none) tlA = 0 := (XI VH).trans tlE1
  obtain ⟨vd1, cc1, vx1, x1, rfl, _, hS1, rfl⟩ := hA1.yes e1
  have hi1 := hi0.addx (b := tlA) (vd := vd1) (c := cc1) e1 (by decide +kernel)
  rw [← hS1] at hi1
  rw [Cc, if_pos e1, e1, VH]
  simp only [VH] at hs19 hd1 hi1 hS1
  try simp only [fx, Nat.reduceAdd, forall_const]
  refine Av hs19 (AS w19) fun g9 w20 hs20 => ?_
  refine AE hs20 fun w21 hs21 => ?_
  have hs22 : Sep w w21 (toH g gt gm gs ov1 tlP tlT ([] ++ [(tlIA, tlA, vd1, cc1)]) c1 S1 ++ (blk g9 (Rdr.cells (rVec 32) tlIA).toArray Aa :: ([rows Ab vx1 x1.l, ownB vd1 tlA.d] ++ [blk g8 (Rdr.cells Aw (tlB.p, tlB.h, vb)).toArray Ao, ownB vb tlB.d, blk g7 (Rdr.cells Aw (tlA.p, tlA.h, va)).toArray Ao, ownB va tlA.d]))) := Sep.pick hs21 [1, 2, 3, 4, 5, 0, 6, 7, 8, 9, 10, 11] 12
  simp only [AA (Sep.blk (Sep.pick hs22 [8] 9)), Am (Sep.blk (Sep.pick hs22 [8] 9)), Ap (Sep.blk (Sep.pick hs22 [8] 9)), Ay (Sep.blk (Sep.pick hs22 [8] 9))]
  have e2 : B5 tlT ([] ++ [(tlIA, tlA, vd1, cc1)]) (svM S1) tlB = 0 := by rw [hS1]; exact (XI Aah).trans (tlE2 vd1 cc1)
  refine Af (MF (m := 1) hs22 (hd1.sub fun A hA => List.mem_cons_of_mem _ hA) (hsd1.sub fun A hA => List.mem_cons_of_mem _ hA) hi1 hC (fun z hz => Sep.rd (Sep.pick hz [4] 5)) (by decide +kernel) (by simp)) ?_
  rintro _ w23 ⟨N2, ov2, c2, S2, E2, rfl, hA2, hs23⟩
  have hd12 := hd1.sub fun A hA => List.mem_cons_of_mem (blk g9 (Rdr.cells (rVec 32) tlIA).toArray Aa) hA
  have hsd12 := hsd1.sub fun A hA => List.mem_cons_of_mem (blk g9 (Rdr.cells (rVec 32) tlIA).toArray Aa) hA
  obtain ⟨hd2, hsd2⟩ := hA2.dat hd12 hsd12
  obtain ⟨vd2, cc2, vx2, x2, rfl, _, hS2, rfl⟩ := hA2.yes e2
  have hi2 := hi1.addx (b := tlB) (vd := vd2) (c := cc2) e2 (by decide +kernel)
  rw [← hS2] at hi2
  rw [Cc, if_pos e2, e2, Aah]
  simp only [Aah] at hs23 hd2 hi2 hS2
  rw [hS1] at hS2
  change svM S2 = tlS at hS2
  change Sep w w23 (toH g gt gm gs ov2 tlP tlT (tlN vd1 vd2 cc1 cc2) c2 S2 ++ _) at hs23
  change TpI tlP 2 tlT (tlN vd1 vd2 cc1 cc2) (svM S2) at hi2
  try simp only [fx, Nat.reduceAdd, forall_const]
  refine Av hs23 (AS w23) fun g11 w24 hs24 => ?_
  refine AE hs24 fun w25 hs25 => ?_
  have hs25' : Sep w w25 (toH g gt gm gs ov2 tlP tlT (tlN vd1 vd2 cc1 cc2) c2 S2 ++ (blk g11 (Rdr.cells (rVec 32) tlIB).toArray Aa :: ([rows Ab vx2 x2.l, ownB vd2 tlB.d] ++ (blk g9 (Rdr.cells (rVec 32) tlIA).toArray Aa :: ([rows Ab vx1 x1.l, ownB vd1 tlA.d] ++ [blk g8 (Rdr.cells Aw (tlB.p, tlB.h, vb)).toArray Ao, ownB vb tlB.d, blk g7 (Rdr.cells Aw (tlA.p, tlA.h, va)).toArray Ao, ownB va tlA.d]))))) := Sep.pick hs25 [1, 2, 3, 4, 5, 0, 6, 7, 8, 9, 10, 11, 12, 13, 14] 15
  have hd3 : Dat (tlN vd1 vd2 cc1 cc2) (blk g11 (Rdr.cells (rVec 32) tlIB).toArray Aa :: ([rows Ab vx2 x2.l, ownB vd2 tlB.d] ++ (blk g9 (Rdr.cells (rVec 32) tlIA).toArray Aa :: ([rows Ab vx1 x1.l, ownB vd1 tlA.d] ++ [blk g8 (Rdr.cells Aw (tlB.p, tlB.h, vb)).toArray Ao, ownB vb tlB.d, blk g7 (Rdr.cells Aw (tlA.p, tlA.h, va)).toArray Ao, ownB va tlA.d])))) := Dat.sub hd2 fun A hA => List.mem_cons_of_mem _ hA
  have hsd3 : SDat S2 (blk g11 (Rdr.cells (rVec 32) tlIB).toArray Aa :: ([rows Ab vx2 x2.l, ownB vd2 tlB.d] ++ (blk g9 (Rdr.cells (rVec 32) tlIA).toArray Aa :: ([rows Ab vx1 x1.l, ownB vd1 tlA.d] ++ [blk g8 (Rdr.cells Aw (tlB.p, tlB.h, vb)).toArray Ao, ownB vb tlB.d, blk g7 (Rdr.cells Aw (tlA.p, tlA.h, va)).toArray Ao, ownB va tlA.d])))) := SDat.sub hsd2 fun A hA => List.mem_cons_of_mem _ hA
  obtain ⟨As, hAs⟩ : ∃ As, As = blk g11 (Rdr.cells (rVec 32) tlIB).toArray Aa :: ([rows Ab vx2 x2.l, ownB vd2 tlB.d] ++ (blk g9 (Rdr.cells (rVec 32) tlIA).toArray Aa :: ([rows Ab vx1 x1.l, ownB vd1 tlA.d] ++ [blk g8 (Rdr.cells Aw (tlB.p, tlB.h, vb)).toArray Ao, ownB vb tlB.d, blk g7 (Rdr.cells Aw (tlA.p, tlA.h, va)).toArray Ao, ownB va tlA.d]))) := ⟨_, rfl⟩
  rw [← hAs] at hs25' hd3 hsd3
  have r9 : ∀ {z : World} {Xs : List Asn}, Sep w z (Xs ++ As) → z.heap[g9]? = some (.cells (Rdr.cells (rVec 32) tlIA).toArray Aa (0, 0)) := fun h => by
    have h := Sep.dropL h
    rw [hAs] at h
    exact Sep.blk (Sep.p3 h)
  have r11 : ∀ {z : World} {Xs : List Asn}, Sep w z (Xs ++ As) → z.heap[g11]? = some (.cells (Rdr.cells (rVec 32) tlIB).toArray Aa (0, 0)) := fun h => by
    have h := Sep.dropL h
    rw [hAs] at h
    exact Sep.blk h
  refine A0 hs25' fun w26 hs26 _ => ?_
  try simp only [fx, Nat.reduceAdd, forall_const, show ((0 : Int) != 0) = false from rfl]
  refine Bu ?_
  refine ⟨kv tlIB, fun u hu => (Ai (r11 hu) _).mpr rfl, ?_⟩
  refine AL (Af (K4 hi2 (HV hs26 hd3 hsd3)) ?_)
  rintro _ w27 ⟨k, hk, rfl, hf27⟩
  rw [hS2] at hk
  obtain rfl : k = tlIB := hk.one AhL
  have hs27 := hs26.old hf27
  refine ⟨hs27, ?_⟩
  refine ⟨.bool (!decide (tlIB = tlIB)), fun u hu => (C0 _).mpr rfl, ?_⟩
  simp only [fx, Nat.reduceAdd, forall_const, Ai (r11 hs27), decide_true, Bool.not_true]
  rw [Hj]
  refine CQ (q := Au) hs27 DT (l := tlV) (V := fun a => .agg (Rdr.cells Au a).toArray) (fun a => rfl) rfl rfl (by decide) (by decide) fun gv w28 hs28 => ?_
  have hs28' : Sep w w28 (toH g gt gm gs ov2 tlP tlT (tlN vd1 vd2 cc1 cc2) c2 S2 ++ (rows Au (.slice (some ⟨gv, 0, none⟩) 1 1) tlV :: As)) := Sep.pick hs28 [1, 2, 3, 4, 5, 0] 6
  refine Af (Vk (V := tlV) hs28' (hd3.sub fun A hA => List.mem_cons_of_mem _ hA) hsd3 (fun A hA => List.mem_cons_of_mem _ hA) hi2 (fun z hz => Sep.rows hz) (by decide) (by simp)) ?_
  have e0 : Dx tlP tlV = 0 := by rw [Dx, if_neg (by simpa using Agg), if_neg (by decide)]
  rintro _ w30 (⟨he, _⟩ | ⟨_, s, av, rv, gs', ov', N', S', E, hPO, rfl, hsN, _, hS', hsd', hs30⟩)
  · exact absurd e0 he
  rw [hS2] at hPO
  have hPI := hPO.reach.pi (hS2 ▸ hi2.pi) Agg (by decide)
  have hfin := hPO.fin
  obtain rfl : s = tl4 := Aii (fun k x hx => hi2.may k x (by rw [hS2]; exact hx)) hPO
  have hN' : N' = [] := by
    cases N' with
    | nil => rfl
    | cons a l => cases hsN
  subst hN'
  have hi3 := hPI.fails tlV hfin (fun x hx => by
    have : tl4.S tl4.t.root = none := AdD
    rw [this] at hx; cases hx) hsN
  rw [← hS'] at hi3
  have hp3 : ID tl4.t (svM S') tlIB := by
    refine ⟨.refl _, ?_⟩
    rw [hS']
    unfold Fo
    split
    · rw [AdD]; rfl
    · rfl
  have hs31 : Sep w w30 (toH g gt gm gs' ov' tlP tl4.t [] c2 S' ++ (rows (rVec 32) av [tlIA, tlIB] :: rows (rVec 32) rv [] :: (E ++ (rows Au (.slice (some ⟨gv, 0, none⟩) 1 1) tlV :: As)))) := hs30
  try simp only [fx, Nat.reduceAdd, forall_const]
  refine A0 hs31 fun w32 hs32 _ => ?_
  try simp only [fx, Nat.reduceAdd, forall_const, show ((0 : Int) == 0) = true from rfl]
  refine Bu ?_
  have hAs2 : ∀ {z : World} {Xs : List Asn}, Sep w z (Xs ++ (toH g gt gm gs' ov' tlP tl4.t [] c2 S' ++ (rows (rVec 32) av [tlIA, tlIB] :: rows (rVec 32) rv [] :: (E ++ (rows Au (.slice (some ⟨gv, 0, none⟩) 1 1) tlV :: As))))) → Sep w z As := fun {z Xs} h =>
    (Sep.dropL (As := E) (Sep.dropL (As := toH g gt gm gs' ov' tlP tl4.t [] c2 S') (Sep.dropL (As := Xs) h)).tail.tail).tail
  refine ⟨kv tlIA, fun u hu => (Ai (r9 (Xs := []) (hAs2 (Xs := []) hu)) _).mpr rfl, ?_⟩
  refine ⟨kv tlIB, fun u hu => (Ai (r11 (Xs := []) (hAs2 (Xs := []) hu)) _).mpr rfl, ?_⟩
  refine AL (CQ hs32 CM (l := [tlIA, tlIB]) (V := fun a => .agg (Rdr.cells (rVec 32) a).toArray) (fun a => rfl) rfl rfl (by decide) (by decide) fun g33 w33 hs33 => ?_)
  refine ⟨hs33.tail, ?_⟩
  refine AL (Af (ET (Sep.rows (Sep.pick hs33 [6] 7)) (Sep.rows hs33) (by simp)) ?_)
  rintro _ w34 ⟨rfl, hf34⟩
  have hs34 := hs33.tail.old hf34
  refine ⟨hs34, ?_⟩
  have hto : ToR w34.heap g gt gm gs' ov' tlP tl4.t [] c2 S' := HV hs34 (fun x hx => by cases hx) (hsd'.sub fun A hA => by
    rcases List.mem_append.1 hA with h | h
    · exact List.mem_cons_of_mem _ (List.mem_cons_of_mem _ (List.mem_append_left _ h))
    · exact List.mem_cons_of_mem _ (List.mem_cons_of_mem _ (List.mem_append_right _ (List.mem_cons_of_mem _ h))))
  have hglen : lenS rv = fun K => K (.int .i64 0) := by
    funext K
    have := (Sep.rows (Sep.pick hs34 [6] 7)).len K
    simpa using this
  simp only [fx, Nat.reduceAdd, forall_const, decide_true, hglen, show ((0 : Int) == 0) = true from rfl]
  refine Bu ?_
  refine ⟨kv tlIB, fun u hu => (Ai (r11 (Xs := []) (hAs2 (Xs := []) hu)) _).mpr rfl, ?_⟩
  refine AL (Af (K4 hi3 hto) ?_)
  rintro _ w35 ⟨k, hk, rfl, hf35⟩
  obtain rfl : k = tlIB := hk.one hp3
  have hs35 := hs34.old hf35
  refine ⟨hs35, ?_⟩
  refine ⟨.bool (decide (tlIB = tlIB)), fun u hu => (B3 _).mpr rfl, ?_⟩
  simp only [fx, Nat.reduceAdd, forall_const, decide_true]
  refine Bu ?_
  have hto2 : ToR w35.heap g gt gm gs' ov' tlP tl4.t [] c2 S' := HV hs35 (fun x hx => by cases hx) (hsd'.sub fun A hA => by
    rcases List.mem_append.1 hA with h | h
    · exact List.mem_cons_of_mem _ (List.mem_cons_of_mem _ (List.mem_append_left _ h))
    · exact List.mem_cons_of_mem _ (List.mem_cons_of_mem _ (List.mem_append_right _ (List.mem_cons_of_mem _ h))))
  refine AL (Af (XO hto2 (by simp)) ?_)
  rintro _ _ ⟨rfl, rfl⟩
  refine ⟨hs35, ?_⟩
  simp only [fx, Nat.reduceAdd, forall_const, List.length_nil]
  exact hR _ _ ⟨rfl, hs35.fr0⟩
end Go.Fx
namespace Go.Fx
section
variable {w : World} {u v : Value} {V : List Vt}
theorem Z4 (hv : AB Au w.heap v V) (hl : V.length ≤ 1000000) : cal P Dp [v] w fun r w' => Sep w w' [rows Au r V] := by
  refine Iq fun R hR => ?_
  unfold EG
  obtain ⟨a, c, rfl, hl', hh⟩ := id hv
  cases a with
  | none =>
    have h0 : V = [] := by
      rcases hh with h0 | ⟨_, _, _, _, _, h, _⟩
      · refine List.eq_nil_of_length_eq_zero ?_
        have : Au.size = 33 := rfl
        rw [this] at h0
        omega
      · cases h
    subst h0
    simp only [fx, Nat.reduceAdd, forall_const]
    exact hR _ _ (Sep.start w).nilR
  | some a =>
    simp only [fx, Nat.reduceAdd, forall_const]
    have hb1 : ∀ w : World, (Instr.buildSlice Bg 0 #[]).run P w = .ok (.slice (some ⟨w.heap.size, 0, none⟩) 0 0) (w.alloc (.cells ([] : List Value).toArray BQ)) := fun w => by kernel_rfl
    refine Le (size := 33) (Sep.start w) (cs := []) rfl (hb1 w) fun g w1 hs1 => ?_
    replace hs1 : Sep w w1 [rows Au (.slice (some ⟨g, 0, none⟩) 0 0) []] := hs1
    refine BX DT Gc (by simp) hs1 (hv.fr hs1.fr0) (Vd V) (by simp; omega) (by simp; omega) fun v8 w8 hs8 => ?_
    exact hR _ _ (by simpa using hs8)
theorem Ro (hu : AB Au w.heap u V) (hv : AB Au w.heap v V) (hl : V.length ≤ 1000000) : cal P Do [u, v] w fun r w' => r = .bool true ∧ Fr [] w w' := by
  refine Ie fun R hR => ?_
  unfold EI
  simp only [hu.len, hv.len, fx, Nat.reduceAdd, forall_const, bne_self_eq_false]
  refine ⟨fun y z => ∃ i : Nat, y = .int .i64 i ∧ i ≤ V.length ∧ Fr [] w z, fun y _ => (V.length - RowKit.intOf y).toNat, ⟨0, rfl, by omega, Fr.refl _ _⟩, ?_⟩
  rintro _ w1 ⟨i, rfl, hi, hf⟩ -
  simp only [fx, Nat.reduceAdd, forall_const]
  rw [Aj]
  refine ⟨fun h => ?_, fun h => hR _ _ ⟨rfl, hf⟩⟩
  have hlt : i < V.length := by simp at h; omega
  obtain ⟨x, hx⟩ : ∃ x, V[i]? = some x := ⟨_, List.getElem?_eq_getElem hlt⟩
  refine CT ((Sep.start w).old hf) fun w2 hs2 _ => ?_
  change ixs 33 _ _ _
  refine AB.ldN (q := Au) (by decide) (hu.fr hs2.fr0) hx .i64 ?_
  change ixs 33 _ _ _
  refine AB.ldN (q := Au) (by decide) (hv.fr hs2.fr0) hx .i64 ?_
  rw [AbU]
  simp only [fx, Nat.reduceAdd, forall_const, decide_true, Bool.not_true]
  rw [wi64 (by omega) (by omega)]
  exact ⟨⟨i + 1, by simp, by omega, hs2.fr0⟩, by simp [RowKit.intOf]; omega⟩
theorem Abw {l : List Int} (hv : AB (rInt .i64) w.heap v l) (hl : l.length ≤ 1000000) : cal P En [v] w fun r w' => Sep w w' [rows (rInt .i64) r l] := by
  refine Kh fun R hR => ?_
  unfold Gh
  obtain ⟨a, c, rfl, hl', hh⟩ := id hv
  cases a with
  | none =>
    have h0 : l = [] := by
      rcases hh with h0 | ⟨_, _, _, _, _, h, _⟩
      · refine List.eq_nil_of_length_eq_zero ?_
        have : (rInt .i64).size = 1 := rfl
        rw [this] at h0
        omega
      · cases h
    subst h0
    simp only [fx, Nat.reduceAdd, forall_const]
    exact hR _ _ (Sep.start w).nilR
  | some a =>
    simp only [fx, Nat.reduceAdd, forall_const]
    have hb1 : ∀ w : World, (Instr.buildSlice Bb 0 #[]).run P w = .ok (.slice (some ⟨w.heap.size, 0, none⟩) 0 0) (w.alloc (.cells ([] : List Value).toArray Iu)) := fun w => by kernel_rfl
    refine Le (size := 1) (Sep.start w) (cs := []) rfl (hb1 w) fun g w1 hs1 => ?_
    replace hs1 : Sep w w1 [rows (rInt .i64) (.slice (some ⟨g, 0, none⟩) 0 0) []] := hs1
    refine BX (q := rInt .i64) OA WF (by simp) hs1 (hv.fr hs1.fr0) ?_ (by simp; omega) (by simp; omega) fun v8 w8 hs8 => ?_
    · intro u hu
      obtain ⟨x, hx, hu⟩ := List.mem_flatMap.1 hu
      exact oneI u hu
    · exact hR _ _ (by simpa using hs8)
end
structure BwD where
  gs : Nat
  c : Nat
  ov : Value
  t : Tr
  N : List TN
  S : SV
  iv : Value
  lv : Value
  M : List TN
  I : List (Vec 32 × Value × Sn)
  xi : Value
  yh : Value
  ids : List (Vec 32)
  hs : List Int
  As : List Asn
structure BwG where
  gx : Nat
  g : Nat
  gt : Nat
  gm : Nat
  gd : Nat
  gr : Nat
abbrev bwV (G : BwG) (d : BwD) : Value × Value × Value × Value := (ptr G.g, ptr G.gd, d.xi, d.yh)
abbrev BwD.L (G : BwG) (p : Par) (d : BwD) : List Asn :=
  blk G.gx (Rdr.cells AR (bwV G d)).toArray AY :: rows (rVec 32) d.xi d.ids :: rows (rInt .i64) d.yh d.hs :: (toH G.g G.gt G.gm d.gs d.ov p d.t d.N d.c d.S ++ doH G.gd G.gr d.iv d.lv p d.t d.M d.I)
structure BwI (w0 : World) (G : BwG) (p : Par) (n : Nat) (d : BwD) (z : World) : Prop where
  sep : Sep w0 z (d.L G p ++ d.As)
  dat : Dat d.N d.As
  sdat : SDat d.S d.As
  datM : Dat d.M d.As
  idat : IDat d.I d.As
  tp : TpI p n d.t d.N (svM d.S)
  kb : kbs d.N = kbs d.M
  eS : IM d.I = svM d.S
  nd : (d.I.map (·.1)).Nodup
  lenI : d.I.length ≤ n
  hl : d.hs.length = d.ids.length
  h0 : 0 < d.ids.length
  hn : d.ids.length ≤ n + 1
  pos : ∀ y ∈ d.hs, 0 ≤ y
  cnt : d.N.length ≤ n
theorem TpI.kb {p : Par} {m : Nat} {t : Tr} {N M : List TN} {S : SM} (h : TpI p m t N S) (hk : kbs N = kbs M) : TpI p m t M S :=
  ⟨h.tm.kb hk, h.par, h.may, fun k h1 h2 => (by rw [← FZ hk]; exact h.no k (by rw [D3 hk]; exact h1) h2), fun k x hx => (by rw [← D3 hk, ← FZ hk]; exact h.kids k x hx), h.undone⟩
section
variable {w0 z : World} {G : BwG} {n : Nat} {p : Par} {d : BwD} {x : AC}
theorem BwI.to (h : BwI w0 G p n d z) : ToR z.heap G.g G.gt G.gm d.gs d.ov p d.t d.N d.c d.S := HV (Sep.pick h.sep [3, 4, 5, 6, 7] 12) h.dat h.sdat
theorem BwI.dor (h : BwI w0 G p n d z) : DoR z.heap G.gd G.gr d.iv d.lv p d.t d.M d.I := QJ (Sep.pick h.sep [8, 9, 10, 11] 12) h.datM h.idat
theorem BwI.tpM (h : BwI w0 G p n d z) : TpI p n d.t d.M (IM d.I) := by rw [h.eS]; exact h.tp.kb h.kb
theorem BwI.nm (h : BwI w0 G p n d z) : NmR z.heap G.gx 2 d.ids d.hs := ⟨_, _, _, d.xi, d.yh, Sep.blk h.sep, rfl, rfl, Sep.rows h.sep.tail, Sep.rows h.sep.tail.tail⟩
theorem BwI.ldt (h : BwI w0 G p n d z) (K : Value → Prop) : ld1 (.pointer (some ⟨G.gx, 0, none⟩)) z.heap K = K (ptr G.g) := Iw (Sep.blk h.sep) K
theorem BwI.ldr (h : BwI w0 G p n d z) (K : Value → Prop) : ld1 (.pointer (some ⟨G.gx, 1, none⟩)) z.heap K = K (ptr G.gd) := Ek (Sep.blk h.sep) K
theorem BwI.ldx (h : BwI w0 G p n d z) (K : Value → Prop) : ld1 (.pointer (some ⟨G.gx, 2, none⟩)) z.heap K = K d.xi := KS (Sep.blk h.sep) K
theorem BwI.ldy (h : BwI w0 G p n d z) (K : Value → Prop) : ld1 (.pointer (some ⟨G.gx, 3, none⟩)) z.heap K = K d.yh := I5 (Sep.blk h.sep) K
theorem BwI.rids (h : BwI w0 G p n d z) : AB (rVec 32) z.heap d.xi d.ids := Sep.rows h.sep.tail
theorem BwI.rhs (h : BwI w0 G p n d z) : AB (rInt .i64) z.heap d.yh d.hs := Sep.rows h.sep.tail.tail
theorem BwI.more {z' : World} {Bs : List Asn} (h : BwI w0 G p n d z) (hs : Sep w0 z' (Bs ++ (d.L G p ++ d.As))) : BwI w0 G p n { d with As := Bs ++ d.As } z' :=
  ⟨hs.perm (GC Bs (d.L G p) d.As), h.dat.sub fun A hA => List.mem_append_right _ hA, h.sdat.sub fun A hA => List.mem_append_right _ hA, h.datM.sub fun A hA => List.mem_append_right _ hA, h.idat.sub fun A hA => List.mem_append_right _ hA,
    h.tp, h.kb, h.eS, h.nd, h.lenI, h.hl, h.h0, h.hn, h.pos, h.cnt⟩
theorem BwI.at (h : BwI w0 G p n d z) {z' : World} (hs : Sep w0 z' (d.L G p ++ d.As)) : BwI w0 G p n d z' := ⟨hs, h.dat, h.sdat, h.datM, h.idat, h.tp, h.kb, h.eS, h.nd, h.lenI, h.hl, h.h0, h.hn, h.pos, h.cnt⟩
theorem BwI.fr {z' : World} (h : BwI w0 G p n d z) (hf : Fr [] z z') : BwI w0 G p n d z' := h.at (h.sep.old hf)
theorem Aeu {w : World} {q : Par × Vec 32 × Int × Int} (hp : PaOk q.1) : cal P Kl [.agg (Rdr.cells AU q).toArray] w fun r w' => (r = .tuple #[.pointer none, .bool true] ∧ Fr [] w w') ∨
    (∃ G d, r = .tuple #[ptr G.gx, .bool true] ∧ d.As = [] ∧ BwI w G q.1 0 d w') := by
  refine YT fun R hR => ?_
  unfold OK
  refine bxQ (Sep.start w) fun g1 w1 hs1 => ?_
  simp only [fx, Nat.reduceAdd, forall_const, Cf (Sep.blk hs1), BW (Sep.blk hs1), BP (Sep.blk hs1), Bp (Sep.blk hs1), Bq (Sep.blk hs1), BA (Sep.blk hs1), BK (Sep.blk hs1), Bz (Sep.blk hs1), BJ (Sep.blk hs1)]
  refine Af (X6 q.1 q.2.1 q.2.2.1 q.2.2.2) ?_
  rintro _ w2 (⟨e, he, hee, hno, rfl, hf2⟩ | ⟨hq, g, gt, gm, gs, rfl, hs2⟩)
  · have hs2 := hs1.old hf2
    simp only [fx, Nat.reduceAdd, forall_const, Cf (Sep.blk hs2), BW (Sep.blk hs2), BP (Sep.blk hs2), Bp (Sep.blk hs2), Bq (Sep.blk hs2), BA (Sep.blk hs2), BK (Sep.blk hs2), Bz (Sep.blk hs2), BJ (Sep.blk hs2)]
    refine Af (XP hp q.2.1 q.2.2.1 q.2.2.2) ?_
    rintro _ w3 (⟨e', he', hee', _, rfl, hf3⟩ | ⟨hq, _⟩)
    · have e1 : (e != e') = false := by rw [hee, hee']; exact bne_self_eq_false _
      have e2 : (e != 0) = true := bne_iff_ne.2 he
      simp only [fx, Nat.reduceAdd, forall_const, e1, e2, Option.isNone_none, G5 _ _ Ny, bne_self_eq_false]
      exact hR _ _ (.inl ⟨rfl, (hs2.old hf3).fr0⟩)
    · rcases hno with h | h
      · exact absurd hq.1 h
      · exact absurd hq.2 h
  · replace hs2 := hs1.join hs2
    have hst := Sep.blk (Sep.pick hs2 [5] 6)
    simp only [fx, Nat.reduceAdd, forall_const, Cf hst, BW hst, BP hst, Bp hst, Bq hst, BA hst, BK hst, Bz hst, BJ hst]
    refine Af (XP hp q.2.1 q.2.2.1 q.2.2.2) ?_
    rintro _ w3 (⟨e', he', hee', hno, rfl, hf3⟩ | ⟨_, gd, gr, rfl, hs3⟩)
    · rcases hno with h | h
      · exact absurd hq.1 h
      · exact absurd hq.2 h
    replace hs3 := hs2.join hs3
    have hst := Sep.blk (Sep.pick hs3 [9] 10)
    simp only [fx, Nat.reduceAdd, forall_const, show ((0 : Int) != 0) = false from rfl, Option.isNone_some, G5 _ _ Ny, bne_self_eq_false, Cf hst, BW hst, BP hst, Bp hst, Bq hst, BA hst, BK hst, Bz hst, BJ hst]
    refine bldI hs3 fun xi w4 hs4 => ?_
    have hst := Sep.blk (Sep.pick hs4 [10] 11)
    simp only [Cf hst, BW hst, BP hst, Bp hst, Bq hst, BA hst, BK hst, Bz hst, BJ hst]
    refine bldH hs4 fun yh w5 hs5 => ?_
    rw [Ht (Sep.oneR hs5.p1) (Sep.oneR hs5), GT rfl rfl]
    refine bxQ hs5 fun gx w6 hs6 => ?_
    refine hR _ _ (.inr ⟨⟨gx, g, gt, gm, gd, gr⟩, ⟨gs, 0, .slice none 0 0, ⟨q.2.1, q.2.2.1, q.2.2.2⟩, [], fun _ => none, .slice none 0 0, .slice none 0 0, [], [], xi, yh, [q.2.1], [q.2.2.1], []⟩, rfl, rfl, ⟨?_, fun x hx => (by cases hx), fun k x hx => (by cases hx), fun x hx => (by cases hx), fun x hx => (by cases hx),
      TpI.start (t := ⟨q.2.1, q.2.2.1, q.2.2.2⟩) hq.1 hq.2.1, rfl, rfl, List.nodup_nil, Nat.le_refl _, rfl, Nat.one_pos, Nat.le_refl _, fun y hy => ?_, Nat.le_refl _⟩⟩)
    · exact Sep.pick hs6 [0, 2, 1, 7, 8, 9, 10, 11, 3, 4, 5, 6] 13
    · have : y = q.2.2.1 := by simpa using hy
      rw [this]
      exact hq.2.1
end
end Go.Fx
namespace Go.Fx
theorem Ag1 {t : Tr} {N M : List TN} {S : SM} (h : kbs N = kbs M) (b : Blk) : B5 t N S b = B5 t M S b := by unfold B5; rw [AhA h]
section
variable {w0 z : World} {G : BwG} {n : Nat} {p : Par} {d : BwD} {x : AC}
set_option maxHeartbeats 2000000 in
theorem Aez (H : BwI w0 G p n d z) (hx : ARd w0.heap x) (hk : AOk1 x) (hfs : x.fs.length ≤ 1000) (hn : n ≤ 100) (hp : x.poll = true) :
    cal P DQ [ptr G.gx, acV x] z fun r z' => r = .bool true ∧ ∃ d' E, d'.As = E ++ d.As ∧ BwI w0 G p (n + 1) d' z' := by
  refine KA fun R hR => ?_
  unfold HJ
  have hcnt := H.cnt
  have hidn := H.hn
  have hlenI := H.lenI
  have hMl : d.M.length = d.N.length := (Gd H.kb).symm
  refine bxQ H.sep fun g3 z1 hz1 => ?_
  have epoll : (AC.t x).1 = x.poll := rfl
  simp only [fx, Nat.reduceAdd, forall_const, Cu (Sep.blk hz1), Ck (Sep.blk hz1), CI (Sep.blk hz1), B4 (Sep.blk hz1), Cb (Sep.blk hz1), epoll, hp]
  obtain ⟨V, hV⟩ : ∃ V, V = E4 d.ids x.fs [] := ⟨_, rfl⟩
  have hVl : V.length ≤ 1000000 := by
    have hq := Wy d.ids x.fs []
    rw [← hV] at hq
    simp only [List.length_nil] at hq
    omega
  refine A0 hz1 fun z2 hz2 _ => ?_
  refine ⟨acV x, fun u hu => (Cu (Sep.blk hu) _).mpr rfl, ?_⟩
  have H2 := H.more (Bs := [_]) hz2
  refine BD (Af (Aco H2.nm H.h0 (show d.ids.length ≤ 1000000 by omega) (hx.fr hz2.fr0) hk hfs) ?_)
  rintro vv z3 hz3
  replace hz3 := hz2.join hz3
  have hz3 : Sep w0 z3 (rows Au vv V :: blk g3 (Rdr.cells AM x.t).toArray Be :: (d.L G p ++ d.As)) := by rw [hV]; exact hz3
  refine Af (Z4 (Sep.rows hz3) hVl) ?_
  rintro vv2 z4 hz4
  replace hz4 := hz3.join hz4
  have hz4 : Sep w0 z4 ([rows Au vv2 V, rows Au vv V, blk g3 (Rdr.cells AM x.t).toArray Be] ++ (d.L G p ++ d.As)) := hz4
  have H4 := H.more hz4
  refine (H4.ldt _).mpr ?_
  refine Af (Vk (V := V) (Ys := d.As) (As := rows Au vv2 V :: rows Au vv V :: blk g3 (Rdr.cells AM x.t).toArray Be ::
      blk G.gx (Rdr.cells AR (bwV G d)).toArray AY :: rows (rVec 32) d.xi d.ids :: rows (rInt .i64) d.yh d.hs :: (doH G.gd G.gr d.iv d.lv p d.t d.M d.I ++ d.As))
      (Sep.pick hz4 [6, 7, 8, 9, 10, 0, 1, 2, 3, 4, 5, 11, 12, 13, 14] 15) (H.dat.sub fun A hA => by simp [hA]) H.sdat (fun A hA => by simp [hA]) H.tp (fun u hu => Sep.rows hu.p1) hVl (by omega)) ?_
  rintro _ z5 (⟨he, rfl, hz5⟩ | ⟨he, s, av, rv, gs', ov', N', S', E, hPO, rfl, hsN, hsub, hS', hsd', hz5⟩)
  · try simp only [fx, Nat.reduceAdd, forall_const]
    refine (Ek (Sep.blk (Sep.pick hz5 [8] 9)) _).mpr ?_
    refine Af (Vh (V := V) (Ys := d.As) (As := toH G.g G.gt G.gm d.gs d.ov p d.t d.N d.c d.S ++ (rows Au vv2 V :: rows Au vv V :: blk g3 (Rdr.cells AM x.t).toArray Be ::
      blk G.gx (Rdr.cells AR (bwV G d)).toArray AY :: rows (rVec 32) d.xi d.ids :: rows (rInt .i64) d.yh d.hs :: d.As))
      (Sep.pick hz5 [11, 12, 13, 14, 0, 1, 2, 3, 4, 5, 6, 7, 8, 9, 10] 15) (H.datM.sub fun A hA => by simp [hA]) H.idat (fun A hA => by simp [hA]) H.nd H.tpM (by omega) (fun u hu => Sep.rows (Sep.pick hu [5] 6)) hVl (by omega) (by omega)) ?_
    rintro _ z6 (⟨he2, rfl, hz6⟩ | ⟨he2, _⟩)
    · try simp only [fx, Nat.reduceAdd, forall_const]
      refine Af (ET (Lc (rVec 32) _) (Lc (rVec 32) _) (by simp)) ?_
      rintro _ z7 ⟨rfl, hf7⟩
      have hz7 := hz6.old hf7
      simp only [fx, Nat.reduceAdd, forall_const, decide_true]
      refine Bu ?_
      refine Af (ET (Lc (rVec 32) _) (Lc (rVec 32) _) (by simp)) ?_
      rintro _ z8 ⟨rfl, hf8⟩
      have hz8 := hz7.old hf8
      simp only [fx, Nat.reduceAdd, forall_const, decide_true, beq_self_eq_true]
      refine Bu ?_
      refine Af (Ro (Sep.rows (Sep.pick hz8 [10] 11)) (Sep.rows (Sep.pick hz8 [9] 10)) hVl) ?_
      rintro _ z9 ⟨rfl, hf9⟩
      have hz9 := hz8.old hf9
      simp only [fx, Nat.reduceAdd, forall_const]
      have H9 := H.at (Sep.pick hz9 [12, 13, 14, 4, 5, 6, 7, 8, 0, 1, 2, 3] 15)
      exact hR _ _ ⟨rfl, d, [], rfl, ⟨H9.sep, H9.dat, H9.sdat, H9.datM, H9.idat, H9.tp.mono (by omega), H9.kb, H9.eS, H9.nd, by omega, H9.hl, H9.h0, by omega, H9.pos, by omega⟩⟩
    · exact absurd he2 he
  · have hz6 := hz5.perm (List.Perm.append_left (toH G.g G.gt G.gm gs' ov' p s.t N' d.c S' ++ [rows (rVec 32) av s.acc, rows (rVec 32) rv s.rej]) (GC E [_, _, _, _, _, _, _, _, _, _] d.As))
    try simp only [fx, Nat.reduceAdd, forall_const]
    refine (Ek (Sep.blk (Sep.pick hz6 [10] 11)) _).mpr ?_
    refine Af (Vh (V := V) (Ys := d.As) (As := toH G.g G.gt G.gm gs' ov' p s.t N' d.c S' ++ (rows (rVec 32) av s.acc :: rows (rVec 32) rv s.rej :: rows Au vv2 V :: rows Au vv V ::
      blk G.gx (Rdr.cells AR (bwV G d)).toArray AY :: rows (rVec 32) d.xi d.ids :: rows (rInt .i64) d.yh d.hs :: (E ++ d.As)))
      (Sep.pick hz6 [13, 14, 15, 16, 0, 1, 2, 3, 4, 5, 6, 7, 8, 10, 11, 12] 17) (H.datM.sub fun A hA => by simp [hA]) H.idat (fun A hA => by simp [hA]) H.nd H.tpM (by omega) (fun u hu => Sep.rows (Sep.pick hu [7] 8)) hVl (by omega) (by omega)) ?_
    rintro _ z7 (⟨he2, _⟩ | ⟨he2, s2, av2, rv2, iv', lv', M', J, E2, hPO2, rfl, hsN2, hsub2, hJ, hJn, hJl, hJd, hz7⟩)
    · exact absurd he he2
    have hps : ps0 d.t d.M (IM d.I) = ps0 d.t d.N (svM d.S) := by
      unfold ps0
      rw [H.eS, AiR H.kb]
    obtain rfl : s2 = s := by
      have h1 := hPO2.reach
      rw [hps] at h1
      exact CH.one h1 hPO.reach hPO2.fin hPO.fin
    have hkb : kbs N' = kbs M' := by rw [← D2 N', ← hsN, hsN2, D2]
    obtain ⟨hb, hsum⟩ := Agx he
    have hpi := hPO.reach.pi H.tp.pi hb hsum
    have hpar := hPO.reach.parts H.tp.pi hb hsum
    have h3 : (ps0 d.t d.N (svM d.S)).N.length = d.N.length := Gd (D2 d.N)
    have h4 : (ps0 d.t d.N (svM d.S)).acc.length = 0 := rfl
    have h5 : (ps0 d.t d.N (svM d.S)).rej.length = 0 := rfl
    have h6 : N'.length = s2.N.length := by rw [hsN]; exact (Gd (D2 N')).symm
    have hrd := AhK (hPO.reach.rd (Aih H.tp)) hPO.fin
    have hz8 := hz7.perm (List.Perm.append_left (doH G.gd G.gr iv' lv' p s2.t M' J ++ [rows (rVec 32) av2 s2.acc, rows (rVec 32) rv2 s2.rej]) (GC E2 [_, _, _, _, _, _, _, _, _, _, _, _] (E ++ d.As)))
    try simp only [fx, Nat.reduceAdd, forall_const]
    refine Af (ET (Sep.rows (Sep.pick hz8 [11] 12)) (Sep.rows (Sep.pick hz8 [4] 5)) (by omega)) ?_
    rintro _ z9 ⟨rfl, hf9⟩
    have hz9 := hz8.old hf9
    simp only [fx, Nat.reduceAdd, forall_const, decide_true]
    refine Bu ?_
    refine Af (ET (Sep.rows (Sep.pick hz9 [12] 13)) (Sep.rows (Sep.pick hz9 [5] 6)) (by omega)) ?_
    rintro _ z10 ⟨rfl, hf10⟩
    have hz10 := hz9.old hf10
    simp only [fx, Nat.reduceAdd, forall_const, decide_true, beq_self_eq_true]
    refine Bu ?_
    refine Af (Ro (Sep.rows (Sep.pick hz10 [14] 15)) (Sep.rows (Sep.pick hz10 [13] 14)) hVl) ?_
    rintro _ z11 ⟨rfl, hf11⟩
    have hz11 := hz10.old hf11
    simp only [fx, Nat.reduceAdd, forall_const]
    refine hR _ _ ⟨rfl, ⟨gs', d.c, ov', s2.t, N', S', iv', lv', M', J, d.xi, d.yh, d.ids, d.hs, E2 ++ (E ++ d.As)⟩, E2 ++ E, (List.append_assoc _ _ _).symm, ⟨?_, fun y hy => ?_, fun k q hq => ?_, fun y hy => ?_, fun e he => ?_, ?_, hkb, hJ.trans hS'.symm, hJn, ?_, H.hl, H.h0, ?_, H.pos, ?_⟩⟩
    · exact Sep.pick hz11 [15, 16, 17, 6, 7, 8, 9, 10, 0, 1, 2, 3] 18
    · exact List.mem_append_right _ (List.mem_append_right _ (H.dat y (hsub y hy)))
    · exact List.mem_append_right _ (hsd' k q hq)
    · exact List.mem_append_right _ (List.mem_append_right _ (H.datM y (hsub2 y hy)))
    · exact List.mem_append.2 ((List.mem_append.1 (hJd e he)).imp id fun h => List.mem_append_right _ h)
    · show TpI p (n + 1) s2.t N' (svM S')
      rw [hS']
      exact (hpi.fails _ hPO.fin hrd hsN).mono (by omega)
    · show J.length ≤ n + 1
      omega
    · show d.ids.length ≤ n + 1 + 1
      omega
    · show N'.length ≤ n + 1
      omega
end
end Go.Fx
namespace Go.Fx
section
variable {w0 z : World} {G : BwG} {n : Nat} {p : Par} {d : BwD} {x : AC}
set_option maxHeartbeats 2000000 in
theorem Afd (H : BwI w0 G p n d z) (hC : Cub w0) (hx : ARd w0.heap x) (hk : AOk1 x) (hn : n ≤ 100) (hp : x.poll = false) (hxd : x.d.length ≤ 1000) :
    cal P DQ [ptr G.gx, acV x] z fun r z' => r = .bool true ∧ ∃ d' E, d'.As = E ++ d.As ∧ BwI w0 G p (n + 1) d' z' := by
  refine KA fun R hR => ?_
  unfold HJ
  have hcnt := H.cnt
  have hidn := H.hn
  have hlenI := H.lenI
  have hMl : d.M.length = d.N.length := (Gd H.kb).symm
  refine bxQ H.sep fun g3 z1 hz1 => ?_
  have epoll : (AC.t x).1 = x.poll := rfl
  simp only [fx, Nat.reduceAdd, forall_const, Cu (Sep.blk hz1), Ck (Sep.blk hz1), CI (Sep.blk hz1), B4 (Sep.blk hz1), Cb (Sep.blk hz1), epoll, hp]
  obtain ⟨b, hb⟩ : ∃ b, b = bN d.ids d.hs x := ⟨_, rfl⟩
  have hbh : b.h ≤ maxI := by rw [hb]; exact bN_h
  have hbd : b.d = x.d := by rw [hb]; rfl
  refine A0 hz1 fun z2 hz2 _ => ?_
  have nmR : ∀ {u : World} {Bs : List Asn}, Sep w0 u (Bs ++ (d.L G p ++ d.As)) → NmR u.heap G.gx 2 d.ids d.hs := fun h => (H.more h).nm
  refine ⟨fun a u => ∃ g13, a = ptr g13 ∧ Sep w0 u (blk g13 (Rdr.cells Aw (b.p, b.h, x.dv)).toArray Ao :: (d.L G p ++ d.As)), ?_, ?_⟩
  · refine ⟨acV x, fun u hu => (Cu (Sep.blk hu) _).mpr rfl, ?_⟩
    refine ⟨?_, ?_, trivial⟩
    · refine Cl (Af (S3 (nmR (Bs := [_]) hz2) H.hl H.h0 (by omega) H.pos (hx.fr hz2.fr0) hk) ?_)
      rintro _ z3 ⟨rfl, hf3⟩
      have hz3 := hz2.old hf3
      rw [← hb]
      refine ⟨fun u => Sep w0 u _, hz3, ?_⟩
      refine AL (Av hz3 (BF z3) fun g13 z4 hz4 => ⟨hz4.tail, ?_⟩)
      refine A9 (Bm (b := (b.p, b.h, x.dv)) hz4 (Bh hx.d.one) fun z5 hz5 => ?_)
      exact ⟨g13, rfl, hz5.d1⟩
    · refine AL (Av hz2 (BF z2) fun g13 z3 hz3 => ⟨hz3.tail, ?_⟩)
      refine BD (Af (S3 (nmR (Bs := [_, _]) hz3) H.hl H.h0 (by omega) H.pos (hx.fr hz3.fr0) hk) ?_)
      rintro _ z4 ⟨rfl, hf4⟩
      have hz4 := hz3.old hf4
      rw [← hb]
      refine A9 (Bm (b := (b.p, b.h, x.dv)) hz4 (Bh hx.d.one) fun z5 hz5 => ?_)
      exact ⟨g13, rfl, hz5.d1⟩
  rintro _ z3 ⟨g13, rfl, hz3⟩ _
  refine A0 hz3 fun z4 hz4 _ => ?_
  refine ⟨fun a e u => ∃ g14 N' ov' c' S' E, a = ptr g14 ∧ e = .int .i64 (B5 d.t d.N (svM d.S) b) ∧ AddT p d.t d.N d.S b N' S' E ∧ Sep w0 u (blk g14 (Rdr.cells (rVec 32) (Cc d.t d.N (svM d.S) b)).toArray Aa :: blk g13 (Rdr.cells Aw (b.p, b.h, x.dv)).toArray Ao ::
      blk G.gx (Rdr.cells AR (bwV G d)).toArray AY :: rows (rVec 32) d.xi d.ids :: rows (rInt .i64) d.yh d.hs :: (doH G.gd G.gr d.iv d.lv p d.t d.M d.I ++ (toH G.g G.gt G.gm d.gs ov' p d.t N' c' S' ++ (E ++ d.As)))), ?_, ?_⟩
  · refine AF (v := ptr G.g) (fun u hu K hk => (Iw (Sep.blk hu.p1) K).mpr hk) ?_
    refine ⟨bq b x.dv, fun u hu => (AA (Sep.blk hu) _).mpr rfl, ?_⟩
    refine ⟨?_, ?_, trivial⟩
    · refine Cl (Af (MF (As := blk g13 (Rdr.cells Aw (b.p, b.h, x.dv)).toArray Ao :: blk G.gx (Rdr.cells AR (bwV G d)).toArray AY :: rows (rVec 32) d.xi d.ids :: rows (rInt .i64) d.yh d.hs :: (doH G.gd G.gr d.iv d.lv p d.t d.M d.I ++ d.As))
        (Sep.pick hz4 [4, 5, 6, 7, 8, 0, 1, 2, 3, 9, 10, 11, 12] 13) (H.dat.sub fun A hA => by simp [hA]) (H.sdat.sub fun A hA => by simp [hA]) H.tp hC (fun u hu => by rw [hbd]; exact (hx.fr hu.fr0).d) hbh (by omega)) ?_)
      rintro _ z5 ⟨N', ov', c', S', E, rfl, hAT, hz5⟩
      have hz6 := hz5.perm (List.Perm.append_left _ (GC E [_, _, _, _, _, _, _, _] d.As))
      refine ⟨fun u => Sep w0 u _, hz6, ?_⟩
      try simp only [fx, Nat.reduceAdd, forall_const]
      refine AL (Av hz6 (AS z5) fun g14 z7 hz7 => ⟨hz7.tail, ?_⟩)
      refine A9 (AE (b := Cc d.t d.N (svM d.S) b) hz7 fun z8 hz8 => ?_)
      exact ⟨g14, N', ov', c', S', E, by first | rfl | trivial, by first | rfl | trivial, hAT, Sep.pick hz8 [0, 6, 7, 8, 9, 10, 11, 12, 13, 1, 2, 3, 4, 5] 14⟩
    · refine AL (Av hz4 (AS z4) fun g14 z5 hz5 => ⟨hz5.tail, ?_⟩)
      refine BD (Af (MF (As := blk g14 (Rdr.cells (rVec 32) (vz 32)).toArray Aa :: blk g13 (Rdr.cells Aw (b.p, b.h, x.dv)).toArray Ao :: blk G.gx (Rdr.cells AR (bwV G d)).toArray AY :: rows (rVec 32) d.xi d.ids :: rows (rInt .i64) d.yh d.hs :: (doH G.gd G.gr d.iv d.lv p d.t d.M d.I ++ d.As))
        (Sep.pick hz5 [5, 6, 7, 8, 9, 0, 1, 2, 3, 4, 10, 11, 12, 13] 14) (H.dat.sub fun A hA => by simp [hA]) (H.sdat.sub fun A hA => by simp [hA]) H.tp hC (fun u hu => by rw [hbd]; exact (hx.fr hu.fr0).d) hbh (by omega)) ?_)
      rintro _ z6 ⟨N', ov', c', S', E, rfl, hAT, hz6⟩
      have hz7 := hz6.perm (List.Perm.append_left _ (GC E [_, _, _, _, _, _, _, _, _] d.As))
      try simp only [fx, Nat.reduceAdd, forall_const]
      refine A9 (AE (b := Cc d.t d.N (svM d.S) b) (Sep.pick hz7 [5, 0, 1, 2, 3, 4, 6, 7, 8, 9, 10, 11, 12, 13] 14) fun z8 hz8 => ?_)
      exact ⟨g14, N', ov', c', S', E, by first | rfl | trivial, by first | rfl | trivial, hAT, Sep.pick hz8 [0, 6, 7, 8, 9, 10, 11, 12, 13, 1, 2, 3, 4, 5] 14⟩
  rintro _ _ z5 ⟨g14, N', ov', c', S', E, rfl, rfl, hAT, hz5⟩ _
  obtain ⟨hd2, hsd2⟩ := hAT.dat H.dat H.sdat
  have eE : B5 d.t d.M (IM d.I) b = B5 d.t d.N (svM d.S) b := by rw [H.eS]; exact (Ag1 H.kb b).symm
  have eI : Cc d.t d.M (IM d.I) b = Cc d.t d.N (svM d.S) b := by unfold Cc; rw [eE]
  obtain ⟨Rs, hRs⟩ : ∃ Rs, Rs = toH G.g G.gt G.gm d.gs ov' p d.t N' c' S' ++ (E ++ d.As) := ⟨_, rfl⟩
  rw [← hRs] at hz5
  have hRA : ∀ A ∈ d.As, A ∈ Rs := fun A hA => by rw [hRs]; exact List.mem_append_right _ (List.mem_append_right _ hA)
  refine A0 hz5 fun z6 hz6 _ => ?_
  refine ⟨fun a e u => ∃ g16 M' iv' lv' I' E2, a = ptr g16 ∧ e = .int .i64 (B5 d.t d.N (svM d.S) b) ∧ AddD p d.t d.M d.I b M' I' E2 ∧ Sep w0 u (blk g16 (Rdr.cells (rVec 32) (Cc d.t d.N (svM d.S) b)).toArray Aa :: blk g14 (Rdr.cells (rVec 32) (Cc d.t d.N (svM d.S) b)).toArray Aa :: blk g13 (Rdr.cells Aw (b.p, b.h, x.dv)).toArray Ao ::
      blk G.gx (Rdr.cells AR (bwV G d)).toArray AY :: rows (rVec 32) d.xi d.ids :: rows (rInt .i64) d.yh d.hs :: (doH G.gd G.gr iv' lv' p d.t M' I' ++ (E2 ++ Rs))), ?_, ?_⟩
  · refine AF (v := ptr G.gd) (fun u hu K hk => (Ek (Sep.blk hu.p2) K).mpr hk) ?_
    refine ⟨bq b x.dv, fun u hu => (AA (Sep.blk hu.p1) _).mpr rfl, ?_⟩
    have hbl : b.d.length ≤ 140737488355328 := by rw [hbd]; omega
    have hxb : ∀ {u : World}, Fr [] w0 u → RdB u.heap x.dv b.d := fun hf => by rw [hbd]; exact (hx.fr hf).d
    refine ⟨?_, ?_, trivial⟩
    · refine AL (Af (Lo (hxb hz6.fr0) hbl) ?_)
      rintro _ z7 ⟨v', rfl, hz7⟩
      replace hz7 := hz6.join hz7
      refine ⟨hz7.tail, ?_, ?_, trivial⟩
      · refine Cl (Af (Q5 (As := ownB v' b.d :: blk g14 (Rdr.cells (rVec 32) (Cc d.t d.N (svM d.S) b)).toArray Aa :: blk g13 (Rdr.cells Aw (b.p, b.h, x.dv)).toArray Ao :: blk G.gx (Rdr.cells AR (bwV G d)).toArray AY :: rows (rVec 32) d.xi d.ids :: rows (rInt .i64) d.yh d.hs :: Rs)
          (Sep.pick hz7 [6, 7, 8, 9, 0, 1, 2, 3, 4, 5] 10) (H.datM.sub fun A hA => by simp [hRA A hA]) (H.idat.sub fun A hA => by simp [hRA A hA]) H.nd H.tpM (fun u hu => Sep.rd hu) hbh (by omega) (by omega)) ?_)
        rintro _ z8 ⟨M', iv', lv', I', E2, rfl, hAD, hz8⟩
        have hz9 := hz8.perm (List.Perm.append_left _ (GC E2 [_, _, _, _, _, _] Rs))
        refine ⟨fun u => Sep w0 u _, hz9, ?_⟩
        try simp only [fx, Nat.reduceAdd, forall_const]
        rw [eE, eI]
        refine AL (Av hz9 (AS z8) fun g16 z10 hz10 => ⟨hz10.tail, ?_⟩)
        refine A9 (AE (b := Cc d.t d.N (svM d.S) b) hz10 fun z11 hz11 => ?_)
        exact ⟨g16, M', iv', lv', I', E2, by first | rfl | trivial, by first | rfl | trivial, hAD, Sep.pick hz11 [0, 6, 7, 8, 9, 10, 1, 2, 3, 4] 11⟩
      · refine AL (Av hz7 (AS z7) fun g16 z8 hz8 => ⟨hz8.tail.tail, ?_⟩)
        refine BD (Af (Q5 (As := ownB v' b.d :: blk g16 (Rdr.cells (rVec 32) (vz 32)).toArray Aa :: blk g14 (Rdr.cells (rVec 32) (Cc d.t d.N (svM d.S) b)).toArray Aa :: blk g13 (Rdr.cells Aw (b.p, b.h, x.dv)).toArray Ao :: blk G.gx (Rdr.cells AR (bwV G d)).toArray AY :: rows (rVec 32) d.xi d.ids :: rows (rInt .i64) d.yh d.hs :: Rs)
          (Sep.pick hz8 [7, 8, 9, 10, 1, 0, 2, 3, 4, 5, 6] 11) (H.datM.sub fun A hA => by simp [hRA A hA]) (H.idat.sub fun A hA => by simp [hRA A hA]) H.nd H.tpM (fun u hu => Sep.rd hu) hbh (by omega) (by omega)) ?_)
        rintro _ z9 ⟨M', iv', lv', I', E2, rfl, hAD, hz9⟩
        have hz10 := hz9.perm (List.Perm.append_left _ (GC E2 [_, _, _, _, _, _, _] Rs))
        try simp only [fx, Nat.reduceAdd, forall_const]
        rw [eE, eI]
        refine A9 (AE (b := Cc d.t d.N (svM d.S) b) (Sep.pick hz10 [5, 0, 1, 2, 3, 4, 6, 7, 8, 9, 10] 11) fun z11 hz11 => ?_)
        exact ⟨g16, M', iv', lv', I', E2, by first | rfl | trivial, by first | rfl | trivial, hAD, Sep.pick hz11 [0, 6, 7, 8, 9, 10, 1, 2, 3, 4] 11⟩
    · refine AL (Av hz6 (AS z6) fun g16 z7 hz7 => ⟨hz7.tail, ?_⟩)
      refine AL (Af (Lo (hxb hz7.fr0) hbl) ?_)
      rintro _ z8 ⟨v', rfl, hz8⟩
      replace hz8 := hz7.join hz8
      refine ⟨hz8.tail.tail, ?_⟩
      refine BD (Af (Q5 (As := ownB v' b.d :: blk g16 (Rdr.cells (rVec 32) (vz 32)).toArray Aa :: blk g14 (Rdr.cells (rVec 32) (Cc d.t d.N (svM d.S) b)).toArray Aa :: blk g13 (Rdr.cells Aw (b.p, b.h, x.dv)).toArray Ao :: blk G.gx (Rdr.cells AR (bwV G d)).toArray AY :: rows (rVec 32) d.xi d.ids :: rows (rInt .i64) d.yh d.hs :: Rs)
        (Sep.pick hz8 [7, 8, 9, 10, 0, 1, 2, 3, 4, 5, 6] 11) (H.datM.sub fun A hA => by simp [hRA A hA]) (H.idat.sub fun A hA => by simp [hRA A hA]) H.nd H.tpM (fun u hu => Sep.rd hu) hbh (by omega) (by omega)) ?_)
      rintro _ z9 ⟨M', iv', lv', I', E2, rfl, hAD, hz9⟩
      have hz10 := hz9.perm (List.Perm.append_left _ (GC E2 [_, _, _, _, _, _, _] Rs))
      try simp only [fx, Nat.reduceAdd, forall_const]
      rw [eE, eI]
      refine A9 (AE (b := Cc d.t d.N (svM d.S) b) (Sep.pick hz10 [5, 0, 1, 2, 3, 4, 6, 7, 8, 9, 10] 11) fun z11 hz11 => ?_)
      exact ⟨g16, M', iv', lv', I', E2, by first | rfl | trivial, by first | rfl | trivial, hAD, Sep.pick hz11 [0, 6, 7, 8, 9, 10, 1, 2, 3, 4] 11⟩
  rintro _ _ z7 ⟨g16, M', iv', lv', I', E2, rfl, rfl, hAD, hz7⟩ _
  by_cases he : B5 d.t d.N (svM d.S) b = 0
  · have hid : Cc d.t d.N (svM d.S) b = b.id := by rw [Cc, if_pos he]
    rw [hid] at hz7
    obtain ⟨vd, cc, v, y, hN', _, hSM, _⟩ := hAT.yes he
    obtain ⟨vd2, cc2, v2, y2, hM', hI', hI'n, hI'l, hE2, hI'd⟩ := hAD.yes (eE.trans he)
    refine ⟨fun u => ∃ xi' yh', Sep w0 u (blk G.gx (Rdr.cells AR (ptr G.g, ptr G.gd, xi', yh')).toArray AY :: rows (rVec 32) xi' (d.ids ++ [b.id]) :: rows (rInt .i64) yh' (d.hs ++ [b.h]) :: blk g16 (Rdr.cells (rVec 32) b.id).toArray Aa :: blk g14 (Rdr.cells (rVec 32) b.id).toArray Aa :: (doH G.gd G.gr iv' lv' p d.t M' I' ++ (E2 ++ Rs))), ?_, ?_⟩
    · rw [he]
      simp only [fx, Nat.reduceAdd, forall_const, show ((0 : Int) == 0) = true from rfl]
      refine A0 hz7 fun z8 hz8 _ => ?_
      refine ⟨kv b.id, fun u hu => (Ai (Sep.blk hu.p1) _).mpr rfl, ?_⟩
      refine ⟨bq b x.dv, fun u hu => (AA (Sep.blk hu.p2) _).mpr rfl, ?_⟩
      refine BD (Af (AeG (gx := G.gx) (o := 2) (x := d.xi) (y := d.yh) (Sep.pick hz8 [3, 4, 5, 0, 1, 2, 6, 7, 8, 9] 10) rfl rfl (by omega) (by have := H.hl; omega)) ?_)
      rintro _ z9 ⟨rfl, xi', yh', hz9⟩
      exact ⟨xi', yh', Sep.pick hz9 [0, 1, 2, 3, 4, 6, 7, 8, 9] 10⟩
    rintro z8 ⟨xi', yh', hz8⟩ _
    simp only [fx, Nat.reduceAdd, forall_const, Ai (Sep.blk hz8.p4), Ai (Sep.blk hz8.p3), B3, decide_true, beq_self_eq_true]
    rw [hRs] at hz8
    have hz9 := hz8.perm (List.Perm.append_left [_, _, _, _, _, _, _, _, _] (GC E2 [_, _, _, _, _] (E ++ d.As)))
    refine hR _ _ ⟨by first | rfl | trivial, ⟨d.gs, c', ov', d.t, N', S', iv', lv', M', I', xi', yh', d.ids ++ [b.id], d.hs ++ [b.h], E2 ++ (E ++ d.As)⟩, E2 ++ E, (List.append_assoc _ _ _).symm, ⟨?_, hd2.sub fun A hA => List.mem_append_right _ hA, hsd2.sub fun A hA => List.mem_append_right _ hA, ?_, ?_, ?_, ?_, ?_, hI'n, ?_, by simp [H.hl], by simp, by simp; omega, fun q hq => ?_, by rw [hN']; simp; omega⟩⟩
    · exact Sep.pick hz9 [0, 1, 2, 9, 10, 11, 12, 13, 5, 6, 7, 8] 14
    · intro q hq
      rw [hM'] at hq
      rcases List.mem_append.1 hq with hq | hq
      · exact List.mem_append_right _ (List.mem_append_right _ (H.datM q hq))
      · obtain rfl : q = (b.id, b, vd2, cc2) := by simpa using hq
        rw [hE2]
        simp
    · refine (hI'd d.As H.idat).sub fun A hA => ?_
      rcases List.mem_cons.1 hA with rfl | hA
      · rw [hE2]; simp
      · exact List.mem_append_right _ (List.mem_append_right _ hA)
    · show TpI p (n + 1) d.t N' (svM S')
      rw [hSM, hN']
      exact H.tp.addx he hbh
    · rw [hN', hM']
      unfold kbs
      rw [List.map_append, List.map_append]
      have := H.kb
      unfold kbs at this
      rw [this]
      rfl
    · show IM I' = svM S'
      rw [hI', hSM, H.eS]
    · show I'.length ≤ n + 1
      omega
    · rcases List.mem_append.1 hq with hq | hq
      · exact H.pos q hq
      · have : q = b.h := by simpa using hq
        rw [this]
        exact Ahv he
  · have hid : Cc d.t d.N (svM d.S) b = vz 32 := by rw [Cc, if_neg he]
    obtain ⟨rfl, rfl, rfl⟩ := hAT.no he
    obtain ⟨rfl, rfl, rfl⟩ := hAD.no (by rw [eE]; exact he)
    have e1 : (B5 d.t d.N (svM d.S) b == 0) = false := beq_eq_false_iff_ne.2 he
    refine ⟨fun u => Sep w0 u (blk g16 (Rdr.cells (rVec 32) (Cc d.t d.N (svM d.S) b)).toArray Aa :: blk g14 (Rdr.cells (rVec 32) (Cc d.t d.N (svM d.S) b)).toArray Aa :: blk g13 (Rdr.cells Aw (b.p, b.h, x.dv)).toArray Ao ::
      blk G.gx (Rdr.cells AR (bwV G d)).toArray AY :: rows (rVec 32) d.xi d.ids :: rows (rInt .i64) d.yh d.hs :: (doH G.gd G.gr iv' lv' p d.t d.M d.I ++ ([] ++ Rs))), ?_, ?_⟩
    · simp only [fx, Nat.reduceAdd, forall_const, e1]
      exact hz7
    rintro z8 hz8 _
    simp only [fx, Nat.reduceAdd, forall_const, Ai (Sep.blk hz8), Ai (Sep.blk hz8.p1), B3, decide_true, beq_self_eq_true]
    rw [hRs] at hz8
    refine hR _ _ ⟨by first | rfl | trivial, ⟨d.gs, c', ov', d.t, d.N, d.S, iv', lv', d.M, d.I, d.xi, d.yh, d.ids, d.hs, [] ++ d.As⟩, [], rfl, ⟨?_, hd2, hsd2, H.datM, H.idat, H.tp.mono (by omega), H.kb, H.eS, H.nd, (show d.I.length ≤ n + 1 by omega), H.hl, H.h0, (show d.ids.length ≤ n + 1 + 1 by omega), H.pos, (show d.N.length ≤ n + 1 by omega)⟩⟩
    exact Sep.pick hz8 [3, 4, 5, 10, 11, 12, 13, 14, 6, 7, 8, 9] 15
theorem Vj (H : BwI w0 G p n d z) (hC : Cub w0) (hx : ARd w0.heap x) (hk : AOk1 x) (hfs : x.fs.length ≤ 1000) (hxd : x.d.length ≤ 1000) (hn : n ≤ 100) :
    cal P DQ [ptr G.gx, acV x] z fun r z' => r = .bool true ∧ ∃ d' E, d'.As = E ++ d.As ∧ BwI w0 G p (n + 1) d' z' := by
  cases hp : x.poll with
  | true => exact Aez H hx hk hfs hn hp
  | false => exact Afd H hC hx hk hn hp hxd
end
end Go.Fx
