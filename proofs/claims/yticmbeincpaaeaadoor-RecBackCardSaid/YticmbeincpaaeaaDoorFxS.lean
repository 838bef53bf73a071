/-
  Assertions on memory that stand side by side, each on blocks of its own; and the primitives' rules on them.
-/
import Derived.Test.YticmbeincpaaeaaDoorFxM
set_option linter.unusedVariables false
set_option linter.unusedSimpArgs false
namespace Go.Fx
structure Asn where
  on : Heap → List Nat → Prop
  fr : ∀ {F G : List Nat} {w w' : World}, on w.heap F → Fr G w w' → (∀ k ∈ F, k ∉ G) → on w'.heap F
  lt : ∀ {h : Heap} {F : List Nat}, on h F → ∀ k ∈ F, k < h.size
def All (h : Heap) : List Asn → List Nat → Prop
  | [], F => F = []
  | A :: As, F => ∃ F1 F2, F = F1 ++ F2 ∧ A.on h F1 ∧ All h As F2 ∧ ∀ k ∈ F1, k ∉ F2
theorem All.fr {G : List Nat} {w w' : World} (hf : Fr G w w') : ∀ {As : List Asn} {F : List Nat}, All w.heap As F → (∀ k ∈ F, k ∉ G) → All w'.heap As F
  | [], _, h, _ => h
  | A :: As, _, ⟨F1, F2, hF, h1, h2, hd⟩, hn => ⟨F1, F2, hF, A.fr h1 hf fun k hk => hn k (by simp [hF, hk]), All.fr hf h2 fun k hk => hn k (by simp [hF, hk]), hd⟩
theorem All.lt {h : Heap} : ∀ {As : List Asn} {F : List Nat}, All h As F → ∀ k ∈ F, k < h.size
  | [], _, hF, k, hk => by have hF : _ = [] := hF; simp [hF] at hk
  | A :: As, _, ⟨F1, F2, hF, h1, h2, hd⟩, k, hk => by
    rw [hF] at hk
    rcases List.mem_append.1 hk with hk | hk
    · exact A.lt h1 k hk
    · exact All.lt h2 k hk
theorem All.perm {h : Heap} {As Bs : List Asn} (hp : As.Perm Bs) : ∀ {F : List Nat}, All h As F → ∃ F', (∀ k, k ∈ F' ↔ k ∈ F) ∧ All h Bs F' := by
  induction hp with
  | nil => exact fun {F} hF => ⟨F, fun _ => Iff.rfl, hF⟩
  | cons A _ ih =>
    rintro F ⟨F1, F2, rfl, h1, h2, hd⟩
    obtain ⟨F', he, h'⟩ := ih h2
    exact ⟨F1 ++ F', fun k => by simp [he], F1, F', rfl, h1, h', fun k hk hm => hd k hk ((he k).1 hm)⟩
  | swap A B As =>
    rintro F ⟨F1, F2, rfl, h1, ⟨F3, F4, rfl, h3, h4, hd2⟩, hd⟩
    exact ⟨F3 ++ (F1 ++ F4), fun k => by simp; grind, F3, F1 ++ F4, rfl, h3, ⟨F1, F4, rfl, h1, h4, fun k hk hm => hd k hk (by simp [hm])⟩, fun k hk hm => by
      rcases List.mem_append.1 hm with hm | hm
      · exact hd k hm (by simp [hk])
      · exact hd2 k hk hm⟩
  | trans _ _ ih1 ih2 =>
    intro F hF
    obtain ⟨F', he, h'⟩ := ih1 hF
    obtain ⟨F'', he', h''⟩ := ih2 h'
    exact ⟨F'', fun k => (he' k).trans (he k), h''⟩
/-- What stands in memory behind w0, each on blocks of its own that were not there in w0; all that was there is as it was. -/
def Sep (w0 w : World) (As : List Asn) : Prop := Fr [] w0 w ∧ ∃ F, All w.heap As F ∧ ∀ k ∈ F, w0.heap.size ≤ k

/-! ### Assertions -/
def Asn.obj (g : Nat) (o : Obj) : Asn where
  on h F := h[g]? = some o ∧ F = [g]
  fr := fun ⟨h, hF⟩ hf hn => ⟨hf.blk h (hn g (by simp [hF])), hF⟩
  lt := fun ⟨h, hF⟩ k hk => by simp [hF] at hk; subst hk; exact lt_of_blk h
abbrev blk (g : Nat) (cs : Array Value) (t : TypeId) : Asn := .obj g (.cells cs t (0, 0))
def Asn.star (A B : Asn) : Asn where
  on h F := ∃ F1 F2, F = F1 ++ F2 ∧ A.on h F1 ∧ B.on h F2 ∧ ∀ k ∈ F1, k ∉ F2
  fr := fun ⟨F1, F2, hF, h1, h2, hd⟩ hf hn => ⟨F1, F2, hF, A.fr h1 hf fun k hk => hn k (by simp [hF, hk]), B.fr h2 hf fun k hk => hn k (by simp [hF, hk]), hd⟩
  lt := fun ⟨F1, F2, hF, h1, h2, hd⟩ k hk => by
    rw [hF] at hk
    rcases List.mem_append.1 hk with hk | hk
    · exact A.lt h1 k hk
    · exact B.lt h2 k hk
def Asn.ex {α : Type} (f : α → Asn) : Asn where
  on h F := ∃ a, (f a).on h F
  fr := fun ⟨a, h⟩ hf hn => ⟨a, (f a).fr h hf hn⟩
  lt := fun ⟨a, h⟩ => (f a).lt h
def Asn.pr (p : Prop) : Asn where
  on _ F := p ∧ F = []
  fr := fun h _ _ => h
  lt := fun ⟨_, hF⟩ k hk => by simp [hF] at hk
def Asn.emp : Asn := .pr True
def Asn.all : List Asn → Asn
  | [] => .emp
  | A :: As => .star A (.all As)
def own (v : Value) (size n : Nat) (cs : List Value) : Asn where
  on h F := Own h v size n cs F
  fr := Own.fr
  lt := Own.lt
def ownB (v : Value) (l : List UInt8) : Asn := own v 1 l.length (bvs l)

section
variable {w0 w w' : World} {A B C D E X Y : Asn} {As Bs : List Asn}
theorem Sep.start (w : World) : Sep w w [] := ⟨Fr.refl _ _, [], rfl, by simp⟩
theorem Sep.fr0 (h : Sep w0 w As) : Fr [] w0 w := h.1
theorem Sep.perm (h : Sep w0 w As) (hp : As.Perm Bs) : Sep w0 w Bs := by
  obtain ⟨h0, F, hF, ha⟩ := h
  obtain ⟨F', he, hF'⟩ := All.perm hp hF
  exact ⟨h0, F', hF', fun k hk => ha k ((he k).1 hk)⟩
theorem Sep.tail (h : Sep w0 w (A :: As)) : Sep w0 w As := by
  obtain ⟨h0, _, ⟨F1, F2, rfl, h1, h2, hd⟩, ha⟩ := h
  exact ⟨h0, F2, h2, fun k hk => ha k (by simp [hk])⟩
theorem Sep.p1 (h : Sep w0 w (A :: B :: As)) : Sep w0 w (B :: A :: As) := h.perm (List.Perm.swap ..)
theorem Sep.under (h : Sep w0 w (A :: As)) (hp : As.Perm Bs) : Sep w0 w (A :: Bs) := h.perm (hp.cons A)
theorem Sep.p2 (h : Sep w0 w (A :: B :: C :: As)) : Sep w0 w (C :: A :: B :: As) := (h.under (List.Perm.swap ..)).p1
theorem Sep.p3 (h : Sep w0 w (A :: B :: C :: D :: As)) : Sep w0 w (D :: A :: B :: C :: As) := (h.under (((List.Perm.swap ..).cons B).trans (List.Perm.swap ..))).p1
theorem Sep.p4 (h : Sep w0 w (A :: B :: C :: D :: E :: As)) : Sep w0 w (E :: A :: B :: C :: D :: As) :=
  (h.under (((((List.Perm.swap ..).cons C).trans (List.Perm.swap ..)).cons B).trans (List.Perm.swap ..))).p1
theorem Sep.p5 (h : Sep w0 w (A :: B :: C :: D :: E :: X :: As)) : Sep w0 w (X :: A :: B :: C :: D :: E :: As) :=
  (h.under (((((((List.Perm.swap ..).cons D).trans (List.Perm.swap ..)).cons C).trans (List.Perm.swap ..)).cons B).trans (List.Perm.swap ..))).p1
theorem Sep.q2 (h : Sep w0 w (A :: B :: C :: As)) : Sep w0 w (B :: C :: A :: As) := h.p1.under (List.Perm.swap ..)
theorem Sep.q3 (h : Sep w0 w (A :: B :: C :: D :: As)) : Sep w0 w (B :: C :: D :: A :: As) := h.q2.under ((List.Perm.swap ..).cons C)
theorem Sep.q4 (h : Sep w0 w (A :: B :: C :: D :: E :: As)) : Sep w0 w (B :: C :: D :: E :: A :: As) := h.q3.under (((List.Perm.swap ..).cons D).cons C)
theorem Sep.d1 (h : Sep w0 w (A :: B :: As)) : Sep w0 w (A :: As) := h.p1.tail
theorem Sep.d2 (h : Sep w0 w (A :: B :: C :: As)) : Sep w0 w (A :: B :: As) := h.p2.tail
theorem Sep.d3 (h : Sep w0 w (A :: B :: C :: D :: As)) : Sep w0 w (A :: B :: C :: As) := h.p3.tail
theorem Sep.d4 (h : Sep w0 w (A :: B :: C :: D :: E :: As)) : Sep w0 w (A :: B :: C :: D :: As) := h.p4.tail
theorem All.split {h : Heap} : ∀ {As : List Asn} {F1 F2 : List Nat}, All h As F1 → All h Bs F2 → (∀ k ∈ F1, k ∉ F2) → All h (As ++ Bs) (F1 ++ F2)
  | [], F1, F2, h1, h2, _ => by have h1 : F1 = [] := h1; subst h1; exact h2
  | A :: As, _, F2, ⟨G1, G2, rfl, h1, h2, hd⟩, h3, hn => ⟨G1, G2 ++ F2, by simp, h1, All.split h2 h3 fun k hk => hn k (by simp [hk]), fun k hk hm => by
    rcases List.mem_append.1 hm with hm | hm
    · exact hd k hk hm
    · exact hn k (by simp [hk]) hm⟩
theorem Sep_star : Sep w0 w (A.star B :: As) = Sep w0 w (A :: B :: As) := by
  refine propext ⟨?_, ?_⟩
  · rintro ⟨h0, _, ⟨_, F2, rfl, ⟨F3, F4, rfl, h3, h4, hd4⟩, h2, hd⟩, ha⟩
    exact ⟨h0, F3 ++ (F4 ++ F2), ⟨F3, F4 ++ F2, rfl, h3, ⟨F4, F2, rfl, h4, h2, fun k hk => hd k (by simp [hk])⟩, fun k hk hm => by
      rcases List.mem_append.1 hm with hm | hm
      · exact hd4 k hk hm
      · exact hd k (by simp [hk]) hm⟩, fun k hk => ha k (by simpa using hk)⟩
  · rintro ⟨h0, _, ⟨F3, _, rfl, h3, ⟨F4, F2, rfl, h4, h2, hd⟩, hd3⟩, ha⟩
    exact ⟨h0, (F3 ++ F4) ++ F2, ⟨F3 ++ F4, F2, rfl, ⟨F3, F4, rfl, h3, h4, fun k hk hm => hd3 k hk (by simp [hm])⟩, h2, fun k hk hm => by
      rcases List.mem_append.1 hk with hk | hk
      · exact hd3 k hk (by simp [hm])
      · exact hd k hk hm⟩, fun k hk => ha k (by simpa using hk)⟩
theorem Sep_ex {α : Type} {f : α → Asn} : Sep w0 w (Asn.ex f :: As) = ∃ a, Sep w0 w (f a :: As) := by
  refine propext ⟨?_, ?_⟩
  · rintro ⟨h0, _, ⟨F1, F2, rfl, ⟨a, h1⟩, h2, hd⟩, ha⟩
    exact ⟨a, h0, _, ⟨F1, F2, rfl, h1, h2, hd⟩, ha⟩
  · rintro ⟨a, h0, _, ⟨F1, F2, rfl, h1, h2, hd⟩, ha⟩
    exact ⟨h0, _, ⟨F1, F2, rfl, ⟨a, h1⟩, h2, hd⟩, ha⟩
theorem Sep_pr {p : Prop} : Sep w0 w (Asn.pr p :: As) = (p ∧ Sep w0 w As) := by
  refine propext ⟨?_, ?_⟩
  · rintro ⟨h0, _, ⟨F1, F2, rfl, ⟨hp, rfl⟩, h2, hd⟩, ha⟩
    exact ⟨hp, h0, F2, h2, fun k hk => ha k (by simp [hk])⟩
  · rintro ⟨hp, h0, F, hF, ha⟩
    exact ⟨h0, F, ⟨[], F, rfl, ⟨hp, rfl⟩, hF, by simp⟩, ha⟩
theorem Sep.upd (h : Sep w0 w (A :: As)) : ∃ F, A.on w.heap F ∧ ∀ (w' : World) (F' : List Nat) (B : Asn), B.on w'.heap F' → Fr F w w' → Grew w F F' → Sep w0 w' (B :: As) := by
  obtain ⟨h0, _, ⟨F1, F2, rfl, h1, h2, hd⟩, ha⟩ := h
  refine ⟨F1, h1, fun w' F' B hB hf hg => ⟨h0.trans hf (by simp) fun i hi => .inr (ha i (by simp [hi])), F' ++ F2, ⟨F', F2, rfl, hB, All.fr hf h2 fun k hk hm => hd k hm hk, fun k hk hm => ?_⟩, fun k hk => ?_⟩⟩
  · rcases hg k hk with h | h
    · exact hd k h hm
    · have := All.lt h2 k hm; omega
  · rcases List.mem_append.1 hk with hk | hk
    · rcases hg k hk with h | h
      · exact ha k (by simp [h])
      · have := h0.size; omega
    · exact ha k (by simp [hk])
theorem Sep.new {F' : List Nat} (h : Sep w0 w As) (hf : Fr [] w w') (hB : B.on w'.heap F') (hn : ∀ k ∈ F', w.heap.size ≤ k) : Sep w0 w' (B :: As) := by
  obtain ⟨h0, F, hF, ha⟩ := h
  refine ⟨h0.trans hf (by simp) (by simp), F' ++ F, ⟨F', F, rfl, hB, All.fr hf hF (by simp), fun k hk hm => ?_⟩, fun k hk => ?_⟩
  · have h1 := hn k hk; have h2 := All.lt hF k hm; omega
  · rcases List.mem_append.1 hk with hk | hk
    · have h1 := hn k hk; have h2 := h0.size; omega
    · exact ha k hk
theorem Sep.old (h : Sep w0 w As) (hf : Fr [] w w') : Sep w0 w' As := by
  obtain ⟨h0, F, hF, ha⟩ := h
  exact ⟨h0.trans hf (by simp) (by simp), F, All.fr hf hF (by simp), ha⟩
/-- What a call made, beside what was there. -/
theorem Sep.join (h : Sep w0 w As) (k : Sep w w' Bs) : Sep w0 w' (Bs ++ As) := by
  obtain ⟨h0, F, hF, ha⟩ := h
  obtain ⟨k0, G, hG, ka⟩ := k
  refine ⟨h0.trans k0 (by simp) (by simp), G ++ F, All.split hG (All.fr k0 hF (by simp)) fun k hk hm => ?_, fun k hk => ?_⟩
  · have h1 := ka k hk; have h2 := All.lt hF k hm; omega
  · rcases List.mem_append.1 hk with hk | hk
    · have h1 := ka k hk; have h2 := h0.size; omega
    · exact ha k hk
theorem Sep.drew (h : Sep w0 w As) (d : Nat) : Sep w0 { w with drawn := d } As := h.old ((Fr.refl [] w).drew d)
theorem Sep.ofDrew {d : Nat} (h : Sep { w0 with drawn := d } w As) : Sep w0 w As := ⟨h.1.ofDrew, h.2⟩
theorem Sep.head (h : Sep w0 w (A :: As)) : ∃ F, A.on w.heap F := ⟨_, (h.upd.choose_spec).1⟩
theorem Sep.blk {g : Nat} {o : Obj} (h : Sep w0 w (.obj g o :: As)) : w.heap[g]? = some o := by obtain ⟨F, hF, _⟩ := h.head; exact hF
theorem Sep.rd {v : Value} {l : List UInt8} (h : Sep w0 w (ownB v l :: As)) : RdB w.heap v l := by obtain ⟨F, hF⟩ := h.head; exact OwnB.rd hF
theorem Sep.cel {v : Value} {size n : Nat} {cs : List Value} (h : Sep w0 w (own v size n cs :: As)) : Cel w.heap v size n cs := by obtain ⟨F, hF⟩ := h.head; exact Own.cel hF
theorem Sep.nil (h : Sep w0 w As) : Sep w0 w (ownB (.slice none 0 0) [] :: As) := h.new (Fr.refl _ _) (OwnB.nil _) (by simp)
theorem Sep.nilN (h : Sep w0 w As) (size : Nat) : Sep w0 w (own (.slice none 0 0) size 0 [] :: As) := h.new (Fr.refl _ _) (Own.nil _ _) (by simp)
theorem Sep.sl {v : Value} {l : List UInt8} (h : Sep w0 w (ownB v l :: As)) : ∃ a c, v = .slice a l.length c := by obtain ⟨F, hF⟩ := h.head; exact Own.slice hF
theorem Sep.one {v : Value} {l : List UInt8} (h : Sep w0 w (ownB v l :: As)) : v.oneCell' = true := by obtain ⟨a, c, rfl⟩ := h.sl; rfl
theorem Sep.oneN {v : Value} {size n : Nat} {cs : List Value} (h : Sep w0 w (own v size n cs :: As)) : v.oneCell' = true := by obtain ⟨F, hF⟩ := h.head; obtain ⟨a, c, rfl⟩ := Own.slice hF; rfl
/-- What was read of arguments is still read so. -/
theorem Sep.rdB {v : Value} {l : List UInt8} (h : Sep w0 w As) (hb : RdB w0.heap v l) : RdB w.heap v l := hb.fr h.1 (off_nil _)

/-! ### Rules -/
theorem bx_s {t : TypeId} {v : Value} {K : Value → World → Prop} (hs : Sep w0 w As) (h : ∀ g w', Sep w0 w' (Go.Fx.blk g v.cells t :: As) → K (.pointer (some ⟨g, 0, none⟩)) w') : bx t v w K :=
  bx_i fun w' g hg hb hf => h g w' (hs.new hf (B := Go.Fx.blk g v.cells t) ⟨hb, rfl⟩ (by simp; omega))
theorem st1_s {g o : Nat} {cur : Array Value} {t : TypeId} {v : Value} {K : World → Prop} (hs : Sep w0 w (Go.Fx.blk g cur t :: As)) (ho : o < cur.size) (hv : v.oneCell' = true)
    (h : ∀ w', Sep w0 w' (Go.Fx.blk g (cur.setIfInBounds o v) t :: As) → K w') : st1 (.pointer (some ⟨g, o, none⟩)) v w K := by
  obtain ⟨F, ⟨hb, rfl⟩, hk⟩ := hs.upd
  exact st1_i hb ho hv fun w' hb' hf => h w' (hk w' [g] (Go.Fx.blk g _ t) ⟨hb', rfl⟩ hf (Grew.refl _ _))
theorem stN_s {n g o : Nat} {cur cs : Array Value} {t : TypeId} {K : World → Prop} (hs : Sep w0 w (Go.Fx.blk g cur t :: As)) (hn : cs.size = n) (ho : o + n ≤ cur.size) (hv : ∀ u ∈ cs.toList, u.oneCell' = true)
    (h : ∀ w', Sep w0 w' (Go.Fx.blk g (splice cur o cs.toList) t :: As) → K w') : stN n (.pointer (some ⟨g, o, none⟩)) (.agg cs) w K := by
  obtain ⟨F, ⟨hb, rfl⟩, hk⟩ := hs.upd
  exact stN_i hb hn ho hv fun w' hb' hf => h w' (hk w' [g] (Go.Fx.blk g _ t) ⟨hb', rfl⟩ hf (Grew.refl _ _))
theorem appB_s {P : Program} {t tx ty E : Nat} {d : TypeDesc} {s x : Value} {l m : List UInt8} {K : Value → World → Prop}
    (hT : SlT P t E 1 1) (hx : P.underlying tx = some d) (hd : ∀ k, d ≠ .int k) (hs : Sep w0 w (ownB s l :: As)) (hn : RdB w.heap x m) (hb : l.length + m.length ≤ 140737488355328)
    (h : ∀ v' w', Sep w0 w' (ownB v' (l ++ m) :: As) → K v' w') : efP P (Builtin.append_ #[t, tx] ty #[s, x]) w K := by
  obtain ⟨F, ho, hk⟩ := hs.upd
  exact appB hT hx hd ho hn hb fun v' w' F' h1 h2 h3 => h v' w' (hk w' F' (ownB v' (l ++ m)) h1 h2 h3)
theorem app_s {P : Program} {t tx ty E size bytes : Nat} {d : TypeDesc} {s x : Value} {n m : Nat} {cs news : List Value} {K : Value → World → Prop}
    (hT : SlT P t E size bytes) (hx : P.underlying tx = some d) (hd : ∀ k, d ≠ .int k) (hs : Sep w0 w (own s size n cs :: As)) (hn : Cel w.heap x size m news) (h1 : ∀ u ∈ news, u.oneCell' = true)
    (hb : (n + m) * bytes ≤ 140737488355328) (h63 : n + m ≤ 9223372036854775807)
    (h : ∀ v' w', Sep w0 w' (own v' size (n + m) (cs ++ news) :: As) → K v' w') : efP P (Builtin.append_ #[t, tx] ty #[s, x]) w K := by
  obtain ⟨F, ho, hk⟩ := hs.upd
  exact app_own hT hx hd ho hn h1 hb h63 fun v' w' F' h1 h2 h3 => h v' w' (hk w' F' (own v' size (n + m) (cs ++ news)) h1 h2 h3)
theorem mkB_s {P : Program} {t E : Nat} {k k' : IntKind} {n : Nat} {K : Value → World → Prop} (hs : Sep w0 w As) (hT : SlT P t E 1 1) (hz : zc P E = #[.int .u8 0]) (hn : n ≤ 281474976710656)
    (h : ∀ g w', Sep w0 w' (ownB (.slice (some ⟨g, 0, none⟩) n n) (List.replicate n 0) :: As) → K (.slice (some ⟨g, 0, none⟩) n n) w') : efP P (Instr.makeSlice t (.int k n) (.int k' n)) w K :=
  mkB hT hz hn fun w' g hg ho hf => h g w' (hs.new hf (B := ownB _ _) ho (by simp; omega))
theorem cpyB_s {P : Program} {t tx ty E : Nat} {d x : Value} {l m : List UInt8} {K : Value → World → Prop} (hT : SlT P t E 1 1) (hs : Sep w0 w (ownB d l :: As)) (hn : RdB w.heap x m)
    (h : ∀ w', Sep w0 w' (ownB d (m.take l.length ++ l.drop m.length) :: As) → K (.int .i64 (min m.length l.length : Nat)) w') : efP P (Builtin.copy_ #[t, tx] ty #[d, x]) w K := by
  obtain ⟨F, ho, hk⟩ := hs.upd
  exact cpyB hT ho hn fun w' h1 h2 => h w' (hk w' F (ownB d _) h1 h2 (Grew.refl _ _))
theorem buildB_s {P : Program} {s : Sem Value} {l : List UInt8} {E n : Nat} {K : Value → World → Prop} (hs : Sep w0 w As) (hn : n = l.length)
    (hr : s.run P w = .ok (.slice (some ⟨w.heap.size, 0, none⟩) n n) (w.alloc (.cells (bvs l).toArray E)))
    (h : ∀ g w', Sep w0 w' (ownB (.slice (some ⟨g, 0, none⟩) n n) l :: As) → K (.slice (some ⟨g, 0, none⟩) n n) w') : efP P s w K :=
  buildB hn hr fun w' g hg ho hf => h g w' (hs.new hf (B := ownB _ _) ho (by simp; omega))
/-- '[]T{..}' of any cells. -/
theorem build_s {P : Program} {s : Sem Value} {cs : List Value} {size E n : Nat} {K : Value → World → Prop} (hs : Sep w0 w As) (hn : cs.length = n * size)
    (hr : s.run P w = .ok (.slice (some ⟨w.heap.size, 0, none⟩) n n) (w.alloc (.cells cs.toArray E)))
    (h : ∀ g w', Sep w0 w' (own (.slice (some ⟨g, 0, none⟩) n n) size n cs :: As) → K (.slice (some ⟨g, 0, none⟩) n n) w') : efP P s w K :=
  slice_i hr fun w' g hg hb hf => h g w' (hs.new hf (B := own _ _ _ _) (Own.of_blk hb hn) (by simp; omega))
theorem alloc_s {P : Program} {t : TypeId} {cs : Array Value} {K : Value → World → Prop} (hs : Sep w0 w As)
    (hr : (Instr.alloc t true (.tuple #[])).run P w = .ok (.pointer (some ⟨w.heap.size, 0, none⟩)) (w.alloc (.cells cs t)))
    (h : ∀ g w', Sep w0 w' (Go.Fx.blk g cs t :: As) → K (.pointer (some ⟨g, 0, none⟩)) w') : efP P (Instr.alloc t true (.tuple #[])) w K :=
  efP_run hr (h _ _ (hs.new (fr_alloc w _) (B := Go.Fx.blk _ cs t) ⟨alloc_new w _, rfl⟩ (by simp)))
/-- 'x[j] = b', x owned. -/
theorem stxB_s {v : Value} {l : List UInt8} {k : IntKind} {j : Nat} {K : World → Prop} (hs : Sep w0 w (ownB v l :: As)) (hj : j < l.length) (b : UInt8)
    (h : ∀ w', Sep w0 w' (ownB v (l.set j b) :: As) → K w') : ixs 1 v (.int k (j : Int)) fun t => st1 t (bv b) w K := by
  obtain ⟨F, ho, hk⟩ := hs.upd
  exact stxB ho hj b fun w' h1 h2 => h w' (hk w' F (ownB v _) h1 h2 (Grew.refl _ _))
theorem ldxB_s {v : Value} {l : List UInt8} {k : IntKind} {j : Nat} {K : Value → Prop} (hs : Sep w0 w (ownB v l :: As)) (hj : j < l.length) (h : K (bv l[j])) : ixs 1 v (.int k (j : Int)) fun t => ld1 t w.heap K := ldxB hs.rd hj h
end

/-! ### Drawn regions whose effects are all cuts -/
theorem drH_at {w : World} {K : (World → Prop) → World → Prop} (h : K (Eq { w with drawn := w.drawn + 1 }) { w with drawn := w.drawn + 1 }) : drH w K := ⟨_, rfl, h⟩
theorem drH_s {w0 w : World} {As : List Asn} {K : (World → Prop) → World → Prop} (hs : Sep w0 w As) (h : ∀ w', Sep w0 w' As → w'.heap = w.heap → K (Eq w') w') : drH w K := drH_at (h _ (hs.drew _) rfl)
theorem drw_s {w0 w : World} {As : List Asn} {K : World → Prop} (hs : Sep w0 w As) (h : ∀ w', Sep w0 w' As → w'.heap = w.heap → K w') : drw w K := h _ (hs.drew _) rfl
/-- A drawn region through which some assertions stay. -/
theorem drH_S {w0 w : World} {As : List Asn} {K : (World → Prop) → World → Prop} (hs : Sep w0 w As) (h : ∀ w', Sep w0 w' As → w'.heap = w.heap → K (fun u => Sep w0 u As) w') : drH w K := ⟨_, hs.drew _, h _ (hs.drew _) rfl⟩
theorem rdS_i {S : World → Prop} {g o : Nat} {cs : Array Value} {t : TypeId} {fr : Nat × Nat} {v : Value} {K : Value → Prop} (hS : ∀ u, S u → u.heap[g]? = some (.cells cs t fr)) (hv : cs[o]? = some v) (hk : K v) :
    rdS S (fun w => ld1 (.pointer (some ⟨g, o, none⟩)) w.heap) K := ⟨v, fun u hu => ld1_i (hS u hu) hv rfl, hk⟩
theorem rdSN_i {S : World → Prop} {n g o : Nat} {cs : Array Value} {t : TypeId} {fr : Nat × Nat} {K : Value → Prop} (hS : ∀ u, S u → u.heap[g]? = some (.cells cs t fr)) (hn : o + n ≤ cs.size) (hk : K (.agg (cs.extract o (o + n)))) :
    rdS S (fun w => ldN n (.pointer (some ⟨g, o, none⟩)) w.heap) K := ⟨_, fun u hu => ldN_i (hS u hu) hn rfl, hk⟩
theorem rdSP_i {P : Program} {S : World → Prop} {s : Sem Value} {v : Value} {K : Value → Prop} (hS : ∀ u, S u → s.run P u = .ok v u) (hk : K v) : rdS S (rdP P s) K := ⟨v, fun u hu => ⟨v, hS u hu, rfl⟩, hk⟩
theorem ldxB_S {S : World → Prop} {w : World} {v : Value} {l : List UInt8} {k : IntKind} {j : Nat} {K : Value → Prop} (hw : S w) (hS : ∀ u, S u → RdB u.heap v l) (hj : j < l.length) (h : K (bv l[j])) :
    ixs 1 v (.int k (j : Int)) fun t => rdS S (fun w => ld1 t w.heap) K := by
  obtain ⟨g, o, c, cur, t, fr, rfl, hg, hu, hlt⟩ := Cel.elem (hS w hw) (j := j) (u := bv l[j]) (by simp [bvs, hj])
  rw [ixs_mk _ _ _ _ _ _ _ _ (by omega) (by omega), Int.toNat_natCast, Nat.mul_one]
  refine ⟨bv l[j], fun u hu => ?_, h⟩
  obtain ⟨g', o', c', cur', t', fr', hv', hg', hu', hlt'⟩ := Cel.elem (hS u hu) (j := j) (u := bv l[j]) (by simp [bvs, hj])
  cases hv'
  exact ld1_i hg' hu' rfl
theorem efS_i {S : World → Prop} {f : World → (Value → World → Prop) → Prop} {w : World} {K : Value → World → Prop} (h : f w fun v w' => S w' ∧ K v w') : efS S f w K := h
theorem efC_at {f : World → (Value → World → Prop) → Prop} {w : World} {K : (World → Prop) → Value → World → Prop} (hm : ∀ K' K'' : Value → World → Prop, (∀ v w, K' v w → K'' v w) → f w K' → f w K'') (h : f w fun v w' => K (Eq w') v w') : efC f w K :=
  hm _ _ (fun v w' hk => ⟨_, rfl, hk⟩) h
theorem rdS_ld1 {w : World} {p : Value} {K : Value → Prop} : rdS (Eq w) (fun w => ld1 p w.heap) K = ld1 p w.heap K := by
  refine propext ⟨fun ⟨v, h, hk⟩ => ?_, fun ⟨g, o, cur, t, fr, v, h1, h2, h3, hk⟩ => ⟨v, fun w' hw => by subst hw; exact ⟨g, o, cur, t, fr, v, h1, h2, h3, rfl⟩, hk⟩⟩
  obtain ⟨g, o, cur, t, fr, u, h1, h2, h3, rfl⟩ := h w rfl
  exact ⟨g, o, cur, t, fr, u, h1, h2, h3, hk⟩
theorem rdS_ldN {w : World} {p : Value} {n : Nat} {K : Value → Prop} : rdS (Eq w) (fun w => ldN n p w.heap) K = ldN n p w.heap K := by
  refine propext ⟨fun ⟨v, h, hk⟩ => ?_, fun ⟨g, o, cur, t, fr, h1, h2, h3, hk⟩ => ⟨_, fun w' hw => by subst hw; exact ⟨g, o, cur, t, fr, h1, h2, h3, rfl⟩, hk⟩⟩
  obtain ⟨g, o, cur, t, fr, h1, h2, h3, h4⟩ := h w rfl
  exact ⟨g, o, cur, t, fr, h1, h2, h3, by rw [h4]; exact hk⟩
theorem rdS_rdP {P : Program} {w : World} {s : Sem Value} {K : Value → Prop} : rdS (Eq w) (rdP P s) K = rdP P s w K := by
  refine propext ⟨fun ⟨v, h, hk⟩ => ?_, fun ⟨v, h, hk⟩ => ⟨v, fun w' hw => by subst hw; exact ⟨v, h, rfl⟩, hk⟩⟩
  obtain ⟨u, h1, rfl⟩ := h w rfl
  exact ⟨u, h1, hk⟩
theorem efC_efP {P : Program} {s : Sem Value} {w : World} {K : (World → Prop) → Value → World → Prop} (h : efP P s w fun v w' => K (Eq w') v w') : efC (efP P s) w K := by
  obtain ⟨v, w', hr, hk⟩ := h
  exact ⟨v, w', hr, _, rfl, hk⟩
theorem efC_cal {P : Program} {f : FuncId} {args : List Value} {w : World} {K : (World → Prop) → Value → World → Prop} (h : cal P f args w fun v w' => K (Eq w') v w') : efC (cal P f args) w K :=
  cal_i h fun v w' hk => ⟨_, rfl, hk⟩
theorem efC_bx {t : TypeId} {v : Value} {w : World} {K : (World → Prop) → Value → World → Prop} (h : bx t v w fun v w' => K (Eq w') v w') : efC (bx t v) w K := ⟨_, rfl, h⟩
theorem efC_st1 {p v : Value} {w : World} {K : (World → Prop) → Value → World → Prop} (h : st1 p v w fun w' => K (Eq w') undef w') : efC (fun w K => st1 p v w (K undef)) w K := by
  obtain ⟨g, o, cur, t, h1, h2, h3, h4, h5⟩ := h
  exact ⟨g, o, cur, t, h1, h2, h3, h4, _, rfl, h5⟩
theorem efC_stN {n : Nat} {p v : Value} {w : World} {K : (World → Prop) → Value → World → Prop} (h : stN n p v w fun w' => K (Eq w') undef w') : efC (fun w K => stN n p v w (K undef)) w K := by
  obtain ⟨g, o, cur, t, cs, h1, h2, h3, h4, h5, h6, h7⟩ := h
  exact ⟨g, o, cur, t, cs, h1, h2, h3, h4, h5, h6, _, rfl, h7⟩
theorem efC_calV {P : Program} {g : Value} {args : List Value} {w : World} {K : (World → Prop) → Value → World → Prop} (h : calV P g args w fun v w' => K (Eq w') v w') : efC (calV P g args) w K := by
  obtain ⟨f, first, cap, h1, h2, h3⟩ := h
  exact ⟨f, first, cap, h1, h2, Calls.mono h3 fun e w' ⟨v, he, hv⟩ => ⟨v, he, _, rfl, hv⟩⟩
theorem efC_efU {P : Program} {s : Sem Unit} {w : World} {K : (World → Prop) → Value → World → Prop} (h : efU P s w fun w' => K (Eq w') undef w') : efC (fun w K => efU P s w (K undef)) w K := by
  obtain ⟨w', h1, h2⟩ := h
  exact ⟨w', h1, _, rfl, h2⟩
/-- 's[:j:j]'. -/
theorem run_slc3 {P : Program} {t E size : Nat} {a : Option Addr} {n c j : Nat} {k k' : IntKind} (w : World) (hu : P.underlying t = some (.slice E)) (hs : size? P E = some size) (hj : j ≤ c) :
    (Instr.sliceAt t (.slice a n c) none (some (.int k (j : Int))) (some (.int k' (j : Int)))).run P w = .ok (.slice a j j) w := by
  have h1 := run_sliceBound (P := P) w k' (j : Int) c .slice3Acap (by omega) (by omega)
  have h2 := run_sliceBound (P := P) w k (j : Int) j .slice3B (by omega) (by omega)
  simp only [Int.toNat_natCast] at h1 h2
  simp [Instr.sliceAt, Instr.slice, run_underlying hu, run_sizeOf hs, Instr.sliceBounds, h1, h2]
  intro _
  cases a <;> simp [Addr.add]
theorem slc3 {P : Program} {t E size : Nat} {a : Option Addr} {n c j : Nat} {k k' : IntKind} {w : World} (hu : P.underlying t = some (.slice E)) (hs : size? P E = some size) (hj : j ≤ c) (K : Value → Prop) :
    rdP P (Instr.sliceAt t (.slice a n c) none (some (.int k (j : Int))) (some (.int k' (j : Int)))) w K = K (.slice a j j) := rdP_eq (run_slc3 w hu hs hj) K
theorem Cel.drop {h : Heap} {a : Option Addr} {m c size k : Nat} {cs : List Value} (hc : Cel h (.slice a m c) size m cs) (hk : k ≤ m) (hmc : m ≤ c) (c' : Nat) : Cel h (.slice (if c = k then a else a.map (·.add (k * size))) (m - k) c') size (m - k) (cs.drop (k * size)) := by
  obtain ⟨a', c'', hv, hl, hh⟩ := hc
  cases hv
  have hmul : (m - k) * size = m * size - k * size := Nat.sub_mul ..
  have hle : k * size ≤ m * size := Nat.mul_le_mul_right _ hk
  refine ⟨_, _, rfl, by simp; omega, ?_⟩
  rcases hh with h0 | ⟨g, o, cur, t, fr, rfl, hg, hcs⟩
  · exact .inl (by omega)
  · by_cases hck : c = k
    · by_cases hz : m = k
      · left; subst hz; simp
      · omega
    · refine .inr ⟨g, o + k * size, cur, t, fr, by simp [hck, Addr_add_mk], hg, ?_⟩
      rw [← hcs, List.drop_take, List.drop_drop, hmul]
/-- 'x[k:]'. -/
theorem slc_from {size n c : Nat} {a : Option Addr} {k : IntKind} {j : Nat} (hj : j ≤ n) (K : Value → Prop) :
    slc size (.slice a n c) (some (.int k (j : Int))) none K = K (.slice (if c = j then a else a.map (·.add (j * size))) (n - j) (c - j)) := by
  refine propext ⟨?_, fun hk => ⟨a, n, c, rfl, k, (j : Int), rfl, by omega, by omega, ?_⟩⟩
  · rintro ⟨a', n', c', hv, k', j', hj', h0, h1, hk⟩
    cases hv; cases hj'
    simp only [Int.toNat_natCast] at hk
    exact hk
  · simp only [Int.toNat_natCast]
    exact hk
/-- 'x[i:j]'. -/
theorem slc_mid {size n c : Nat} {a : Option Addr} {k k' : IntKind} {i j : Nat} (hi : i ≤ j) (hj : j ≤ c) (K : Value → Prop) :
    slc size (.slice a n c) (some (.int k (i : Int))) (some (.int k' (j : Int))) K = K (.slice (if c = i then a else a.map (·.add (i * size))) (j - i) (c - i)) := by
  refine propext ⟨?_, fun hk => ⟨a, n, c, rfl, k', (j : Int), rfl, by omega, by omega, k, (i : Int), rfl, by omega, by omega, ?_⟩⟩
  · rintro ⟨a', n', c', hv, k1, j1, hj1, h0, h1, k2, j2, hj2, h2, h3, hk⟩
    cases hv; cases hj1; cases hj2
    simp only [Int.toNat_natCast] at hk
    exact hk
  · simp only [Int.toNat_natCast]
    exact hk
theorem RdB.take {h : Heap} {a : Option Addr} {m c k : Nat} {l : List UInt8} (hr : RdB h (.slice a m c) l) (hk : k ≤ m) (c' : Nat) : RdB h (.slice a k c') (l.take k) := by
  have hm : m = l.length := by obtain ⟨_, _, hv, _⟩ := hr; simp only [Value.slice.injEq] at hv; exact hv.2.1
  subst hm
  have := Cel.take (k := k) hr hk c'
  simp only [Nat.mul_one] at this
  unfold RdB
  rw [List.length_take, Nat.min_eq_left hk, show bvs (l.take k) = (bvs l).take k by simp [bvs]]
  exact this
theorem RdB.drop {h : Heap} {a : Option Addr} {m c k : Nat} {l : List UInt8} (hr : RdB h (.slice a m c) l) (hk : k ≤ m) (hmc : m ≤ c) (c' : Nat) : RdB h (.slice (if c = k then a else a.map (·.add (k * 1))) (m - k) c') (l.drop k) := by
  have hm : m = l.length := by obtain ⟨_, _, hv, _⟩ := hr; simp only [Value.slice.injEq] at hv; exact hv.2.1
  subst hm
  have := Cel.drop (k := k) hr hk hmc c'
  unfold RdB
  rw [List.length_drop, show bvs (l.drop k) = (bvs l).drop (k * 1) by simp [bvs]]
  exact this
theorem RdB.form {h : Heap} {v : Value} {l : List UInt8} (hr : RdB h v l) : ∃ a c, v = .slice a l.length c := by obtain ⟨a, c, hv, _⟩ := hr; exact ⟨a, c, hv⟩
theorem OwnB.form {h : Heap} {v : Value} {l : List UInt8} {F : List Nat} (ho : OwnB h v l F) : ∃ a c, v = .slice a l.length c ∧ l.length ≤ c := by
  obtain ⟨hl, ⟨rfl, h0, rfl⟩ | ⟨g, o, cap, cur, E, rfl, hn, hg, hfit, hc, rfl⟩⟩ := ho
  · exact ⟨none, 0, by rw [h0], by omega⟩
  · exact ⟨_, cap, rfl, hn⟩
theorem Sep.form {w0 w : World} {As : List Asn} {v : Value} {l : List UInt8} (h : Sep w0 w (ownB v l :: As)) : ∃ a c, v = .slice a l.length c ∧ l.length ≤ c := by obtain ⟨F, hF⟩ := h.head; exact OwnB.form hF
end Go.Fx
