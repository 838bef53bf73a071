/-
  The readings of code in rounds, and of ranges over functions, are sound.
-/
import Derived.Laws.Tables
import Derived.Laws.StructEq
import Derived.OrdersIn
import Derived.RangeFuncRecord
import Derived.RangeFuncIn
import Derived.RangeFuncLeaves
import Derived.Test.YtpdnddcodnpmeaaGreatDoorQ7b5fe899
set_option linter.unusedVariables false
set_option linter.unusedSimpArgs false
namespace Go.Fx
def qv : Rdr Value where
  size := 1
  cells v := [v]
  ok _ v := v.oneCell' = true
  len _ := rfl
  one h u hu := by simp at hu; subst hu; exact h
  fr h _ := h
def vz (n : Nat) : Vec n := ⟨List.replicate n 0, List.length_replicate⟩
structure Fld {α β : Type} (r : Rdr α) (s : Rdr β) (off : Nat) (get : α → β) (set : α → β → α) : Prop where
  spec : ∀ a b, ∃ pre post, r.cells a = pre ++ s.cells (get a) ++ post ∧ r.cells (set a b) = pre ++ s.cells b ++ post ∧ pre.length = off
theorem Fld.self {α : Type} {r : Rdr α} : Fld r r 0 (fun a => a) (fun _ b => b) := ⟨fun a b => ⟨[], [], by simp, by simp, rfl⟩⟩
theorem Fld.fst {α β γ : Type} {r : Rdr α} {s : Rdr β} {q : Rdr γ} {off : Nat} {get : α → β} {set : α → β → α} (f : Fld r s off get set) : Fld (r.pair q) s off (fun a => get a.1) (fun a b => (set a.1 b, a.2)) :=
  ⟨fun a b => by
    obtain ⟨pre, post, h1, h2, h3⟩ := f.spec a.1 b
    exact ⟨pre, post ++ q.cells a.2, by simp [Rdr.pair, h1], by simp [Rdr.pair, h2], h3⟩⟩
theorem Fld.snd {α β γ : Type} {r : Rdr α} {s : Rdr β} {q : Rdr γ} {off : Nat} {get : α → β} {set : α → β → α} (f : Fld r s off get set) : Fld (q.pair r) s (q.size + off) (fun a => get a.2) (fun a b => (a.1, set a.2 b)) :=
  ⟨fun a b => by
    obtain ⟨pre, post, h1, h2, h3⟩ := f.spec a.2 b
    exact ⟨q.cells a.1 ++ pre, post, by simp [Rdr.pair, h1], by simp [Rdr.pair, h2], by rw [List.length_append, q.len, h3]⟩⟩
def At (h : Heap) (g o : Nat) (cs : List Value) : Prop := ∃ cur t fr, h[g]? = some (.cells cur t fr) ∧ o + cs.length ≤ cur.size ∧ (cur.toList.drop o).take cs.length = cs
theorem At.blk {h : Heap} {g : Nat} {cs : List Value} {t : TypeId} {fr : Nat × Nat} (hg : h[g]? = some (.cells cs.toArray t fr)) : At h g 0 cs := ⟨_, t, fr, hg, by simp, by simp⟩
theorem At.part {h : Heap} {g o k : Nat} {pre mid post : List Value} (ha : At h g o (pre ++ mid ++ post)) (hk : pre.length = k) : At h g (o + k) mid := by
  obtain ⟨cur, t, fr, hg, hn, hc⟩ := ha
  subst hk
  simp only [List.length_append] at hn hc
  refine ⟨cur, t, fr, hg, by omega, ?_⟩
  have : (((cur.toList.drop o).take (pre.length + mid.length + post.length)).drop pre.length).take mid.length = mid := by
    rw [hc, List.append_assoc, List.drop_left' rfl, List.take_left' rfl]
  rw [List.drop_take, List.drop_drop, List.take_take, Nat.min_eq_left (by omega)] at this
  exact this
theorem At.ldN {h : Heap} {g o n : Nat} {cs : List Value} (ha : At h g o cs) (hn : cs.length = n) (K : Value → Prop) : ldN n (.pointer (some ⟨g, o, none⟩)) h K = K (.agg cs.toArray) := by
  obtain ⟨cur, t, fr, hg, hl, hc⟩ := ha
  subst hn
  rw [AfU hg]
  have e : cur.extract o (o + cs.length) = cs.toArray := by
    apply Array.ext'
    rw [Array.toList_extract]
    simp only [List.extract_eq_take_drop]
    rw [Nat.add_sub_cancel_left, hc]
  rw [e]
  exact propext ⟨fun h => h.2, fun h => ⟨hl, h⟩⟩
theorem At.ld1 {h : Heap} {g o : Nat} {v : Value} (ha : At h g o [v]) (K : Value → Prop) : ld1 (.pointer (some ⟨g, o, none⟩)) h K = K v := by
  obtain ⟨cur, t, fr, hg, hl, hc⟩ := ha
  rw [Rc hg]
  have e : cur[o]? = some v := by
    have : ((cur.toList.drop o).take 1)[0]? = some v := by
      have := congrArg (·[0]?) hc
      simpa using this
    rw [List.getElem?_take_of_lt (by omega)] at this
    simpa using this
  rw [e]
  exact CW v K
section
variable {α β : Type} {r : Rdr α} {s : Rdr β} {off : Nat} {get : α → β} {set : α → β → α} {h : Heap} {g o : Nat} {a : α} {t : TypeId} {fr : Nat × Nat}
theorem Fld.at (f : Fld r s off get set) (ha : At h g o (r.cells a)) : At h g (o + off) (s.cells (get a)) := by
  obtain ⟨pre, post, h1, _, h3⟩ := f.spec a (get a)
  rw [h1] at ha
  exact ha.part h3
theorem Fld.ldN (f : Fld r s off get set) (hg : h[g]? = some (.cells (r.cells a).toArray t fr)) (K : Value → Prop) : ldN s.size (.pointer (some ⟨g, off, none⟩)) h K = K (.agg (s.cells (get a)).toArray) := by
  have := (f.at (At.blk hg)).ldN (s.len _) K
  rwa [Nat.zero_add] at this
theorem Fld.ld1 {get : α → Value} {set : α → Value → α} (f : Fld r qv off get set) (hg : h[g]? = some (.cells (r.cells a).toArray t fr)) (K : Value → Prop) : ld1 (.pointer (some ⟨g, off, none⟩)) h K = K (get a) := by
  have := (f.at (At.blk hg)).ld1 K
  rwa [Nat.zero_add] at this
theorem Fld.ldNA (f : Fld r s off get set) (hg : At h g o (r.cells a)) (K : Value → Prop) : Go.Fx.ldN s.size (.pointer (some ⟨g, o + off, none⟩)) h K = K (.agg (s.cells (get a)).toArray) := (f.at hg).ldN (s.len _) K
theorem Fld.ld1A {get : α → Value} {set : α → Value → α} (f : Fld r qv off get set) (hg : At h g o (r.cells a)) (K : Value → Prop) : Go.Fx.ld1 (.pointer (some ⟨g, o + off, none⟩)) h K = K (get a) := (f.at hg).ld1 K
end
theorem Oc {pre mid post new : List Value} {o : Nat} (ho : pre.length = o) (hl : new.length = mid.length) : splice (pre ++ mid ++ post).toArray o new = (pre ++ new ++ post).toArray := by
  subst ho
  apply Array.ext'
  simp only [splice, List.append_assoc, List.take_left' rfl]
  rw [← List.drop_drop, List.drop_left' rfl, List.drop_left' hl.symm]
section
variable {α β : Type} {r : Rdr α} {s : Rdr β} {off : Nat} {get : α → β} {set : α → β → α} {g : Nat} {a : α} {t : TypeId} {w0 w : World} {As : List Asn} {K : World → Prop}
theorem Fld.stN (f : Fld r s off get set) {b : β} (hs : Sep w0 w (blk g (r.cells a).toArray t :: As)) (h1 : ∀ u ∈ s.cells b, u.oneCell' = true)
    (h : ∀ w', Sep w0 w' (blk g (r.cells (set a b)).toArray t :: As) → K w') : Go.Fx.stN s.size (.pointer (some ⟨g, off, none⟩)) (.agg (s.cells b).toArray) w K := by
  obtain ⟨pre, post, e1, e2, e3⟩ := f.spec a b
  have hl := s.len b
  have hl2 := s.len (get a)
  rw [e1] at hs
  rw [e2] at h
  refine Ahg hs (by simpa using hl) (by simp; omega) (by simpa using h1) fun w' hs' => h w' ?_
  have := Oc (post := post) e3 (show (s.cells b).length = (s.cells (get a)).length by omega)
  simp only [this] at hs'
  exact hs'
theorem Fld.st1 {get : α → Value} {set : α → Value → α} (f : Fld r qv off get set) {b : Value} (hs : Sep w0 w (blk g (r.cells a).toArray t :: As)) (h1 : b.oneCell' = true)
    (h : ∀ w', Sep w0 w' (blk g (r.cells (set a b)).toArray t :: As) → K w') : Go.Fx.st1 (.pointer (some ⟨g, off, none⟩)) b w K := by
  obtain ⟨pre, post, e1, e2, e3⟩ := f.spec a b
  rw [e1] at hs
  rw [e2] at h
  refine Ib hs (by simp [qv]; omega) h1 fun w' hs' => h w' ?_
  have e : (pre ++ qv.cells (get a) ++ post).toArray.setIfInBounds off b = (pre ++ qv.cells b ++ post).toArray := by
    apply Array.ext'
    subst e3
    simp [qv, List.set_append]
  rw [e] at hs'
  exact hs'
end
section
variable {α β : Type} {q : Rdr α} {w0 w : World} {As : List Asn}
def AB (q : Rdr α) (h : Heap) (v : Value) (l : List α) : Prop := Cel h v q.size l.length (l.flatMap q.cells)
theorem AB.fr {w w' : World} {v : Value} {l : List α} (h : AB q w.heap v l) (hf : Fr [] w w') : AB q w'.heap v l := Cel.fr h hf (D8 _)
theorem AB.len {h : Heap} {v : Value} {l : List α} (hr : AB q h v l) (K : Value → Prop) : lenS v K = K (.int .i64 l.length) := by
  obtain ⟨a, c, rfl, _⟩ := hr
  exact Hp a _ c K
def rows (q : Rdr α) (v : Value) (l : List α) : Asn := own v q.size l.length (l.flatMap q.cells)
theorem Sep.rows {v : Value} {l : List α} (h : Sep w0 w (rows q v l :: As)) : AB q w.heap v l := Sep.cel h
theorem At.of {h : Heap} {g o n c : Nat} {l : List α} {j : Nat} {a : α} (hp : 0 < q.size) (hc : Cel h (.slice (some ⟨g, o, none⟩) n c) q.size l.length (l.flatMap q.cells)) (hj : l[j]? = some a) : At h g (o + j * q.size) (q.cells a) := by
  obtain ⟨a', c', hv, hl, hh⟩ := hc
  cases hv
  have hlt := (List.getElem?_eq_some_iff.1 hj).1
  have hb : j * q.size + q.size ≤ l.length * q.size := by rw [← Nat.succ_mul]; exact Nat.mul_le_mul_right _ hlt
  rcases hh with h0 | ⟨g', o', cur, t, fr, ha, hg, hcs⟩
  · omega
  · cases ha
    have hlen := congrArg List.length hcs
    simp only [List.length_take, List.length_drop, Array.length_toList] at hlen
    refine ⟨cur, t, fr, hg, by rw [q.len]; omega, ?_⟩
    have hp := Adx q.len hj
    rw [← hcs] at hp
    rw [q.len]
    rw [List.drop_take, List.drop_drop, List.take_take, Nat.min_eq_left (by omega)] at hp
    exact hp
theorem AB.form {h : Heap} {v : Value} {l : List α} {j : Nat} {a : α} (hp : 0 < q.size) (hr : AB q h v l) (hj : l[j]? = some a) : ∃ g o c, v = .slice (some ⟨g, o, none⟩) l.length c := by
  obtain ⟨a', c', hv, hl, hh⟩ := hr
  have hlt := (List.getElem?_eq_some_iff.1 hj).1
  have hb : 0 < l.length * q.size := Nat.mul_pos (by omega) hp
  rcases hh with h0 | ⟨g', o', cur, t, fr, ha, hg, hcs⟩
  · omega
  · exact ⟨g', o', c', by rw [hv, ha]⟩
theorem AB.ix {h : Heap} {v : Value} {l : List α} {j : Nat} {a : α} (hp : 0 < q.size) (hr : AB q h v l) (hj : l[j]? = some a) : ∃ g o, At h g o (q.cells a) ∧ ∀ (k : IntKind) (K : Value → Prop), ixs q.size v (.int k (j : Int)) K = K (.pointer (some ⟨g, o, none⟩)) := by
  obtain ⟨g, o, c, rfl⟩ := hr.form hp hj
  have hlt := (List.getElem?_eq_some_iff.1 hj).1
  exact ⟨g, o + j * q.size, At.of hp hr hj, fun k K => by rw [DJ _ _ _ _ _ _ _ _ (by omega) (by omega), Int.toNat_natCast]⟩
theorem AB.ldN {v : Value} {l : List α} {j : Nat} {a : α} (hp : 0 < q.size) (hr : AB q w.heap v l) (hj : l[j]? = some a) (k : IntKind) {K : Value → Prop} (h : K (.agg (q.cells a).toArray)) :
    ixs q.size v (.int k (j : Int)) fun t => ldN q.size t w.heap K := by
  obtain ⟨g, o, ha, hx⟩ := hr.ix hp hj
  rw [hx, ha.ldN (q.len _)]
  exact h
theorem AB.ld1 {q : Rdr Value} {v : Value} {l : List Value} {j : Nat} {a : Value} (hr : AB qv w.heap v l) (hj : l[j]? = some a) (k : IntKind) {K : Value → Prop} (h : K a) :
    ixs 1 v (.int k (j : Int)) fun t => ld1 t w.heap K := by
  obtain ⟨g, o, ha, hx⟩ := hr.ix (by decide) hj
  have hx' : ∀ K, ixs 1 v (.int k (j : Int)) K = K (.pointer (some ⟨g, o, none⟩)) := hx k
  rw [hx', At.ld1 ha]
  exact h
theorem M3 {l : List α} {j : Nat} {a b : α} (hj : l[j]? = some a) : ∃ pre post, l.flatMap q.cells = pre ++ q.cells a ++ post ∧ (l.set j b).flatMap q.cells = pre ++ q.cells b ++ post ∧ pre.length = j * q.size := by
  have hlt := (List.getElem?_eq_some_iff.1 hj).1
  refine ⟨(l.take j).flatMap q.cells, (l.drop (j + 1)).flatMap q.cells, ?_, ?_, ?_⟩
  · conv => lhs; rw [← List.take_append_drop j l, List.drop_eq_getElem_cons hlt]
    have : l[j] = a := by rw [List.getElem?_eq_getElem hlt] at hj; simpa using hj
    rw [List.flatMap_append, List.flatMap_cons, this, List.append_assoc]
  · rw [List.set_eq_take_append_cons_drop, if_pos hlt, List.flatMap_append, List.flatMap_cons, List.append_assoc]
  · rw [Eg q.len, List.length_take, Nat.min_eq_left (by omega)]
theorem BX {P : Program} {t tx ty E bytes : Nat} {d : TypeDesc} {s x : Value} {l m : List α} {K : Value → World → Prop}
    (hT : SlT P t E q.size bytes) (hx : P.underlying tx = some d) (hd : ∀ k, d ≠ .int k) (hs : Sep w0 w (Go.Fx.rows q s l :: As)) (hn : AB q w.heap x m) (h1 : ∀ u ∈ m.flatMap q.cells, u.oneCell' = true)
    (hb : (l.length + m.length) * bytes ≤ 140737488355328) (h63 : l.length + m.length ≤ 9223372036854775807)
    (h : ∀ v' w', Sep w0 w' (Go.Fx.rows q v' (l ++ m) :: As) → K v' w') : efP P (Builtin.append_ #[t, tx] ty #[s, x]) w K := by
  refine AiV hT hx hd hs hn h1 hb h63 fun v' w' hs' => h v' w' ?_
  unfold Go.Fx.rows
  rw [List.length_append, List.flatMap_append]
  exact hs'
theorem Sep.nilR (h : Sep w0 w As) : Sep w0 w (Go.Fx.rows q (.slice none 0 0) [] :: As) := h.nilN q.size
theorem WE {P : Program} {s : Sem Value} {l : List α} {E n : Nat} {K : Value → World → Prop} (hs : Sep w0 w As) (hn : n = l.length)
    (hr : s.run P w = .ok (.slice (some ⟨w.heap.size, 0, none⟩) n n) (w.alloc (.cells (l.flatMap q.cells).toArray E)))
    (h : ∀ g w', Sep w0 w' (Go.Fx.rows q (.slice (some ⟨g, 0, none⟩) n n) l :: As) → K (.slice (some ⟨g, 0, none⟩) n n) w') : efP P s w K := by
  subst hn
  exact Le (size := q.size) hs (Eg q.len l) hr h
theorem Sep.formR {v : Value} {l : List α} (h : Sep w0 w (Go.Fx.rows q v l :: As)) : ∃ a c, v = .slice a l.length c ∧ l.length ≤ c := by
  obtain ⟨F, hl, ⟨rfl, h0, rfl⟩ | ⟨g, o, cap, cur, E, rfl, hn, hg, hfit, hc, rfl⟩⟩ := h.head
  · exact ⟨none, 0, by rw [h0], by omega⟩
  · exact ⟨_, cap, rfl, hn⟩
theorem Sep.oneR {v : Value} {l : List α} (h : Sep w0 w (Go.Fx.rows q v l :: As)) : v.oneCell' = true := by obtain ⟨a, c, rfl, _⟩ := h.formR; rfl
end
theorem QW : ∀ (cs : List Value) (k off : Nat) (cur : Array Value), off + k + cs.length ≤ cur.size → (cs.zipIdx k).foldl (fun c (x : Value × Nat) => c.setIfInBounds (off + x.2) x.1) cur = splice cur (off + k) cs
  | [], k, off, cur, _ => by apply Array.ext'; simp [splice]
  | c :: cs, k, off, cur, h => by
    rw [List.zipIdx_cons, List.foldl_cons, QW cs (k + 1) off _ (by simp at h ⊢; omega)]
    apply Array.ext'
    simp only [splice, Array.toList_setIfInBounds, List.length_cons] at h ⊢
    have h' : off + k < cur.toList.length := by simp at h ⊢; omega
    rw [show off + (k + 1) = off + k + 1 by omega, List.take_add_one, List.take_set_of_le (Nat.le_refl _), List.getElem?_set_self h', List.drop_set_of_lt (by omega)]
    simp [Nat.add_assoc, Nat.add_comm 1]
theorem A5 {α β : Type} {r : Rdr α} {s : Rdr β} {off : Nat} {get : α → β} {set : α → β → α} (f : Fld r s off get set) {place : Nat → Option (Nat × Nat)} {i : Nat} {a : α} {b : β} {v : Value} {rest : List (Nat × Value)}
    (hp : place i = some (off, s.size)) (hv : v.cells = (s.cells b).toArray) : Instr.fill place (r.cells a).toArray ((i, v) :: rest) = Instr.fill place (r.cells (set a b)).toArray rest := by
  obtain ⟨pre, post, e1, e2, e3⟩ := f.spec a b
  have hl := s.len b
  have hl2 := s.len (get a)
  have hsz : v.cells.size = s.size := by rw [hv]; simpa using hl
  have hn : ¬ ((v.cells.size ≠ s.size) || decide (off + v.cells.size > (r.cells a).toArray.size)) = true := by
    simp [hsz, e1]; omega
  rw [Instr.fill, hp]
  simp only
  rw [if_neg (by simpa using hn)]
  have : (v.cells.zipIdx.foldl (fun cs x => cs.setIfInBounds (off + x.2) x.1) (r.cells a).toArray) = (r.cells (set a b)).toArray := by
    rw [hv]
    have h1 := QW (s.cells b) 0 off (r.cells a).toArray (by simp [e1]; omega)
    rw [Nat.add_zero] at h1
    have h2 := Oc (post := post) e3 (show (s.cells b).length = (s.cells (get a)).length by omega)
    rw [e2, ← h2, ← e1, ← h1]
    simp [← Array.foldl_toList]
  rw [← this]
theorem Cx {P : Program} {t : TypeId} {α : Type} {r : Rdr α} {a : α} {parts : Array (Nat × Value)} {w : World} (h : P.built t parts.toList = some (r.cells a).toArray) (K : Value → Prop) : rdP P (Instr.build t parts) w K = K (.agg (r.cells a).toArray) :=
  DI (run_build w t parts _ h) K
theorem BT {P : Program} {t : TypeId} {α : Type} {r : Rdr α} {a0 : α} {places : Array (Nat × Nat)} {parts : List (Nat × Value)} {fs : Array Field}
    (hi : ((P.info? t).bind fun it => it.zero.map fun z => z.cells) = some (r.cells a0).toArray) (hu : P.underlying t = some (.struct fs)) (hp : (fs.toList.mapM fun f => (P.info? f.type).map fun i => (f.offset, i.size)) = some places.toList) :
    P.built t parts = Instr.fill (places[·]?) (r.cells a0).toArray parts := by
  unfold Program.built
  cases hit : P.info? t with
  | none => simp [hit] at hi
  | some it =>
    cases hz : it.zero with
    | none => simp [hit, hz] at hi
    | some z =>
      simp [hit, hz] at hi
      simp [hu, hp, hz, hi]
def vOf (ag : Bool) (cs : List Value) : Value := bif ag then .agg cs.toArray else cs.headD undef
structure EqT (P : Program) (t : TypeId) {α : Type} (r : Rdr α) [DecidableEq α] (ag : Bool) (dep : Nat) : Prop where
  agg : aggr P t = some ag
  siz : size? P t = some r.size
  one : ag = false → r.size = 1
  eq : ∀ (d : Nat), dep ≤ d → ∀ (w : World) (a b : α), (Op.equalIn d t (vOf ag (r.cells a)) (vOf ag (r.cells b))).run P w = .ok (decide (a = b)) w
section
variable {P : Program}
theorem Adl {t : TypeId} {k : IntKind} (hu : P.underlying t = some (.int k)) (hs : size? P t = some 1) : EqT P t (rInt k) false 1 where
  agg := by simp [aggr, hu]
  siz := hs
  one _ := rfl
  eq d hd w a b := by
    obtain ⟨d, rfl⟩ : ∃ e, d = e + 1 := ⟨d - 1, by omega⟩
    simp [vOf, rInt, Op.equalIn, run_underlying hu]
    by_cases h : a = b <;> simp [h]
theorem Rz {t : TypeId} {α : Type} {r : Rdr α} [DecidableEq α] {ag : Bool} {dep : Nat} (h : EqT P t r ag dep) {xs : Array Value} {off : Nat} {a : α} {rest : List Value} (hx : xs.toList.drop off = r.cells a ++ rest) (w : World) :
    (part t xs off).run P w = .ok (vOf ag (r.cells a)) w := by
  have hl := r.len a
  have hlen := congrArg List.length hx
  simp only [List.length_drop, Array.length_toList, List.length_append, hl] at hlen
  unfold part
  have hag := h.agg
  cases ag with
  | true =>
    have e : xs.extract off (off + r.size) = (r.cells a).toArray := by
      apply Array.ext'
      rw [Array.toList_extract]
      simp only [List.extract_eq_take_drop]
      rw [Nat.add_sub_cancel_left, hx, List.take_left' hl]
    have hn : r.size = 0 ∨ off + r.size ≤ xs.size := by omega
    rcases hn with h0 | h0
    · rw [h0, Nat.add_zero] at e
      simp [DS hag, BS h.siz, h0, vOf]
      rw [e]
    · simp [DS hag, BS h.siz, e, vOf]
  | false =>
    have h1 := h.one rfl
    obtain ⟨v, hv⟩ : ∃ v, r.cells a = [v] := by
      match hc : r.cells a, hl with
      | [v], _ => exact ⟨v, rfl⟩
      | [], h => simp at h; omega
      | _ :: _ :: _, h => simp at h; omega
    have e : xs[off]? = some v := by
      have : (xs.toList.drop off)[0]? = some v := by rw [hx, hv]; rfl
      simpa using this
    simp [DS hag, e, vOf, hv]
theorem AhZ {e n : Nat} (hu : P.underlying e = some (.int .u8)) (hs : size? P e = some 1) (d : Nat) (xs ys : List UInt8) (hx : xs.length = n) (hy : ys.length = n) (w : World) : ∀ (k i : Nat), i + k = n → xs.take i = ys.take i →
    (forIn (List.range' i k) ((none, ()) : Option Bool × PUnit) (fun i r => (do
      if !(← Op.equalIn (d + 1) e (← part e (bvs xs).toArray (i * 1)) (← part e (bvs ys).toArray (i * 1))) then pure (ForInStep.done (some false, ())) else pure (ForInStep.yield (none, ())) : Sem (ForInStep (Option Bool × PUnit))))).run P w = .ok (if xs = ys then (none, ()) else (some false, ())) w := by
  have hag : aggr P e = some false := by simp [aggr, hu]
  intro k
  induction k with
  | zero =>
    intro i hi ht
    have : xs = ys := by rw [← List.take_of_length_le (show xs.length ≤ i by omega), ht, List.take_of_length_le (by omega)]
    simp [this]
  | succ k ih =>
    intro i hi ht
    obtain ⟨a, ha⟩ : ∃ a, xs[i]? = some a := ⟨_, List.getElem?_eq_getElem (by omega)⟩
    obtain ⟨b, hb⟩ : ∃ b, ys[i]? = some b := ⟨_, List.getElem?_eq_getElem (by omega)⟩
    have h1 : (part e (bvs xs).toArray (i * 1)).run P w = .ok (bv a) w := by simp [part, DS hag, bvs, ha]
    have h2 : (part e (bvs ys).toArray (i * 1)).run P w = .ok (bv b) w := by simp [part, DS hag, bvs, hb]
    have h3 : (Op.equalIn (d + 1) e (bv a) (bv b)).run P w = .ok (decide (a = b)) w := by
      simp [bv, Op.equalIn, run_underlying hu]
      by_cases h : a = b
      · simp [h]
      · have : a.toNat ≠ b.toNat := fun h' => h (UInt8.toNat_inj.1 h')
        simp [h]; omega
    rw [List.range'_succ, List.forIn_cons]
    simp only [Sem.run_bind, h1, h2, h3, Result.andThen_ok]
    by_cases hab : a = b
    · simp only [hab, decide_true, Bool.not_true, Bool.false_eq_true, if_false, Sem.run_pure, Result.andThen_ok]
      exact ih (i + 1) (by omega) (by rw [List.take_add_one, List.take_add_one, ht, ha, hb, hab])
    · have hne : xs ≠ ys := fun h => by rw [h, hb] at ha; cases ha; exact hab rfl
      simp [hab, hne]
theorem AhI {t e n : Nat} (ht : P.underlying t = some (.array n e)) (hu : P.underlying e = some (.int .u8)) (hs : size? P e = some 1) (hn : size? P t = some n) : EqT P t (rVec n) true 2 where
  agg := by simp [aggr, ht]
  siz := hn
  one h := by cases h
  eq d hd w a b := by
    obtain ⟨d, rfl⟩ : ∃ e, d = e + 1 + 1 := ⟨d - 2, by omega⟩
    have h := AhZ hu hs d a.1 b.1 a.2 b.2 w n 0 (by omega) (by simp)
    simp only [vOf, cond_true, rVec]
    rw [Op.equalIn]
    simp only [Sem.run_bind, run_underlying ht, Result.andThen_ok, BS hs, Std.Legacy.Range.forIn_eq_forIn_range', Std.Legacy.Range.size, Nat.sub_zero, Nat.add_sub_cancel, Nat.div_one]
    rw [h]
    by_cases hab : a = b
    · have : a.1 = b.1 := by rw [hab]
      simp [hab]
    · have : a.1 ≠ b.1 := fun h' => hab (Subtype.ext h')
      simp [hab, this]
def EqF (P : Program) (l : List (TypeId × Nat)) (off : Nat) {α : Type} (r : Rdr α) [DecidableEq α] (dep : Nat) : Prop :=
  ∀ (fs : List Field), fs.map (fun f => (decide (f.name ≠ "_"), f.type, f.offset)) = l.map (fun x => (true, x.1, x.2)) → ∀ (d : Nat), dep ≤ d → ∀ (w : World) (xs ys : Array Value) (a b : α),
    xs.toList.drop off = r.cells a → ys.toList.drop off = r.cells b → (Op.eqFields d xs ys fs).run P w = .ok (decide (a = b)) w
theorem Aaa {t off dep : Nat} {α : Type} {r : Rdr α} [DecidableEq α] {ag : Bool} (h : EqT P t r ag dep) : EqF P [(t, off)] off r dep := by
  intro fs hfs d hd w xs ys a b hx hy
  cases fs with
  | nil => simp at hfs
  | cons f fs =>
    cases fs with
    | cons g fs => simp at hfs
    | nil =>
      simp only [List.map_cons, List.map_nil, List.cons.injEq, Prod.mk.injEq, and_true, decide_eq_true_eq] at hfs
      obtain ⟨hn, ht, ho⟩ := hfs
      simp only [Op.eqFields, if_pos hn, ht, ho, Sem.run_bind, Rz h (rest := []) (by simpa using hx) w, Rz h (rest := []) (by simpa using hy) w, h.eq d hd, Result.andThen_ok]
      by_cases hab : a = b <;> simp [hab]
theorem Z3 {t off dep : Nat} {l : List (TypeId × Nat)} {α β : Type} {r : Rdr α} {s : Rdr β} [DecidableEq α] [DecidableEq β] {ag : Bool} (h : EqT P t r ag dep) (hs : EqF P l (off + r.size) s dep) : EqF P ((t, off) :: l) off (r.pair s) dep := by
  intro fs hfs d hd w xs ys a b hx hy
  cases fs with
  | nil => simp at hfs
  | cons f fs =>
    simp only [List.map_cons, List.cons.injEq, Prod.mk.injEq, decide_eq_true_eq] at hfs
    obtain ⟨⟨hn, ht, ho⟩, hrest⟩ := hfs
    have hx2 : xs.toList.drop (off + r.size) = s.cells a.2 := by rw [← List.drop_drop, hx]; exact List.drop_left' (r.len _)
    have hy2 : ys.toList.drop (off + r.size) = s.cells b.2 := by rw [← List.drop_drop, hy]; exact List.drop_left' (r.len _)
    simp only [Op.eqFields, if_pos hn, ht, ho, Sem.run_bind, Rz h (a := a.1) (rest := s.cells a.2) hx w, Rz h (a := b.1) (rest := s.cells b.2) hy w, h.eq d hd, Result.andThen_ok]
    by_cases hab : a.1 = b.1
    · simp only [hab, decide_true, Bool.not_true, Bool.false_eq_true, if_false]
      rw [hs fs hrest d hd w xs ys a.2 b.2 hx2 hy2]
      congr 1
      by_cases h2 : a.2 = b.2
      · have : a = b := Prod.ext hab h2
        simp [this]
      · have : a ≠ b := fun h => h2 (by rw [h])
        simp [this, h2]
    · have : a ≠ b := fun h => hab (by rw [h])
      simp [hab, this]
theorem U8 {t dep : Nat} {l : List (TypeId × Nat)} {α : Type} {r : Rdr α} [DecidableEq α] (hu : P.underlying t = some (.struct (P.fieldsOf t))) (hp : P.stoodInHeld t = false)
    (hf : (P.fieldsOf t).toList.map (fun f => (decide (f.name ≠ "_"), f.type, f.offset)) = l.map (fun x => (true, x.1, x.2))) (hs : size? P t = some r.size) (h : EqF P l 0 r dep) : EqT P t r true (dep + 1) where
  agg := by simp [aggr, hu]
  siz := hs
  one h := by cases h
  eq d hd w a b := by
    obtain ⟨d, rfl⟩ : ∃ e, d = e + 1 := ⟨d - 1, by omega⟩
    simp only [vOf, cond_true]
    rw [run_equalIn_struct w d t _ _ hu hp]
    exact h _ hf d (by omega) w _ _ a b (by simp) (by simp)
theorem AhN {t dep : Nat} {α : Type} {r : Rdr α} [DecidableEq α] {x y : Operand} {w : World} {a b : α} (h : EqT P t r true dep) (hd : dep ≤ 10000) (hg : P.eqGuardType P.depth t = false) (K : Value → Prop) :
    rdP P (eqS .eql t x y (.agg (r.cells a).toArray) (.agg (r.cells b).toArray)) w K = K (.bool (decide (a = b))) := by
  refine DI ?_ K
  have h2 := h.eq 10000 hd w a b
  simp only [vOf, cond_true] at h2
  simp only [eqS, Sem.run_bind, run_eqGuard_agg w .eql t x y _ _ hg, Result.andThen_ok, run_eql_struct, h2]
theorem XD {t dep : Nat} {α : Type} {r : Rdr α} [DecidableEq α] {x y : Operand} {w : World} {a b : α} (h : EqT P t r true dep) (hd : dep ≤ 10000) (hg : P.eqGuardType P.depth t = false) (K : Value → Prop) :
    rdP P (eqS .neq t x y (.agg (r.cells a).toArray) (.agg (r.cells b).toArray)) w K = K (.bool (!decide (a = b))) := by
  refine DI ?_ K
  have h2 := h.eq 10000 hd w a b
  simp only [vOf, cond_true] at h2
  simp only [eqS, Sem.run_bind, run_eqGuard_agg w .neq t x y _ _ hg, Result.andThen_ok, run_neq_struct, h2]
end
theorem oneV {v : Value} (h : v.oneCell' = true) : ∀ u ∈ qv.cells v, u.oneCell' = true := by simpa [qv] using h
theorem oneI {k : IntKind} {n : Int} : ∀ u ∈ (rInt k).cells n, u.oneCell' = true := by simp [rInt, Value.oneCell']
theorem oneB {b : Bool} : ∀ u ∈ F0.cells b, u.oneCell' = true := by simp [F0, Value.oneCell']
theorem Ca {n : Nat} {a : Vec n} : ∀ u ∈ (rVec n).cells a, u.oneCell' = true := Rx _
theorem B2 {α β : Type} {r : Rdr α} {s : Rdr β} {a : α × β} (h1 : ∀ u ∈ r.cells a.1, u.oneCell' = true) (h2 : ∀ u ∈ s.cells a.2, u.oneCell' = true) : ∀ u ∈ (r.pair s).cells a, u.oneCell' = true := fun u hu => by
  rcases List.mem_append.1 hu with hu | hu
  · exact h1 u hu
  · exact h2 u hu
theorem Fld.ldI {α : Type} {r : Rdr α} {k : IntKind} {off : Nat} {get : α → Int} {set : α → Int → α} {h : Heap} {g : Nat} {a : α} {t : TypeId} {fr : Nat × Nat} (f : Fld r (rInt k) off get set) (hg : h[g]? = some (.cells (r.cells a).toArray t fr)) (K : Value → Prop) :
    Go.Fx.ld1 (.pointer (some ⟨g, off, none⟩)) h K = K (.int k (get a)) := by
  have := (f.at (At.blk hg)).ld1 K
  rwa [Nat.zero_add] at this
theorem Fld.ldI' {α : Type} {r : Rdr α} {k : IntKind} {off o : Nat} {get : α → Int} {set : α → Int → α} {h : Heap} {g : Nat} {a : α} (f : Fld r (rInt k) off get set) (hg : At h g o (r.cells a)) (K : Value → Prop) :
    Go.Fx.ld1 (.pointer (some ⟨g, o + off, none⟩)) h K = K (.int k (get a)) := (f.at hg).ld1 K
theorem Fld.ldB {α : Type} {r : Rdr α} {off : Nat} {get : α → Bool} {set : α → Bool → α} {h : Heap} {g : Nat} {a : α} {t : TypeId} {fr : Nat × Nat} (f : Fld r F0 off get set) (hg : h[g]? = some (.cells (r.cells a).toArray t fr)) (K : Value → Prop) :
    Go.Fx.ld1 (.pointer (some ⟨g, off, none⟩)) h K = K (.bool (get a)) := by
  have := (f.at (At.blk hg)).ld1 K
  rwa [Nat.zero_add] at this
theorem Fld.ldB' {α : Type} {r : Rdr α} {off o : Nat} {get : α → Bool} {set : α → Bool → α} {h : Heap} {g : Nat} {a : α} (f : Fld r F0 off get set) (hg : At h g o (r.cells a)) (K : Value → Prop) :
    Go.Fx.ld1 (.pointer (some ⟨g, o + off, none⟩)) h K = K (.bool (get a)) := (f.at hg).ld1 K
theorem Fld.stV {α β : Type} {r : Rdr α} {s : Rdr β} {off g : Nat} {get : α → β} {set : α → β → α} {a : α} {b : β} {v : Value} {t : TypeId} {w0 w : World} {As : List Asn} {K : World → Prop} (f : Fld r s off get set) (hv : s.cells b = [v])
    (hs : Sep w0 w (blk g (r.cells a).toArray t :: As)) (h1 : v.oneCell' = true) (h : ∀ w', Sep w0 w' (blk g (r.cells (set a b)).toArray t :: As) → K w') : Go.Fx.st1 (.pointer (some ⟨g, off, none⟩)) v w K := by
  obtain ⟨pre, post, e1, e2, e3⟩ := f.spec a b
  have hl : (s.cells (get a)).length = 1 := by rw [s.len, ← s.len b, hv]; rfl
  obtain ⟨u, hu⟩ : ∃ u, s.cells (get a) = [u] := by
    match s.cells (get a), hl with
    | [u], _ => exact ⟨u, rfl⟩
  rw [e1, hu] at hs
  rw [e2, hv] at h
  refine Ib hs (by simp; omega) h1 fun w' hs' => h w' ?_
  have e : (pre ++ [u] ++ post).toArray.setIfInBounds off v = (pre ++ [v] ++ post).toArray := by
    apply Array.ext'
    subst e3
    simp [List.set_append]
  rw [e] at hs'
  exact hs'
theorem Afq {P : Program} {t dep dep' : Nat} {α : Type} {r : Rdr α} [DecidableEq α] {ag : Bool} (h : EqT P t r ag dep) (hd : dep ≤ dep') : EqT P t r ag dep' := ⟨h.agg, h.siz, h.one, fun d hd' => h.eq d (Nat.le_trans hd hd')⟩
theorem Dr {v : Value} (h : v.oneCell' = true) : v.cells = (qv.cells v).toArray := by
  cases v <;> simp_all [Value.cells, Value.oneCell', qv]
theorem WS {α β : Type} {q : Rdr α} {s : Rdr β} {off : Nat} {get : α → β} {set : α → β → α} (f : Fld q s off get set) {S : World → Prop} {w : World} {v u : Value} {l : List α} {j : Nat} {a : α} {K : Value → Prop} (hc : s.cells (get a) = [u]) (hp : 0 < q.size)
    (hw : S w) (hS : ∀ u, S u → AB q u.heap v l) (hj : l[j]? = some a) (k : IntKind) (h : K u) : ixs q.size v (.int k (j : Int)) fun t => fad off t fun p => rdS S (fun w => Go.Fx.ld1 p w.heap) K := by
  obtain ⟨g, o, c, rfl⟩ := (hS w hw).form hp hj
  have hlt := (List.getElem?_eq_some_iff.1 hj).1
  rw [DJ _ _ _ _ _ _ _ _ (by omega) (by omega), Int.toNat_natCast, Lz]
  refine ⟨u, fun z hz => ?_, h⟩
  have hat := f.at (At.of hp (hS z hz) hj)
  rw [hc] at hat
  show Go.Fx.ld1 _ z.heap _
  rw [hat.ld1]
theorem Ye {α : Type} {q : Rdr α} {V : α → Value} (hV : ∀ a, (V a).cells = (q.cells a).toArray) : ∀ (l : List α) (k : Nat) (cur : Array Value), cur.size = (k + l.length) * q.size →
    Instr.fill (fun i => some (i * q.size, q.size)) cur ((l.zipIdx k).map fun x => (x.2, V x.1)) = some (cur.toList.take (k * q.size) ++ l.flatMap q.cells).toArray
  | [], k, cur, h => by
    simp only [List.length_nil, Nat.add_zero] at h
    simp only [List.zipIdx_nil, List.map_nil, Instr.fill, List.flatMap_nil, List.append_nil, ← h]
    congr 1
    apply Array.ext'
    rw [List.take_of_length_le (by simp)]
  | a :: l, k, cur, h => by
    simp only [List.length_cons] at h
    have hm : (k + (l.length + 1)) * q.size = k * q.size + q.size + l.length * q.size := by rw [Nat.add_mul, Nat.add_mul]; omega
    have hl := q.len a
    have hsz : (V a).cells.size = q.size := by rw [hV]; simpa using hl
    rw [List.zipIdx_cons, List.map_cons, Instr.fill]
    simp only
    have hn : ¬ ((V a).cells.size ≠ q.size || decide (k * q.size + (V a).cells.size > cur.size)) = true := by
      simp [hsz]; omega
    rw [if_neg (by simpa using hn)]
    have e : (V a).cells.zipIdx.foldl (fun cs x => cs.setIfInBounds (k * q.size + x.2) x.1) cur = splice cur (k * q.size) (q.cells a) := by
      rw [hV]
      have h1 := QW (q.cells a) 0 (k * q.size) cur (by omega)
      rw [Nat.add_zero] at h1
      rw [← h1]
      simp [← Array.foldl_toList]
    have hs2 : (splice cur (k * q.size) (q.cells a)).size = (k + 1 + l.length) * q.size := by
      simp only [splice, List.size_toArray, List.length_append, List.length_take, List.length_drop, Array.length_toList, hl]
      have : (k + 1 + l.length) * q.size = k * q.size + q.size + l.length * q.size := by rw [Nat.add_mul, Nat.add_mul]; omega
      omega
    rw [e, Ye hV l (k + 1) _ hs2]
    congr 2
    rw [List.flatMap_cons, ← List.append_assoc]
    congr 1
    simp only [splice]
    rw [Nat.add_mul, Nat.one_mul, List.take_append_of_le_length (by simp [hl]; omega)]
    rw [List.take_append, List.take_of_length_le (by simp; omega)]
    congr 1
    rw [List.take_of_length_le (by simp [hl]; omega)]
theorem CQ {α : Type} {q : Rdr α} {P : Program} {T E bytes n : Nat} {l : List α} {V : α → Value} {parts : Array (Nat × Value)} {w0 w : World} {As : List Asn} {K : Value → World → Prop} (hs : Sep w0 w As) (hT : SlT P T E q.size bytes)
    (hV : ∀ a, (V a).cells = (q.cells a).toArray) (hp : parts.toList = l.zipIdx.map fun x => (x.2, V x.1)) (hn : n = l.length) (h0 : 0 < n) (hmax : n * q.size ≤ 16777216)
    (h : ∀ g w', Sep w0 w' (Go.Fx.rows q (.slice (some ⟨g, 0, none⟩) n n) l :: As) → K (.slice (some ⟨g, 0, none⟩) n n) w') : efP P (Instr.buildSlice T n parts) w K := by
  obtain ⟨i, z, hi, hsz, hby, hz, hzc⟩ := Om hT
  refine WE (E := E) hs hn ?_ h
  have hpos : ¬ n * q.size = 0 := by have := Nat.mul_pos h0 hT.pos; omega
  have hf := Ye hV l 0 ((Array.range (n * q.size)).map fun j => z.cells[j % z.cells.size]!) (by simp [hn])
  simp only [Nat.zero_mul, List.take_zero, List.nil_append] at hf
  have hle : ¬ n * q.size > 2 ^ 24 := by omega
  simp only [Instr.buildSlice, Sem.run_bind, run_underlying hT.und, Result.andThen_ok, BS hT.siz, if_neg hle, if_neg hpos, Sem.run_pure]
  simp only [zeroValue, typeInfo, hi, hz, Sem.run_bind, run_program, Result.andThen_ok, Sem.run_pure, hp, hf]
  simp [newRow, hi, hz, hp, hf]
theorem Z0 {α β : Type} {q : Rdr α} {s : Rdr β} {w0 w : World} {As : List Asn} {off off' : Nat} {get : α → β} {set : α → β → α} (f : Fld q s off get set) {g o c j : Nat} {l : List α} {a : α} {b : β} {u : Value} {K : World → Prop} (hcu : s.cells b = [u])
    (hs : Sep w0 w (Go.Fx.rows q (.slice (some ⟨g, o, none⟩) l.length c) l :: As)) (hj : l[j]? = some a) (hoff : off' = o + j * q.size + off) (h1 : u.oneCell' = true)
    (h : ∀ w', Sep w0 w' (Go.Fx.rows q (.slice (some ⟨g, o, none⟩) l.length c) (l.set j (set a b)) :: As) → K w') : st1 (.pointer (some ⟨g, off', none⟩)) u w K := by
  subst hoff
  obtain ⟨F, ho, hu⟩ := hs.upd
  have hlt := (List.getElem?_eq_some_iff.1 hj).1
  obtain ⟨pre, post, e1, e2, e3⟩ := f.spec a b
  obtain ⟨pre', post', d1, d2, d3⟩ := M3 (q := q) (b := set a b) hj
  have hl1 : (s.cells (get a)).length = 1 := by rw [s.len, ← s.len b, hcu]; rfl
  obtain ⟨z, hz⟩ : ∃ z, s.cells (get a) = [z] := by
    match s.cells (get a), hl1 with
    | [z], _ => exact ⟨z, rfl⟩
  have hsz : q.size = pre.length + 1 + post.length := by rw [← q.len a, e1, hz]; simp; omega
  have hb : j * q.size + q.size ≤ l.length * q.size := by rw [← Nat.succ_mul]; exact Nat.mul_le_mul_right _ hlt
  obtain ⟨hl, ⟨hv, _⟩ | ⟨g', o', cap, cur, E, hv, hn, hg, hfit, hcs, rfl⟩⟩ := ho
  · cases hv
  · cases hv
    have hcap : l.length * q.size ≤ c * q.size := Nat.mul_le_mul_right _ hn
    refine AdT hg (by omega) h1 fun w' hg' hf => h w' ?_
    have hll : (l.set j (set a b)).length = l.length := by simp
    refine hu w' [g] _ ?_ hf (Grew.refl _ _)
    show Own w'.heap _ q.size (l.set j (set a b)).length _ [g]
    rw [hll]
    refine ⟨by rw [Eg q.len, hll], .inr ⟨g, o, c, _, E, rfl, hn, hg', by simpa using hfit, ?_, rfl⟩⟩
    rw [d2, e2, hcu]
    rw [d1, e1, hz] at hcs
    simp only [Array.toList_setIfInBounds]
    rw [List.drop_set, if_neg (by omega), List.take_set, hcs]
    have e : o + j * q.size + off - o = (pre' ++ pre).length := by simp; omega
    rw [e, show pre' ++ (pre ++ [z] ++ post) ++ post' = (pre' ++ pre) ++ ([z] ++ (post ++ post')) by simp, List.set_append_right _ _ (Nat.le_refl _), Nat.sub_self]
    simp
end Go.Fx
namespace Go.Fx
abbrev Fw (ro : Option Nat) : Fence := { Fence.wide with round := ro }
theorem Oj {ro : Option Nat} {n : Nat} {P : Program} {f : FuncId} {args : Array Value} {w : World} {R : Ending → World → Prop} : CallsIn (Fw ro) n P f args w R ↔ Calls P f args w R :=
  callsIn_wide (n := n) (P := P) (f := f) (args := args) (w := w) (R := R)
theorem Aeo {ro : Option Nat} {P : Program} {m m' : Machine} : StepsIn (Machine.fenced P (Fw ro)) P m m' ↔ Steps P m m' := stepsIn_wide (P := P) (m := m) (m' := m')
theorem Afi {ro : Option Nat} {n : Nat} {P : Program} {row : String} {args : Array Value} {w : World} {R : Value → World → Prop} (h : Rows P row args w R) : RowsIn (Fw ro) n P row args w R :=
  fun c cs _ => let ⟨v, w', r, s⟩ := h c cs; ⟨v, w', r, Aeo.2 s⟩
def Gl (ops : Array Oper) : Bool := (List.range ops.size).all fun i => match ops[i]? with
  | some o => (match o.op with | .defer _ => false | _ => true)
  | none => true
theorem IO {ops : Array Oper} (h : Gl ops = true) {i : Nat} {o : Oper} (ho : ops[i]? = some o) : ∀ c, o.op ≠ .defer c := by
  intro c hc
  have hi := (Array.getElem?_eq_some_iff.1 ho).1
  have := List.all_eq_true.1 h i (by simpa using hi)
  simp only [ho, hc] at this
  cases this
section
variable {P : Program} {n : Nat} {ops : Array Oper} {Q : Exit → Act → World → Prop} {ro : Option Nat}
theorem Nl {o : Oper} {a : Act} {w : World} {next : Act → World → Prop} (hd : ∀ c, o.op ≠ .defer c) (h : o.wp P a w next Q) : o.wpIn (Fw ro) 0 P a w next Q := by
  refine ⟨fun _ _ => trivial, ?_⟩
  rw [Oper.semAt_eq _ _ _ hd]
  unfold Oper.wp at h
  generalize (execOp a.eval o).run P w = r at h ⊢
  cases r with
  | ok x w' =>
    cases x <;> simp only [Oper.upon, Oper.uponIn] at h ⊢ <;>
      first
        | exact h
        | exact ⟨fun hh => by simp [Fw, Fence.wide] at hh, Oj.2 h⟩
        | exact ⟨fun hh => by simp [Fw, Fence.wide] at hh, Afi h⟩
        | exact h.elim
  | halt x w' => cases x <;> simp only [Oper.upon, Oper.uponIn] at h ⊢ <;> exact h
theorem Ok (hd : Gl ops = true) (hQ : ¬ LetsOut Q) : ∀ (l : List Nat) (a : Act) (w : World), wpOps P ops Q l a w → wpOpsIn (Fw ro) 0 P ops Q l a w
  | [], a, w, h => h
  | i :: l, a, w, h => by
    unfold wpOps at h
    unfold wpOpsIn
    cases ho : ops[i]? with
    | none => rw [ho] at h; exact Ok hd hQ l a w h
    | some o =>
      rw [ho] at h
      simp only at h ⊢
      split
      · rename_i hw
        rw [if_pos hw] at h
        rcases h with h | ⟨_, h⟩
        · exact Oper.wpIn_mono (fun a w => Ok hd hQ l a w) (Nl (IO hd ho) h)
        · exact absurd h hQ
      · rename_i hw
        rw [if_neg hw] at h
        exact ⟨fun _ _ => trivial, Ok hd hQ l _ w h⟩
theorem AhQ (hd : Gl ops = true) (hQ : ¬ LetsOut Q) {i : Nat} {K K' : Act → World → Prop} (hk : ∀ a w, K a w → K' a w) {a : Act} {w : World} (h : wpOp P ops Q i K a w) : wpOpIn (Fw ro) 0 P ops Q i K' a w := by
  unfold wpOp at h
  unfold wpOpIn
  cases ho : ops[i]? with
  | none => rw [ho] at h; exact hk _ _ h
  | some o =>
    rw [ho] at h
    simp only at h ⊢
    split
    · rename_i hw
      rw [if_pos hw] at h
      rcases h with h | ⟨_, h⟩
      · exact Oper.wpIn_mono hk (Nl (IO hd ho) h)
      · exact absurd h hQ
    · rename_i hw
      rw [if_neg hw] at h
      exact ⟨fun _ _ => trivial, hk _ _ h⟩
theorem Z9 {md : Region.Mode} (hd : Gl ops = true) (hQ : ¬ LetsOut Q) : ∀ (fuel : Nat) (listed : Array Bool) (a : Act) (w : World), wpAny P md ops Q fuel listed a w → wpAnyIn (Fw ro) 0 P md ops Q fuel listed a w
  | 0, _, _, _, h => h
  | fuel + 1, listed, a, w, h => ⟨h.1, fun i hi => AhQ hd hQ (fun a w => Z9 hd hQ fuel _ a w) (h.2 i hi)⟩
theorem GE.wpIn {draw : Bool} {id : Nat} {a : Act} {w : World} (hm : P.follows .mixedOrders = true) (hd : Gl ops = true) (hQ : ¬ LetsOut Q) (h : GE P draw ops Q a w) : (Code.region id ops draw).wpIn (Fw ro) 0 P Q a w := by
  cases draw with
  | false => exact wpIn_region (Ok hd hQ _ _ _ h)
  | true => exact wpIn_region_any hm (Z9 hd hQ _ _ _ _ h)
end
def calY (P : Program) (g : Value) (args : List Value) (w : World) (K : Value → World → Prop) : Prop :=
  ∃ l f tmps assign body, g = .func (.yield l) #[] #[] ∧ (Instr.yield l args.toArray).run P w = .ok (.round l f tmps assign body) w ∧ RoundIn (Fw none) 0 P l f tmps assign body w (Ret K)
theorem AiF {P : Program} {g : Value} {args : List Value} {w : World} {K K' : Value → World → Prop} (h : calY P g args w K) (hk : ∀ v w', K v w' → K' v w') : calY P g args w K' := by
  obtain ⟨l, f, tmps, assign, body, h1, h2, h3⟩ := h
  exact ⟨l, f, tmps, assign, body, h1, h2, h3.mono fun e w' ⟨v, he, hv⟩ => ⟨v, he, hk _ _ hv⟩⟩
def AdX (P : Program) (o : Oper) (e : Env) (w : World) (K : Value → World → Prop) : Prop :=
  match o.op with
  | .call ⟨.value (.func _), _, _⟩ => De P .plain o e w K
  | .call ⟨.value g, args, _⟩ => calY P (ev e g) (args.toList.map (ev e)) w K
  | _ => De P .plain o e w K
def runY (P : Program) (ops : Array Oper) : List Nat → Env → World → (Env → World → Prop) → Prop
  | [], e, w, K => K e w
  | i :: l, e, w, K => match ops[i]? with
    | some o => (match o.guard with
      | none => AdX P o e w fun v w' => runY P ops l (updO e o.dst v) w' K
      | some _ => False)
    | none => False
def opsA (ops : Array Oper) : Array Oper := ops.extract 0 (ops.size - 2)
def allB : Nat → List (List Bool)
  | 0 => [[]]
  | n + 1 => (allB n).flatMap fun l => [false :: l, true :: l]
theorem Aa2 : ∀ (l : List Bool), l ∈ allB l.length
  | [] => by simp [allB]
  | b :: l => by
    rw [List.length_cons, allB, List.mem_flatMap]
    exact ⟨l, Aa2 l, by cases b <;> simp⟩
def NO (ops : Array Oper) (l : List Bool) : Bool := (List.range ops.size).all fun i => !(l.getD i false) || ((ops[i]?).map (·.after.all fun e => !Region.binds .any e || l.getD e.on false)).getD true
def RT (a b : List Nat) : Bool := decide (a = b)
def Qv (ops : Array Oper) (l : List Bool) : Bool :=
  let r := Region.ready .any (opsA ops) l.toArray
  !NO (opsA ops) l || bif r.isEmpty then RT (Region.ready .any ops (l ++ [false, false]).toArray) [ops.size - 2] && (RT (Region.ready .any ops (l ++ [true, false]).toArray) [ops.size - 1] && RT (Region.ready .any ops (l ++ [true, true]).toArray) [])
    else RT (Region.ready .any ops (l ++ [false, false]).toArray) r && r.all fun i => Nat.blt i (ops.size - 2) && NO (opsA ops) (l.set i true)
def Abf (ops : Array Oper) : Bool := Nat.ble 2 ops.size && ((allB (ops.size - 2)).all (Qv ops) && (NO (opsA ops) (List.replicate (ops.size - 2) false) && (List.range ops.size).all fun i => ((ops[i]?).map fun o => o.guard.isNone).getD true))
theorem Oper.wp_monoQ {P : Program} {o : Oper} {a : Act} {w : World} {K : Act → World → Prop} {Q Q' : Exit → Act → World → Prop} (hL : ¬ LetsOut Q) (hQ : ∀ x a w, x ≠ .normal → Q x a w → Q' x a w) (h : o.wp P a w K Q) : o.wp P a w K Q' := by
  unfold Oper.wp at *
  generalize (execOp a.eval o).run P w = r at *
  cases r with
  | ok n w' =>
    cases n <;> simp only [Oper.upon] at h ⊢ <;>
      first
        | exact h
        | exact Calls.mono h (fun e w'' he => by cases e <;> first | exact he | exact hQ _ _ _ (by simp) he | exact absurd he hL)
  | halt x w' => cases x <;> simp only [Oper.upon] at h ⊢ <;> first | exact h | exact hQ _ _ _ (by simp) h
inductive AnY where
  | o
  | s (a b : AnY)
  | b (a : AnY)
  | j (slots : List Nat) (a : AnY)
  | l (slots : List Nat) (a : AnY)
  | c (a : An)
  | y
  | d (a : An)
  | f (a b : AnY)
def AnY.noF : AnY → Bool
  | .s x z => x.noF && z.noF
  | .b x => x.noF
  | .j _ x => x.noF
  | .l _ x => x.noF
  | .f _ _ => false
  | _ => true
def VA : List Nat → Nat → List Value → Env → Env
  | [], _, _, e => e
  | p :: ps, i, args, e => VA ps (i + 1) args (upd e p (args.getD i undef))
def insN (x : Nat) (l : List Nat) : List Nat := bif l.any (Nat.beq x) then l else l ++ [x]
def jumps : Code → List Nat
  | .ret => [0]
  | .exit i => [i + 1]
  | .seq a b => (jumps b).foldl (fun l x => insN x l) (jumps a)
  | .cond _ a b => (jumps b).foldl (fun l x => insN x l) (jumps a)
  | .block id c => (jumps c).filter fun x => !Nat.beq x (id + 1)
  | .loop c => jumps c
  | _ => []
def jmp : Nat → Code
  | 0 => .ret
  | i + 1 => .exit i
abbrev RN (j : Option Code) : LoopState := if j.isNone then .ready else .done
def outL (j : Option Code) (w : World) : List (Option Code × (World → Prop)) → Prop
  | [] => False
  | (j', K) :: l => (j = j' ∧ K w) ∨ outL j w l
abbrev dfB : Obj := .deferred (some [])
def rng (P : Program) (g : Value) (k : Nat) (w : World) (rnd : List Value → World → (World → (World → Prop) → Prop) → (Option Code → World → Prop) → Prop) (out : Nat → List (Option Code × (World → Prop))) : Prop :=
  ∃ gf cap, g = .func (.func gf) #[] cap ∧ callable P gf = true ∧ ∀ (y : Value) (rec : LoopState → Option Code → Obj), y.oneCell' = true →
    (∀ (args : List Value) (w2 : World) (K : Value → World → Prop), args.length = k → w2.heap[w.heap.size + 1]? = some (rec .ready none) →
      rnd args w2 (fun w3 K3 => w3.heap[w.heap.size + 1]? = some (rec .ready none) ∧ K3 (Cj w3 (w.heap.size + 1) (rec .busy none)))
        (fun j w3 => w3.heap[w.heap.size + 1]? = some (rec .busy none) ∧ K (.bool j.isNone) (Cj w3 (w.heap.size + 1) (rec (RN j) j))) → calY P y args w2 K) →
    cal P gf (y :: cap.toList) ((w.alloc dfB).alloc (rec .ready none)) fun _ w' => ∃ j, w'.heap[w.heap.size + 1]? = some (rec (RN j) j) ∧ outL j (Cj w' (w.heap.size + 1) (rec .exhausted j)) (out w.heap.size)
def RP : List Nat → World → (World → Prop) → Prop
  | [], w, K => K w
  | D :: ds, w, K => w.heap[D]? = some dfB ∧ RP ds (Cj w D (.deferred none)) K
abbrev KY := Env → List Nat → World → Prop
def Cn (P : Program) : AnY → Code → Env → List Nat → World → KY → (Nat → KY) → KY → Prop
  | .o, .skip, e, ds, w, KN, KX, KR => KN e ds w
  | .o, .ret, e, ds, w, KN, KX, KR => KR e ds w
  | .o, .exit i, e, ds, w, KN, KX, KR => KX i e ds w
  | .s a b, .seq x y, e, ds, w, KN, KX, KR => Cn P a x e ds w (fun e' ds' w' => Cn P b y e' ds' w' KN KX KR) KX KR
  | .s a b, .cond c x y, e, ds, w, KN, KX, KR => cnd (ev e c) (Cn P a x e ds w KN KX KR) (Cn P b y e ds w KN KX KR)
  | .b a, .block id x, e, ds, w, KN, KX, KR => Cn P a x e ds w KN (fun i e' ds' w' => bif Nat.beq i id then KN e' ds' w' else KX i e' ds' w') KR
  | .j slots a, c, e, ds, w, KN, KX, KR => NX slots (writes c) e (fun k => Cn P a c e ds w (fun e' _ w' => k e' w') KX KR) fun e' w' => KN e' ds w'
  | .l slots a, .loop x, e, ds, w, KN, KX, KR => U9 slots (writes x) e w fun e' w' k => Cn P a x e' ds w' (fun e2 _ w2 => k e2 w2) KX KR
  | .c A, .region id ops draw, e, ds, w, KN, KX, KR => intp P A (.region id ops draw) e w (fun e' w' => KN e' ds w') (fun _ _ _ => False) (fun _ _ => False)
  | .y, .region _ ops false, e, ds, w, KN, KX, KR => runY P ops (List.range ops.size) e w fun e' w' => KN e' ds w'
  | .d A, .region id ops true, e, ds, w, KN, KX, KR => intp P A (.region id (opsA ops) true) e w (fun e' w' => runY P ops [ops.size - 2, ops.size - 1] e' w' fun e2 w2 => KN e2 ds w2) (fun _ _ _ => False) (fun _ _ => False)
  | .f a b, .rangeFunc g ps assign body, e, ds, w, KN, KX, KR => rng P (ev e g) ps.size w
      (fun args w2 beg fin => Cn P a assign (VA ps.toList 0 args e) [] w2 (fun e1 _ w3 => beg w3 fun w4 => Cn P b body e1 [] w4 (fun _ _ w5 => fin none w5) (fun i _ _ w5 => fin (some (.exit i)) w5) (fun _ _ w5 => fin (some .ret) w5)) (fun _ _ _ _ => False) (fun _ _ _ => False))
      (fun D => (none, KN e (D :: ds)) :: (jumps body).map fun x => (some (jmp x), match x with | 0 => KR e (D :: ds) | i + 1 => KX i e (D :: ds)))
  | _, _, _, _, _, _, _, _ => False
def Zu : An → Bool
  | .r _ | .d _ _ | .dc _ _ _ | .dt _ _ _ => true
  | _ => false
def chkY (P : Program) (n : Nat) : AnY → Code → Bool
  | .o, _ => true
  | .s a b, .seq x y => chkY P n a x && chkY P n b y
  | .s a b, .cond _ x y => chkY P n a x && chkY P n b y
  | .b a, .block _ x => chkY P n a x
  | .j _ a, c => a.noF && chkY P n a c
  | .l _ a, .loop x => a.noF && chkY P n a x
  | .c A, .region id ops draw => Zu A && (chk P n A (.region id ops draw) && Gl ops)
  | .y, .region _ ops false => Di P n ops && Gl ops
  | .d A, .region id ops true => Zu A && (chk P n A (.region id (opsA ops) true) && (Gl ops && (Di P n ops && Abf ops)))
  | .f a b, .rangeFunc _ ps assign body => (a.noF && b.noF) && ((chkY P n a assign && chkY P n b body) && ps.toList.all fun p => Nat.blt p n)
  | _, _ => true
end Go.Fx
namespace Go.Fx
def marks (ds : List Nat) : List Deferred := ds.map fun D => { target := .collected D, args := #[] }
def KW (fx : Bool) (ds : List Nat) (n : Nat) (W : List Nat) (e : Env) (KN : KY) (KX : Nat → KY) (KR : KY) : Exit → Act → World → Prop
  | .normal, a, w => ∃ e' ds', Rel (marks ds') n a e' ∧ A1 W e e' ∧ (fx = true → ds' = ds) ∧ KN e' ds' w
  | .exit i, a, w => ∃ e' ds', Rel (marks ds') n a e' ∧ A1 W e e' ∧ (fx = true → ds' = ds) ∧ KX i e' ds' w
  | .ret, a, w => ∃ e' ds', Rel (marks ds') n a e' ∧ A1 W e e' ∧ (fx = true → ds' = ds) ∧ KR e' ds' w
  | _, _, _ => False
section
variable {P : Program} {n : Nat} {ops : Array Oper} {Q : Exit → Act → World → Prop} {ro : Option Nat}
theorem KW.mono {fx fx' : Bool} {ds ds0 : List Nat} {W W' : List Nat} {e e0 : Env} {KN KN' KR KR' : KY} {KX KX' : Nat → KY} (hW : ∀ t, t ∈ W → t ∈ W') (he : A1 W' e0 e) (hd : fx' = true → fx = true ∧ ds = ds0)
    (hN : ∀ e' ds' w, A1 W' e0 e' → (fx' = true → ds' = ds0) → KN e' ds' w → KN' e' ds' w) (hX : ∀ i e' ds' w, KX i e' ds' w → KX' i e' ds' w) (hR : ∀ e' ds' w, KR e' ds' w → KR' e' ds' w) (x : Exit) (a : Act) (w : World)
    (h : KW fx ds n W e KN KX KR x a w) : KW fx' ds0 n W' e0 KN' KX' KR' x a w := by
  have go : ∀ {ds' : List Nat}, (fx = true → ds' = ds) → fx' = true → ds' = ds0 := fun h hf => (h (hd hf).1).trans (hd hf).2
  cases x with
  | normal => obtain ⟨e', ds', h1, h2, h3, h4⟩ := h; exact ⟨e', ds', h1, he.trans (h2.mono hW), go h3, hN _ _ _ (he.trans (h2.mono hW)) (go h3) h4⟩
  | exit i => obtain ⟨e', ds', h1, h2, h3, h4⟩ := h; exact ⟨e', ds', h1, he.trans (h2.mono hW), go h3, hX _ _ _ _ h4⟩
  | ret => obtain ⟨e', ds', h1, h2, h3, h4⟩ := h; exact ⟨e', ds', h1, he.trans (h2.mono hW), go h3, hR _ _ _ h4⟩
  | _ => exact h
theorem KP {ds : List Deferred} {W : List Nat} {e : Env} {KN KR : Env → World → Prop} {KX : Nat → Env → World → Prop} : ¬ LetsOut (Post ds n W e KN KX KR) := fun ⟨_, _, h⟩ => h
theorem XM {ds : List Deferred} {A : An} {id : Nat} {draw : Bool} {e : Env} {w : World} {a : Act} {KN : Env → World → Prop} (hi : Zu A = true) (hc : chk P n A (.region id ops draw) = true) (hr : Rel ds n a e)
    (h : intp P A (.region id ops draw) e w KN (fun _ _ _ => False) (fun _ _ => False)) :
    ∃ Q, GE P draw ops Q a w ∧ ¬ LetsOut Q ∧ ∀ x a' w', Q x a' w' → Post ds n (A6 ops (List.range ops.size)) e KN (fun _ _ _ => False) (fun _ _ => False) x a' w' := by
  cases A with
  | r gs =>
    refine ⟨_, ?_, KP, fun _ _ _ h => h⟩
    cases draw with
    | false => unfold intp at h; simp only [chk] at hc; exact Qe hc hr h
    | true => unfold intp at h; simp only [chk, Bool.and_eq_true] at hc; exact To hc.1 hc.2 hr h
  | d plan gs =>
    cases draw with
    | false => unfold intp at h; exact h.elim
    | true =>
      refine ⟨_, ?_, KP, fun _ _ _ h => h⟩
      unfold intp at h
      simp only [chk, Bool.and_eq_true] at hc
      obtain ⟨S, hS, h⟩ := h
      refine Th hc.1.1 (Nat.eq_of_beq_eq_true hc.1.2.1) (fun i hi => ?_) (PM _ _ (Lx _ _ _ Bits.init hc.1.2.2)) hr hS h
      have := List.all_eq_true.1 hc.2 i hi
      simpa [Nat.blt_eq] using this
  | dc plan cuts gs =>
    cases draw with
    | false => unfold intp at h; exact h.elim
    | true =>
      refine ⟨_, ?_, KP, fun _ _ _ h => h⟩
      unfold intp at h
      simp only [chk, Bool.and_eq_true] at hc
      obtain ⟨S, hS, h⟩ := h
      refine U0 hc.1.1 (Nat.eq_of_beq_eq_true hc.1.2.1) (fun i hi => ?_) (Lx _ _ _ Bits.init hc.1.2.2) hr hS h
      have := List.all_eq_true.1 hc.2 i hi
      simpa [Nat.blt_eq] using this
  | dt pl cuts slots =>
    cases draw with
    | false => unfold intp at h; exact h.elim
    | true =>
      unfold intp at h
      simp only [chk, Bool.and_eq_true, Bool.not_eq_true'] at hc
      obtain ⟨hc, ⟨hp, ha, hg⟩, hd⟩ := hc
      obtain ⟨S, hS, h⟩ := h
      obtain ⟨k, hb, hrest⟩ := Gq h
      refine ⟨_, Tv (KX := fun _ _ _ => False) (KR := fun _ _ => False) hc hp ha hg (Nat.le_of_ble_eq_true hd) hr hS hb, KP, ?_⟩
      intro x a' w' hx
      cases x with
      | normal =>
        obtain ⟨e', h2, h3, h4⟩ := hx
        obtain ⟨e'', he, hk⟩ := hrest e' w' h3 h4
        exact ⟨e'', h2.congr fun t => (he t).symm, fun t ht => (he t).trans (h3 t ht), hk⟩
      | _ => exact hx
  | _ => simp [Zu] at hi
theorem Adb {ds : List Deferred} {o : Oper} {a : Act} {e : Env} {w : World} {K : Value → World → Prop} {next : Act → World → Prop} (hr : Rel ds n a e) (hc : JM P o.op = true) (h : De P .plain o e w K)
    (hk : ∀ v w', K v w' → next (a.put o.dst v) w') : o.wp P a w next Q := by
  have hcl := It (P := P) hr hc
  unfold De at h
  simp only at h
  cases hcs : cls P (ev e) o.op o.type with
  | pure f =>
    rw [hcs] at h hcl
    obtain ⟨v, hv, hrun⟩ := hcl _ h
    exact JV (hrun w) (hk _ _ hv)
  | read f =>
    rw [hcs] at h hcl
    obtain ⟨v, hv, hrun⟩ := hcl _ _ h
    exact JV hrun (hk _ _ hv)
  | eff f =>
    rw [hcs] at h hcl
    exact JS hcl h hk
theorem AdQ {ro ro' : Option Nat} {l : Nat} {f : FuncId} {tmps : Array Value} {assign body : Code} {w : World} {R : Ending → World → Prop} (h : RoundIn (Fw ro) 0 P l f tmps assign body w R) : RoundIn (Fw ro') 0 P l f tmps assign body w R := h
theorem Aia {o : Oper} {a : Act} {w : World} {g : Operand} {args : Array Operand} {ts : Array TypeId} {K : Value → World → Prop} {next : Act → World → Prop} (ho : o.op = .call ⟨.value g, args, ts⟩)
    (h : calY P (a.eval g) (args.toList.map a.eval) w K) (hk : ∀ v w', K v w' → next (a.put o.dst v) w') : o.wpIn (Fw ro) 0 P a w next Q := by
  obtain ⟨l, f, tmps, assign, body, hg, hy, hR⟩ := h
  refine ⟨fun _ _ => trivial, ?_⟩
  rw [Oper.semAt_eq _ _ _ (by rw [ho]; intro c hc; cases hc)]
  have hrun : (execOp a.eval o).run P w = .ok (.round l f tmps assign body) w := by
    rw [← hy]
    unfold execOp
    simp only [ho, resolve, hg, Deferred.ofValue, invoke, Sem.run_bind, Sem.run_pure, Result.andThen_ok, Ff]
    simp
  rw [hrun, Oper.uponIn_round]
  refine ⟨fun hh => by simp [Fw, Fence.wide] at hh, (AdQ (ro' := ro) hR).mono fun e w' ⟨v, he, hv⟩ => ?_⟩
  subst he
  exact hk _ _ hv
theorem Ag2 {ds : List Deferred} {o : Oper} {a : Act} {e : Env} {w : World} {K : Value → World → Prop} {next : Act → World → Prop} (hr : Rel ds n a e) (hc : JM P o.op = true) (hd : ∀ c, o.op ≠ .defer c) (h : AdX P o e w K)
    (hk : ∀ v w', K v w' → next (a.put o.dst v) w') : o.wpIn (Fw ro) 0 P a w next Q := by
  unfold AdX at h
  split at h
  · exact Nl hd (Adb hr hc h hk)
  · rename_i g args ts _ ho
    rw [← hr.eval] at h
    exact Aia ho h hk
  · exact Nl hd (Adb hr hc h hk)
theorem OB {ds : List Deferred} (hc : Di P n ops = true) (hd : Gl ops = true) : ∀ (l : List Nat) (a : Act) (e : Env) (w : World) (K : Env → World → Prop), Rel ds n a e → runY P ops l e w K →
    (∀ a' e' w', Rel ds n a' e' → A1 (A6 ops l) e e' → K e' w' → Q .normal a' w') → wpOpsIn (Fw ro) 0 P ops Q l a w
  | [], a, e, w, K, hr, h, hk => hk a e w hr (A1.refl _ _) h
  | i :: l, a, e, w, K, hr, h, hk => by
    unfold runY at h
    unfold wpOpsIn
    cases ho : ops[i]? with
    | none => rw [ho] at h; exact h.elim
    | some o =>
      rw [ho] at h
      simp only at h ⊢
      cases hg : o.guard with
      | some g => rw [hg] at h; exact h.elim
      | none =>
        rw [hg] at h
        simp only at h
        rw [if_pos (EA hg)]
        obtain ⟨h1, h2, _⟩ := Ew (Ea hc ho).1
        refine Ag2 hr h2 (IO hd ho) h fun v w' hK => ?_
        refine OB hc hd l _ _ w' K (hr.put o.dst v h1) hK fun a' e' w2 hr' ha hk' => hk a' e' w2 hr' ?_ hk'
        have e1 : A6 ops (i :: l) = (Ia ops i).toList ++ A6 ops l := by
          unfold A6
          rw [List.filterMap_cons]
          cases Ia ops i <;> rfl
        have e2 : Ia ops i = o.dst := by simp [Ia, ho]
        rw [e1]
        refine (A1.updO e o.dst v _ fun d hd => ?_).trans (ha.mono fun t ht => by simp [ht])
        rw [e2, hd]
        simp
theorem Z8 {i : Nat} (hi : i < ops.size - 2) : (opsA ops)[i]? = ops[i]? := by
  unfold opsA
  rw [Array.getElem?_extract]
  simp only [Nat.zero_add]
  rw [if_pos (by omega)]
theorem Agh (h2 : 2 ≤ ops.size) : (opsA ops).size = ops.size - 2 := by
  unfold opsA
  rw [Array.size_extract]
  omega
theorem Af5 {QA Q' : Exit → Act → World → Prop} (h2 : 2 ≤ ops.size) (hall : ∀ l : List Bool, l.length = ops.size - 2 → Qv ops l = true) (hg : ∀ (i : Nat) (o : Oper), ops[i]? = some o → o.guard = none) (hd : Gl ops = true) (hLQ : ¬ LetsOut QA)
    (hQ : ∀ x a w, x ≠ .normal → QA x a w → Q' x a w) (hend : ∀ a w, QA .normal a w → wpOpsIn (Fw ro) 0 P ops Q' [ops.size - 2, ops.size - 1] a w) :
    ∀ (fuel : Nat) (l : List Bool) (a : Act) (w : World), l.length = ops.size - 2 → NO (opsA ops) l = true → wpAny P .any (opsA ops) QA fuel l.toArray a w → wpAnyIn (Fw ro) 0 P .any ops Q' (fuel + 2) (l ++ [false, false]).toArray a w := by
  have fin : ∀ (f : Nat) (l : List Bool) (a : Act) (w : World), l.length = ops.size - 2 → NO (opsA ops) l = true → Region.ready .any (opsA ops) l.toArray = [] → QA .normal a w → wpAnyIn (Fw ro) 0 P .any ops Q' (f + 2) (l ++ [false, false]).toArray a w := by
    intro f l a w hl hcl hr hq
    have hs := hall l hl
    simp only [Qv, hcl, hr, Bool.not_true, Bool.false_or, List.isEmpty_nil, cond_true, Bool.and_eq_true, RT, decide_eq_true_eq] at hs
    obtain ⟨r1, r2, r3⟩ := hs
    have h := hend a w hq
    rw [wpOpsIn_cons] at h
    refine ⟨(fun h0 => by rw [r1] at h0; cases h0), fun i hi => ?_⟩
    rw [r1] at hi
    obtain rfl : i = ops.size - 2 := by simpa using hi
    refine wpOpIn_mono (fun a1 w1 h1 => ?_) h
    have e1 : ((l ++ [false, false]).toArray.setIfInBounds (ops.size - 2) true) = (l ++ [true, false]).toArray := by
      apply Array.ext'
      rw [Array.toList_setIfInBounds]
      show (l ++ [false, false]).set (ops.size - 2) true = _
      rw [← hl, List.set_append_right _ _ (Nat.le_refl _)]
      simp
    rw [e1]
    rw [wpOpsIn_cons] at h1
    refine ⟨(fun h0 => by rw [r2] at h0; cases h0), fun i hi => ?_⟩
    rw [r2] at hi
    obtain rfl : i = ops.size - 1 := by simpa using hi
    refine wpOpIn_mono (fun a2 w2 h3 => ?_) h1
    have e2 : ((l ++ [true, false]).toArray.setIfInBounds (ops.size - 1) true) = (l ++ [true, true]).toArray := by
      apply Array.ext'
      rw [Array.toList_setIfInBounds]
      show (l ++ [true, false]).set (ops.size - 1) true = _
      rw [show ops.size - 1 = l.length + 1 by omega, List.set_append_right _ _ (by omega)]
      simp
    rw [e2]
    cases f with
    | zero => exact ⟨r3, h3⟩
    | succ f => exact ⟨fun _ => h3, (fun i hi => by rw [r3] at hi; cases hi)⟩
  intro fuel
  induction fuel with
  | zero => intro l a w hl hcl h; exact fin 0 l a w hl hcl h.1 h.2
  | succ fuel ih =>
    intro l a w hl hcl h
    by_cases hr : Region.ready .any (opsA ops) l.toArray = []
    · exact fin (fuel + 1) l a w hl hcl hr (h.1 hr)
    have hs := hall l hl
    have hne : (Region.ready .any (opsA ops) l.toArray).isEmpty = false := by
      cases hq : Region.ready .any (opsA ops) l.toArray with
      | nil => exact absurd hq hr
      | cons _ _ => rfl
    simp only [Qv, hcl, hne, Bool.not_true, Bool.false_or, cond_false, Bool.and_eq_true, RT, decide_eq_true_eq, List.all_eq_true, Nat.blt_eq] at hs
    obtain ⟨r1, r2⟩ := hs
    refine ⟨(fun h0 => by rw [r1] at h0; exact absurd h0 hr), fun i hi => ?_⟩
    rw [r1] at hi
    obtain ⟨hlt, hc2⟩ := r2 i hi
    have hi2 := h.2 i hi
    have e1 : ((l ++ [false, false]).toArray.setIfInBounds i true) = (l.set i true ++ [false, false]).toArray := by
      apply Array.ext'
      rw [Array.toList_setIfInBounds]
      show (l ++ [false, false]).set i true = _
      rw [List.set_append_left _ _ (by omega)]
    have e2 : (l.toArray.setIfInBounds i true) = (l.set i true).toArray := by
      apply Array.ext'
      rw [Array.toList_setIfInBounds]
    rw [e1]
    rw [e2] at hi2
    unfold wpOp at hi2
    unfold wpOpIn
    rw [Z8 hlt] at hi2
    cases ho : ops[i]? with
    | none =>
      rw [Array.getElem?_eq_none_iff] at ho
      omega
    | some o =>
      rw [ho] at hi2
      simp only at hi2 ⊢
      rw [if_pos (EA (hg i o ho))] at hi2 ⊢
      rcases hi2 with h3 | ⟨_, h3⟩
      · exact Oper.wpIn_mono (fun a1 w1 h1 => ih _ a1 w1 (by rw [List.length_set]; exact hl) hc2 h1) (Nl (IO hd ho) (Oper.wp_monoQ hLQ hQ h3))
      · exact absurd h3 hLQ
theorem XS (args : List Value) : ∀ (ps : List Nat) (i : Nat) (a : Act) (e : Env) (ds : List Deferred), Rel ds n a e → (ps.all fun p => Nat.blt p n) = true → i + ps.length = args.length →
    Rel ds n { tmps := (ps.zip (args.drop i)).foldl (fun t (x : Nat × Value) => t.setIfInBounds x.1 x.2) a.tmps, defers := a.defers } (VA ps i args e)
  | [], i, a, e, ds, hr, _, _ => by simpa [VA] using hr
  | p :: ps, i, a, e, ds, hr, hp, hl => by
    simp only [List.all_cons, Bool.and_eq_true] at hp
    simp only [List.length_cons] at hl
    have hlt : i < args.length := by omega
    have hput := hr.put (some p) (args.getD i undef) fun d hd => by cases hd; simpa [Nat.blt_eq] using hp.1
    have ih := XS args ps (i + 1) _ _ ds hput hp.2 (by omega)
    rw [VA]
    have e1 : args.drop i = args.getD i undef :: args.drop (i + 1) := by
      rw [List.drop_eq_getElem_cons hlt]
      simp [List.getD_eq_getElem?_getD, hlt]
    rw [e1, List.zip_cons_cons, List.foldl_cons]
    exact ih
theorem AbW (ps : Array Nat) (args : List Value) (t : Array Value) : (ps.zip args.toArray).foldl (fun tmps (x : Nat × Value) => tmps.setIfInBounds x.1 x.2) t = (ps.toList.zip args).foldl (fun tmps (x : Nat × Value) => tmps.setIfInBounds x.1 x.2) t := by
  rw [← Array.foldl_toList, Array.toList_zip]
def SndY (P : Program) (n : Nat) (A : AnY) : Prop := ∀ (ro : Option Nat) (c : Code) (e : Env) (ds : List Nat) (w : World) (a : Act) (KN : KY) (KX : Nat → KY) (KR : KY), (A.noF = true ∨ ro = none) → chkY P n A c = true →
  Rel (marks ds) n a e → Cn P A c e ds w KN KX KR → c.wpIn (Fw ro) 0 P (KW A.noF ds n (writes c) e KN KX KR) a w
theorem AfV {A B : AnY} (ihA : SndY P n A) (ihB : SndY P n B) {g : Operand} {ps : Array Tmp} {assign body : Code} {e : Env} {ds : List Nat} {w : World} {a : Act} {KN : KY} {KX : Nat → KY} {KR : KY}
    (hA : A.noF = true) (hB : B.noF = true) (hcA : chkY P n A assign = true) (hcB : chkY P n B body = true) (hps : (ps.toList.all fun p => Nat.blt p n) = true) (hr : Rel (marks ds) n a e)
    (h : Cn P (.f A B) (.rangeFunc g ps assign body) e ds w KN KX KR) : (Code.rangeFunc g ps assign body).wpIn (Fw none) 0 P (KW false ds n [] e KN KX KR) a w := by
  unfold Cn at h
  obtain ⟨gf, cap, hg, hcal, h⟩ := h
  refine wpIn_rangeFunc ?_
  intro fn _
  obtain ⟨rec, hrec⟩ : ∃ rec : LoopState → Option Code → Loop, rec = fun st pe => { state := st, pending := pe, fn, tmps := a.tmps, params := ps, assign, body, defers := w.heap.size } := ⟨_, rfl⟩
  obtain ⟨l, hl⟩ : ∃ l, l = w.heap.size + 1 := ⟨_, rfl⟩
  have hg' : a.eval g = .func (.func gf) #[] cap := by rw [hr.eval]; exact hg
  refine ⟨w.heap.size + 1, [{ target := .collected w.heap.size, args := #[] }], (w.alloc (.deferred (some []))).alloc (.loop (rec .ready none)), { target := .fn (.func gf) cap, args := #[.func (.yield (w.heap.size + 1)) #[] #[]] }, (w.alloc (.deferred (some []))).alloc (.loop (rec .ready none)), gf,
    #[.func (.yield (w.heap.size + 1)) #[] #[]] ++ cap, (w.alloc (.deferred (some []))).alloc (.loop (rec .ready none)), ?_, ?_, fun _ _ => trivial, ?_, fun hh => by simp [Fw, Fence.wide] at hh, ?_⟩
  · rw [hrec]; exact run_enterLoop_outer _ _ _ _ _
  · simp only [resolve, hg']
    simp [Deferred.ofValue, Act.eval]
  · simp only [invoke]
    exact LH hcal _ _
  refine Oj.2 ?_
  have hq := h (.func (.yield (w.heap.size + 1)) #[] #[]) (fun st pe => .loop (rec st pe)) rfl ?_
  · have e1 : (Value.func (Fn.yield (w.heap.size + 1)) #[] #[] :: cap.toList).toArray = #[Value.func (Fn.yield (w.heap.size + 1)) #[] #[]] ++ cap := by apply Array.ext'; simp
    unfold cal at hq
    rw [e1] at hq
    refine Calls.mono hq ?_
    rintro en w3 ⟨v, rfl, j, hj, hout⟩
    have hst : (rec (RN j) j).state ≠ .busy := by rw [hrec]; cases j <;> simp [RN]
    have hend : (Instr.endLoop (w.heap.size + 1)).run P w3 = .ok j (w3.putObj (w.heap.size + 1) (.loop (rec .exhausted j))) := by
      have := run_endLoop (P := P) hj hst
      rw [hrec] at this ⊢
      exact this
    have hr' : Rel (marks (w.heap.size :: ds)) n { a with defers := [{ target := .collected w.heap.size, args := #[] }] ++ a.defers } e := ⟨hr.size, hr.get, by rw [hr.dfr]; rfl⟩
    refine ⟨j, _, hend, ?_⟩
    simp only [outL] at hout
    rcases hout with ⟨rfl, hk⟩ | hout
    · exact ⟨e, _, hr', A1.refl _ _, fun hf => (by cases hf), hk⟩
    · have go : ∀ (js : List Nat), outL j (Cj w3 (w.heap.size + 1) (.loop (rec .exhausted j))) (js.map fun x => (some (jmp x), match x with | 0 => KR e (w.heap.size :: ds) | i + 1 => KX i e (w.heap.size :: ds))) →
          ∃ x, j = some (jmp x) ∧ (match x with | 0 => KR e (w.heap.size :: ds) | i + 1 => KX i e (w.heap.size :: ds)) (Cj w3 (w.heap.size + 1) (.loop (rec .exhausted j))) := by
        intro js
        induction js with
        | nil => intro h; exact h.elim
        | cons x js ih =>
          intro h
          rcases h with ⟨h1, h2⟩ | h
          · exact ⟨x, h1, h2⟩
          · exact ih h
      obtain ⟨x, rfl, hk⟩ := go _ hout
      cases x with
      | zero => exact wpIn_ret ⟨e, _, hr', A1.refl _ _, fun hf => (by cases hf), hk⟩
      | succ i => exact wpIn_exit ⟨e, _, hr', A1.refl _ _, fun hf => (by cases hf), hk⟩
  · intro args w2 K hlen hready hrnd
    have hy : (Instr.yield (w.heap.size + 1) args.toArray).run P w2 = .ok (.round (w.heap.size + 1) fn ((ps.zip args.toArray).foldl (fun tmps (x : Nat × Value) => tmps.setIfInBounds x.1 x.2) a.tmps) assign body) w2 := by
      have := run_yield (P := P) (args := args.toArray) hready (by rw [hrec]; simp [hlen])
      rw [hrec] at this
      exact this
    refine ⟨w.heap.size + 1, fn, _, assign, body, rfl, hy, ?_⟩
    refine roundIn_of_wpIn trivial ?_
    have hr1 : Rel (marks []) n { tmps := a.tmps, defers := [] } e := ⟨hr.size, hr.get, rfl⟩
    have hr2 := XS args ps.toList 0 _ e _ hr1 hps (by simp [hlen])
    rw [List.drop_zero, ← AbW] at hr2
    refine wpIn_mono (ihA (some (w.heap.size + 1)) assign _ [] w2 _ _ _ _ (.inl hA) hcA hr2 hrnd) ?_
    intro x a1 w3 hx
    cases x with
    | normal =>
      obtain ⟨e1, ds1, hr3, _, hd1, hb, hk⟩ := hx
      obtain rfl := hd1 hA
      have hbeg : (Instr.beginRound (w.heap.size + 1)).run P w3 = .ok () (w3.putObj (w.heap.size + 1) (.loop (rec .busy none))) := by
        have := run_beginRound (P := P) hb (by rw [hrec])
        rw [hrec] at this ⊢
        exact this
      refine ⟨_, hbeg, ?_⟩
      refine wpIn_mono (ihB (some (w.heap.size + 1)) body _ [] _ _ _ _ _ (.inl hB) hcB hr3 hk) ?_
      have fin : ∀ (j : Option Code) (w5 : World), w5.heap[w.heap.size + 1]? = some (.loop (rec .busy none)) → K (.bool j.isNone) (Cj w5 (w.heap.size + 1) (.loop (rec (RN j) j))) →
          ∃ v w', (Instr.endRound (w.heap.size + 1) j).run P w5 = .ok v w' ∧ Ret K (.returned v) w' := fun j w5 h1 h2 => by
        have h3 : (Instr.endRound (w.heap.size + 1) j).run P w5 = .ok (.bool j.isNone) (w5.putObj (w.heap.size + 1) (.loop (rec (RN j) j))) := by
          have := run_endRound (P := P) j h1
          rw [hrec] at this ⊢
          exact this
        exact ⟨_, _, h3, _, rfl, h2⟩
      intro x a2 w5 hx
      cases x with
      | normal => obtain ⟨_, _, _, _, _, h1, h2⟩ := hx; exact fin none w5 h1 h2
      | exit i => obtain ⟨_, _, _, _, _, h1, h2⟩ := hx; exact fin (some (.exit i)) w5 h1 h2
      | ret => obtain ⟨_, _, _, _, _, h1, h2⟩ := hx; exact fin (some .ret) w5 h1 h2
      | _ => exact hx.elim
    | exit i => obtain ⟨_, _, _, _, _, h⟩ := hx; exact h.elim
    | ret => obtain ⟨_, _, _, _, _, h⟩ := hx; exact h.elim
    | _ => exact hx.elim
theorem Afl (hm : P.follows .mixedOrders = true) : ∀ (A : AnY), SndY P n A := by
  intro A
  induction A with
  | j slots A ih =>
    intro ro c e ds w a KN KX KR hn hc hr h
    have hc' : A.noF = true ∧ chkY P n A c = true := by cases c <;> simpa [chkY] using hc
    unfold Cn at h
    obtain ⟨k, hb, hrest⟩ := Gq h
    have h1 := ih ro c e ds w a _ KX KR (.inl hc'.1) hc'.2 hr hb
    refine wpIn_mono h1 ?_
    intro x a' w' hx
    cases x with
    | normal =>
      obtain ⟨e', ds', h2, h3, h5, h4⟩ := hx
      obtain rfl := h5 hc'.1
      obtain ⟨e'', he, hk⟩ := hrest e' w' h3 h4
      exact ⟨e'', ds', h2.congr fun t => (he t).symm, fun t ht => (he t).trans (h3 t ht), fun _ => rfl, hk⟩
    | _ => exact hx
  | s A B ihA ihB =>
    intro ro c e ds w a KN KX KR hn hc hr h
    have hn1 : A.noF = true ∨ ro = none := hn.imp (fun h => by simp only [AnY.noF, Bool.and_eq_true] at h; exact h.1) id
    have hn2 : B.noF = true ∨ ro = none := hn.imp (fun h => by simp only [AnY.noF, Bool.and_eq_true] at h; exact h.2) id
    have hfA : (AnY.s A B).noF = true → A.noF = true := fun h => by simp only [AnY.noF, Bool.and_eq_true] at h; exact h.1
    have hfB : (AnY.s A B).noF = true → B.noF = true := fun h => by simp only [AnY.noF, Bool.and_eq_true] at h; exact h.2
    cases c with
    | seq x y =>
      unfold Cn at h
      simp only [chkY, Bool.and_eq_true] at hc
      refine wpIn_seq (wpIn_mono (ihA ro x e ds w a _ KX KR hn1 hc.1 hr h) ?_)
      intro z a' w' hz
      cases z with
      | normal =>
        obtain ⟨e', ds', h1, h2, h4, h3⟩ := hz
        refine wpIn_mono (ihB ro y e' ds' w' a' KN KX KR hn2 hc.2 h1 h3) ?_
        exact KW.mono (fun t ht => by simp [writes, ht]) (h2.mono fun t ht => by simp [writes, ht]) (fun hf => ⟨hfB hf, h4 (hfA hf)⟩) (fun _ _ _ _ _ h => h) (fun _ _ _ _ h => h) (fun _ _ _ h => h)
      | exit i => obtain ⟨e', ds', h1, h2, h4, h3⟩ := hz; exact ⟨e', ds', h1, h2.mono fun t ht => by simp [writes, ht], fun hf => h4 (hfA hf), h3⟩
      | ret => obtain ⟨e', ds', h1, h2, h4, h3⟩ := hz; exact ⟨e', ds', h1, h2.mono fun t ht => by simp [writes, ht], fun hf => h4 (hfA hf), h3⟩
      | _ => exact hz
    | cond cn x y =>
      unfold Cn at h
      simp only [chkY, Bool.and_eq_true] at hc
      obtain ⟨b, hb, h1, h2⟩ := h
      refine wpIn_cond (t := b) (by rw [hr.eval]; exact hb) ?_
      cases b with
      | true => exact wpIn_mono (ihA ro x e ds w a KN KX KR hn1 hc.1 hr (h1 rfl)) (KW.mono (fun t ht => by simp [writes, ht]) (A1.refl _ _) (fun hf => ⟨hfA hf, rfl⟩) (fun _ _ _ _ _ h => h) (fun _ _ _ _ h => h) (fun _ _ _ h => h))
      | false => exact wpIn_mono (ihB ro y e ds w a KN KX KR hn2 hc.2 hr (h2 rfl)) (KW.mono (fun t ht => by simp [writes, ht]) (A1.refl _ _) (fun hf => ⟨hfB hf, rfl⟩) (fun _ _ _ _ _ h => h) (fun _ _ _ _ h => h) (fun _ _ _ h => h))
    | _ => unfold Cn at h; exact h.elim
  | b A ih =>
    intro ro c e ds w a KN KX KR hn hc hr h
    cases c with
    | block id x =>
      unfold Cn at h
      simp only [chkY] at hc
      refine wpIn_block (wpIn_mono (ih ro x e ds w a _ _ KR hn hc hr h) ?_)
      intro z a' w' hz
      cases z with
      | normal => exact hz
      | exit i =>
        obtain ⟨e', ds', h1, h2, h4, h3⟩ := hz
        cases hb : Nat.beq i id with
        | true =>
          obtain rfl := Nat.eq_of_beq_eq_true hb
          rw [hb] at h3
          simp only [Exit.inBlock, if_true]
          exact ⟨e', ds', h1, h2, h4, h3⟩
        | false =>
          rw [hb] at h3
          have hne : ¬ i = id := fun he => by rw [he, Nat.beq_refl] at hb; cases hb
          simp only [Exit.inBlock, hne, if_false]
          exact ⟨e', ds', h1, h2, h4, h3⟩
      | _ => exact hz
    | _ => unfold Cn at h; exact h.elim
  | l slots A ih =>
    intro ro c e ds w a KN KX KR hn hc hr h
    cases c with
    | loop x =>
      unfold Cn at h
      simp only [chkY, Bool.and_eq_true] at hc
      obtain ⟨I, μ, h0, hcongr, hbody⟩ := MX h
      refine wpIn_loop (fun a' w' => ∃ e', Rel (marks ds) n a' e' ∧ A1 (writes x) e e' ∧ I e' w') (fun a' w' => μ (fun t => a'.tmps.getD t undef) w') ⟨e, hr, A1.refl _ _, h0⟩ ?_
      rintro a1 w1 ⟨e1, hr1, ha1, hI⟩
      obtain ⟨e2, he2, hb⟩ := hbody e1 w1 ha1 hI
      refine wpIn_mono (ih ro x e2 ds w1 a1 _ KX KR (.inl hc.1) hc.2 (hr1.congr fun t => (he2 t).symm) hb) ?_
      have ha2 : A1 (writes x) e e2 := fun t ht => (he2 t).trans (ha1 t ht)
      intro z a' w' hz
      cases z with
      | normal =>
        obtain ⟨e', ds', h1, h2, h5, h3, h4⟩ := hz
        obtain rfl := h5 hc.1
        refine ⟨⟨e', h1, ha2.trans h2, h3⟩, ?_⟩
        have e3 := (hcongr (fun t => a'.tmps.getD t undef) e' w' h1.get).2
        have e4 := (hcongr (fun t => a1.tmps.getD t undef) e1 w1 hr1.get).2
        show μ (fun t => a'.tmps.getD t undef) w' < μ (fun t => a1.tmps.getD t undef) w1
        rw [e3, e4]
        exact h4
      | exit i => obtain ⟨e', ds', h1, h2, h5, h3⟩ := hz; exact ⟨e', ds', h1, ha2.trans h2, fun _ => h5 hc.1, h3⟩
      | ret => obtain ⟨e', ds', h1, h2, h5, h3⟩ := hz; exact ⟨e', ds', h1, ha2.trans h2, fun _ => h5 hc.1, h3⟩
      | _ => exact hz
    | _ => unfold Cn at h; exact h.elim
  | o =>
    intro ro c e ds w a KN KX KR hn hc hr h
    cases c with
    | skip => unfold Cn at h; exact wpIn_skip ⟨e, ds, hr, A1.refl _ _, fun _ => rfl, h⟩
    | ret => unfold Cn at h; exact wpIn_ret ⟨e, ds, hr, A1.refl _ _, fun _ => rfl, h⟩
    | exit i => unfold Cn at h; exact wpIn_exit ⟨e, ds, hr, A1.refl _ _, fun _ => rfl, h⟩
    | _ => unfold Cn at h; exact h.elim
  | c A =>
    intro ro c e ds w a KN KX KR hn hc hr h
    cases c with
    | region id ops draw =>
      unfold Cn at h
      simp only [chkY, Bool.and_eq_true] at hc
      obtain ⟨Q, h1, h2, h3⟩ := XM hc.1 hc.2.1 hr h
      refine wpIn_mono (h1.wpIn hm hc.2.2 h2) ?_
      intro x a' w' hx
      have hp := h3 x a' w' hx
      cases x with
      | normal => obtain ⟨e', h4, h5, h6⟩ := hp; exact ⟨e', ds, h4, h5, fun _ => rfl, h6⟩
      | exit i => obtain ⟨e', h4, h5, h6⟩ := hp; exact h6.elim
      | ret => obtain ⟨e', h4, h5, h6⟩ := hp; exact h6.elim
      | _ => exact hp
    | _ => unfold Cn at h; exact h.elim
  | y =>
    intro ro c e ds w a KN KX KR hn hc hr h
    cases c with
    | region id ops draw =>
      cases draw with
      | true => unfold Cn at h; exact h.elim
      | false =>
        unfold Cn at h
        simp only [chkY, Bool.and_eq_true] at hc
        exact wpIn_region (OB hc.1 hc.2 _ a e w _ hr h fun a' e' w' hr' ha hk => ⟨e', ds, hr', ha, fun _ => rfl, hk⟩)
    | _ => unfold Cn at h; exact h.elim
  | d A =>
    intro ro c e ds w a KN KX KR hn hc hr h
    cases c with
    | region id ops draw =>
      cases draw with
      | false => unfold Cn at h; exact h.elim
      | true =>
        unfold Cn at h
        simp only [chkY, Bool.and_eq_true] at hc
        obtain ⟨c1, c2, c3, c4, c5⟩ := hc
        unfold Abf at c5
        simp only [Bool.and_eq_true, List.all_eq_true] at c5
        obtain ⟨d1, d2, d3, d4⟩ := c5
        have h2 : 2 ≤ ops.size := Nat.le_of_ble_eq_true d1
        obtain ⟨QA, h1, hLQ, h3⟩ := XM c1 c2 hr h
        have hsz := Agh h2
        have hg : ∀ (i : Nat) (o : Oper), ops[i]? = some o → o.guard = none := fun i o ho => by
          have hi := (Array.getElem?_eq_some_iff.1 ho).1
          have := d4 i (List.mem_range.2 hi)
          rw [ho] at this
          simpa using this
        have hall : ∀ l : List Bool, l.length = ops.size - 2 → Qv ops l = true := fun l hl => d2 l (hl ▸ Aa2 l)
        refine wpIn_region_any hm ?_
        have h4 : wpAny P .any (opsA ops) QA (ops.size - 2) (List.replicate (ops.size - 2) false).toArray a { w with drawn := w.drawn + 1 } := by
          have h5 := h1
          unfold GE at h5
          simp only [hsz] at h5
          have e : Array.replicate (ops.size - 2) false = (List.replicate (ops.size - 2) false).toArray := by simp
          rw [e] at h5
          exact h5
        have h6 := Af5 (ro := ro) (Q' := KW (AnY.d A).noF ds n (writes (.region id ops true)) e KN KX KR) h2 hall hg c3 hLQ (fun x a' w' hx hq => ?_) (fun a' w' hq => ?_) (ops.size - 2) (List.replicate (ops.size - 2) false) a _ (by simp) d3 h4
        · have e1 : (List.replicate (ops.size - 2) false ++ [false, false]).toArray = Array.replicate ops.size false := by
            apply Array.ext'
            rw [Array.toList_replicate]
            show List.replicate (ops.size - 2) false ++ List.replicate 2 false = _
            rw [List.replicate_append_replicate]
            congr 1
            omega
          rw [e1, show ops.size - 2 + 2 = ops.size by omega] at h6
          exact h6
        · have hp := h3 x a' w' hq
          cases x with
          | normal => exact absurd rfl hx
          | exit i => obtain ⟨e', _, _, h6⟩ := hp; exact h6.elim
          | ret => obtain ⟨e', _, _, h6⟩ := hp; exact h6.elim
          | _ => exact hp
        · obtain ⟨e', r1, r2, r3⟩ := h3 .normal a' w' hq
          refine OB c4 c3 _ a' e' w' _ r1 r3 fun a2 e2 w2 hr2 ha2 hk2 => ⟨e2, ds, hr2, ?_, fun _ => rfl, hk2⟩
          refine (r2.mono fun t ht => ?_).trans (ha2.mono fun t ht => ?_)
          · obtain ⟨i, hi, hti⟩ := List.mem_filterMap.1 ht
            have hi := List.mem_range.1 hi
            rw [hsz] at hi
            refine List.mem_filterMap.2 ⟨i, List.mem_range.2 (by omega), ?_⟩
            unfold Ia at hti ⊢
            rwa [Z8 hi] at hti
          · obtain ⟨i, hi, hti⟩ := List.mem_filterMap.1 ht
            refine List.mem_filterMap.2 ⟨i, List.mem_range.2 ?_, hti⟩
            simp only [List.mem_cons, List.not_mem_nil, or_false] at hi
            omega
    | _ => unfold Cn at h; exact h.elim
  | f A B ihA ihB =>
    intro ro c e ds w a KN KX KR hn hc hr h
    obtain rfl : ro = none := hn.resolve_left (by simp [AnY.noF])
    cases c with
    | rangeFunc g ps assign body =>
      simp only [chkY, Bool.and_eq_true] at hc
      obtain ⟨⟨hA, hB⟩, ⟨hcA, hcB⟩, hps⟩ := hc
      exact AfV ihA ihB hA hB hcA hcB hps hr h
    | _ => unfold Cn at h; exact h.elim
def retY (P : Program) (rs : List ResultVar) (R : Value → World → Prop) : KY := fun e ds w => RP ds w fun w' => retK P rs R e w'
theorem Q3 {fn : Func} {tmps : Array Value} {R : Ending → World → Prop} : ∀ (ds : List Nat) (w : World) (K : World → Prop), RP ds w K →
    (∀ w', K w' → ∃ v, (results fn tmps).run P w' = .ok v w' ∧ R (.returned v) w') → LeavesInM (Fw none) 0 P fn tmps R (marks ds) .returning w
  | [], w, K, h, hk => hk w h
  | D :: ds, w, K, ⟨h1, h2⟩, hk => by
    refine ⟨by simp, .inl ⟨D, _, rfl, run_takeDeferred h1, ?_⟩⟩
    exact Q3 ds _ K h2 hk
theorem Afe {f : FuncId} {fn : Func} {c : Code} {A : AnY} {args : List Value} {w : World} {R : Value → World → Prop} (hm : P.follows .mixedOrders = true)
    (hf : P.funcs[f]? = some fn) (hb : fn.body = some c) (hn : Nat.ble args.length fn.ntmps = true) (hc : chkY P fn.ntmps A c = true)
    (h : Cn P A c (ini args) [] w (retY P fn.results.toList R) (fun _ _ _ _ => False) (retY P fn.results.toList R)) : Calls P f args.toArray w (Ret R) := by
  refine (Oj (ro := none) (n := 0)).1 (callsIn_of_wp_marks hf hb trivial ?_)
  have hle := Nat.le_of_ble_eq_true hn
  have hr : Rel (marks []) fn.ntmps { tmps := args.toArray ++ Array.replicate (fn.ntmps - args.toArray.size) undef, defers := [] } (ini args) := by
    refine ⟨by simp; omega, fun t => ?_, rfl⟩
    rw [Xu]
    simp only [Array.getD_eq_getD_getElem?, Array.getElem?_append, List.getD_eq_getElem?_getD]
    by_cases ht : t < args.length
    · simp [ht]
    · have h1 : args[t]? = none := List.getElem?_eq_none (by omega)
      simp [ht, Array.getElem?_replicate]
      split <;> rfl
  refine wpIn_mono (Afl hm A none c _ [] w _ _ _ _ (.inr rfl) hc hr h) ?_
  have fin : ∀ (a' : Act) (w' : World) (e' : Env) (ds' : List Nat), Rel (marks ds') fn.ntmps a' e' → retY P fn.results.toList R e' ds' w' → LeavesInM (Fw none) 0 P fn a'.tmps (Ret R) a'.defers .returning w' := fun a' w' e' ds' h1 h2 => by
    rw [h1.dfr]
    refine Q3 ds' w' _ h2 fun w2 h3 => ?_
    obtain ⟨v, hv, hR⟩ := J9 h1 h3
    exact ⟨v, hv, v, rfl, hR⟩
  intro z a' w' hz
  cases z with
  | normal => obtain ⟨e', ds', h1, h2, h4, h3⟩ := hz; exact fin a' w' e' ds' h1 h3
  | ret => obtain ⟨e', ds', h1, h2, h4, h3⟩ := hz; exact fin a' w' e' ds' h1 h3
  | exit i => obtain ⟨e', ds', h1, h2, h4, h3⟩ := hz; exact h3
  | _ => exact hz.elim
end
end Go.Fx
