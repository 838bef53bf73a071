/-
  Structs in memory: fields that are loaded and stored, rows of slices, values built, equality.
-/
import Derived.Test.YticmbeincpaaeaaDoorFxT
import Derived.Laws.Tables
import Derived.Laws.StructEq
set_option linter.unusedVariables false
set_option linter.unusedSimpArgs false
namespace Go.Fx
/-- One cell, whatever it is. -/
def qv : Rdr Value where
  size := 1
  cells v := [v]
  ok _ v := v.oneCell' = true
  len _ := rfl
  one h u hu := by simp at hu; subst hu; exact h
  fr h _ := h
/-- A row of so many cells. -/
def qvs (n : Nat) : Rdr {l : List Value // l.length = n} where
  size := n
  cells l := l.1
  ok _ l := ∀ u ∈ l.1, u.oneCell' = true
  len l := l.2
  one h := h
  fr h _ := h
def vz (n : Nat) : Vec n := ⟨List.replicate n 0, List.length_replicate⟩
/-- A field of a struct: where it stands, what it is, the struct with another one. -/
structure Fld {α β : Type} (r : Rdr α) (s : Rdr β) (off : Nat) (get : α → β) (set : α → β → α) : Prop where
  spec : ∀ a b, ∃ pre post, r.cells a = pre ++ s.cells (get a) ++ post ∧ r.cells (set a b) = pre ++ s.cells b ++ post ∧ pre.length = off
theorem Fld.self {α : Type} {r : Rdr α} : Fld r r 0 (fun a => a) (fun _ b => b) := ⟨fun a b => ⟨[], [], by simp, by simp, rfl⟩⟩
theorem Fld.fst {α β γ : Type} {r : Rdr α} {s : Rdr β} {q : Rdr γ} {off : Nat} {get : α → β} {set : α → β → α} (f : Fld r s off get set) : Fld (r.pair q) s off (fun a => get a.1) (fun a b => (set a.1 b, a.2)) :=
  ⟨fun a b => by
    obtain ⟨pre, post, h1, h2, h3⟩ := f.spec a.1 b
    exact ⟨pre, post ++ q.cells a.2, by simp [Rdr.pair, h1], by simp [Rdr.pair, h2], h3⟩⟩
theorem Fld.snd {α β γ : Type} {r : Rdr α} {s : Rdr β} {q : Rdr γ} {off : Nat} {get : α → β} {set : α → β → α} (f : Fld r s off get set) : Fld (q.pair r) s (q.size + off) (fun a => get a.2) (fun a b => (a.1, set a.2 b)) :=
  ⟨fun a b => by
    obtain ⟨pre, post, h1, h2, h3⟩ := f.spec a.2 b
    exact ⟨q.cells a.1 ++ pre, post, by simp [Rdr.pair, h1], by simp [Rdr.pair, h2], by rw [List.length_append, q.len, h3]⟩⟩
/-- Cells that stand at a place of a block. -/
def At (h : Heap) (g o : Nat) (cs : List Value) : Prop := ∃ cur t fr, h[g]? = some (.cells cur t fr) ∧ o + cs.length ≤ cur.size ∧ (cur.toList.drop o).take cs.length = cs
theorem At.blk {h : Heap} {g : Nat} {cs : List Value} {t : TypeId} {fr : Nat × Nat} (hg : h[g]? = some (.cells cs.toArray t fr)) : At h g 0 cs := ⟨_, t, fr, hg, by simp, by simp⟩
theorem At.part {h : Heap} {g o k : Nat} {pre mid post : List Value} (ha : At h g o (pre ++ mid ++ post)) (hk : pre.length = k) : At h g (o + k) mid := by
  obtain ⟨cur, t, fr, hg, hn, hc⟩ := ha
  subst hk
  simp only [List.length_append] at hn hc
  refine ⟨cur, t, fr, hg, by omega, ?_⟩
  have : (((cur.toList.drop o).take (pre.length + mid.length + post.length)).drop pre.length).take mid.length = mid := by
    rw [hc, List.append_assoc, List.drop_left' rfl, List.take_left' rfl]
  rw [List.drop_take, List.drop_drop, List.take_take, Nat.min_eq_left (by omega)] at this
  exact this
theorem At.ldN {h : Heap} {g o n : Nat} {cs : List Value} (ha : At h g o cs) (hn : cs.length = n) (K : Value → Prop) : ldN n (.pointer (some ⟨g, o, none⟩)) h K = K (.agg cs.toArray) := by
  obtain ⟨cur, t, fr, hg, hl, hc⟩ := ha
  subst hn
  rw [ldN_eq hg]
  have e : cur.extract o (o + cs.length) = cs.toArray := by
    apply Array.ext'
    rw [Array.toList_extract]
    simp only [List.extract_eq_take_drop]
    rw [Nat.add_sub_cancel_left, hc]
  rw [e]
  exact propext ⟨fun h => h.2, fun h => ⟨hl, h⟩⟩
theorem At.ld1 {h : Heap} {g o : Nat} {v : Value} (ha : At h g o [v]) (K : Value → Prop) : ld1 (.pointer (some ⟨g, o, none⟩)) h K = K v := by
  obtain ⟨cur, t, fr, hg, hl, hc⟩ := ha
  rw [ld1_eq hg]
  have e : cur[o]? = some v := by
    have : ((cur.toList.drop o).take 1)[0]? = some v := by
      have := congrArg (·[0]?) hc
      simpa using this
    rw [List.getElem?_take_of_lt (by omega)] at this
    simpa using this
  rw [e]
  exact ex_some v K
section
variable {α β : Type} {r : Rdr α} {s : Rdr β} {off : Nat} {get : α → β} {set : α → β → α} {h : Heap} {g o : Nat} {a : α} {t : TypeId} {fr : Nat × Nat}
theorem Fld.at (f : Fld r s off get set) (ha : At h g o (r.cells a)) : At h g (o + off) (s.cells (get a)) := by
  obtain ⟨pre, post, h1, _, h3⟩ := f.spec a (get a)
  rw [h1] at ha
  exact ha.part h3
theorem Fld.ldN (f : Fld r s off get set) (hg : h[g]? = some (.cells (r.cells a).toArray t fr)) (K : Value → Prop) : ldN s.size (.pointer (some ⟨g, off, none⟩)) h K = K (.agg (s.cells (get a)).toArray) := by
  have := (f.at (At.blk hg)).ldN (s.len _) K
  rwa [Nat.zero_add] at this
theorem Fld.ld1 {get : α → Value} {set : α → Value → α} (f : Fld r qv off get set) (hg : h[g]? = some (.cells (r.cells a).toArray t fr)) (K : Value → Prop) : ld1 (.pointer (some ⟨g, off, none⟩)) h K = K (get a) := by
  have := (f.at (At.blk hg)).ld1 K
  rwa [Nat.zero_add] at this
theorem Fld.ldNA (f : Fld r s off get set) (hg : At h g o (r.cells a)) (K : Value → Prop) : Go.Fx.ldN s.size (.pointer (some ⟨g, o + off, none⟩)) h K = K (.agg (s.cells (get a)).toArray) := (f.at hg).ldN (s.len _) K
theorem Fld.ld1A {get : α → Value} {set : α → Value → α} (f : Fld r qv off get set) (hg : At h g o (r.cells a)) (K : Value → Prop) : Go.Fx.ld1 (.pointer (some ⟨g, o + off, none⟩)) h K = K (get a) := (f.at hg).ld1 K
end
theorem splice_mid {pre mid post new : List Value} {o : Nat} (ho : pre.length = o) (hl : new.length = mid.length) : splice (pre ++ mid ++ post).toArray o new = (pre ++ new ++ post).toArray := by
  subst ho
  apply Array.ext'
  simp only [splice, List.append_assoc, List.take_left' rfl]
  rw [← List.drop_drop, List.drop_left' rfl, List.drop_left' hl.symm]
section
variable {α β : Type} {r : Rdr α} {s : Rdr β} {off : Nat} {get : α → β} {set : α → β → α} {g : Nat} {a : α} {t : TypeId} {w0 w : World} {As : List Asn} {K : World → Prop}
theorem Fld.stN (f : Fld r s off get set) {b : β} (hs : Sep w0 w (blk g (r.cells a).toArray t :: As)) (h1 : ∀ u ∈ s.cells b, u.oneCell' = true)
    (h : ∀ w', Sep w0 w' (blk g (r.cells (set a b)).toArray t :: As) → K w') : Go.Fx.stN s.size (.pointer (some ⟨g, off, none⟩)) (.agg (s.cells b).toArray) w K := by
  obtain ⟨pre, post, e1, e2, e3⟩ := f.spec a b
  have hl := s.len b
  have hl2 := s.len (get a)
  rw [e1] at hs
  rw [e2] at h
  refine stN_s hs (by simpa using hl) (by simp; omega) (by simpa using h1) fun w' hs' => h w' ?_
  have := splice_mid (post := post) e3 (show (s.cells b).length = (s.cells (get a)).length by omega)
  simp only [this] at hs'
  exact hs'
theorem Fld.st1 {get : α → Value} {set : α → Value → α} (f : Fld r qv off get set) {b : Value} (hs : Sep w0 w (blk g (r.cells a).toArray t :: As)) (h1 : b.oneCell' = true)
    (h : ∀ w', Sep w0 w' (blk g (r.cells (set a b)).toArray t :: As) → K w') : Go.Fx.st1 (.pointer (some ⟨g, off, none⟩)) b w K := by
  obtain ⟨pre, post, e1, e2, e3⟩ := f.spec a b
  rw [e1] at hs
  rw [e2] at h
  refine st1_s hs (by simp [qv]; omega) h1 fun w' hs' => h w' ?_
  have e : (pre ++ qv.cells (get a) ++ post).toArray.setIfInBounds off b = (pre ++ qv.cells b ++ post).toArray := by
    apply Array.ext'
    subst e3
    simp [qv, List.set_append]
  rw [e] at hs'
  exact hs'
end

/-! ### Rows of slices -/
section
variable {α β : Type} {q : Rdr α} {w0 w : World} {As : List Asn}
/-- A slice that reads as these rows. -/
def Rows' (q : Rdr α) (h : Heap) (v : Value) (l : List α) : Prop := Cel h v q.size l.length (l.flatMap q.cells)
theorem Rows'.fr {w w' : World} {v : Value} {l : List α} (h : Rows' q w.heap v l) (hf : Fr [] w w') : Rows' q w'.heap v l := Cel.fr h hf (off_nil _)
theorem Rows'.len {h : Heap} {v : Value} {l : List α} (hr : Rows' q h v l) (K : Value → Prop) : lenS v K = K (.int .i64 l.length) := by
  obtain ⟨a, c, rfl, _⟩ := hr
  exact lenS_mk a _ c K
/-- A slice of rows that the call owns. -/
def rows (q : Rdr α) (v : Value) (l : List α) : Asn := own v q.size l.length (l.flatMap q.cells)
theorem Sep.rows {v : Value} {l : List α} (h : Sep w0 w (rows q v l :: As)) : Rows' q w.heap v l := Sep.cel h
theorem At.of {h : Heap} {g o n c : Nat} {l : List α} {j : Nat} {a : α} (hp : 0 < q.size) (hc : Cel h (.slice (some ⟨g, o, none⟩) n c) q.size l.length (l.flatMap q.cells)) (hj : l[j]? = some a) : At h g (o + j * q.size) (q.cells a) := by
  obtain ⟨a', c', hv, hl, hh⟩ := hc
  cases hv
  have hlt := (List.getElem?_eq_some_iff.1 hj).1
  have hb : j * q.size + q.size ≤ l.length * q.size := by rw [← Nat.succ_mul]; exact Nat.mul_le_mul_right _ hlt
  rcases hh with h0 | ⟨g', o', cur, t, fr, ha, hg, hcs⟩
  · omega
  · cases ha
    have hlen := congrArg List.length hcs
    simp only [List.length_take, List.length_drop, Array.length_toList] at hlen
    refine ⟨cur, t, fr, hg, by rw [q.len]; omega, ?_⟩
    have hp := part_at q.len hj
    rw [← hcs] at hp
    rw [q.len]
    rw [List.drop_take, List.drop_drop, List.take_take, Nat.min_eq_left (by omega)] at hp
    exact hp
/-- What has an element stands somewhere. -/
theorem Rows'.form {h : Heap} {v : Value} {l : List α} {j : Nat} {a : α} (hp : 0 < q.size) (hr : Rows' q h v l) (hj : l[j]? = some a) : ∃ g o c, v = .slice (some ⟨g, o, none⟩) l.length c := by
  obtain ⟨a', c', hv, hl, hh⟩ := hr
  have hlt := (List.getElem?_eq_some_iff.1 hj).1
  have hb : 0 < l.length * q.size := Nat.mul_pos (by omega) hp
  rcases hh with h0 | ⟨g', o', cur, t, fr, ha, hg, hcs⟩
  · omega
  · exact ⟨g', o', c', by rw [hv, ha]⟩
/-- 'l[j]': its address, and what stands there. -/
theorem Rows'.ix {h : Heap} {v : Value} {l : List α} {j : Nat} {a : α} (hp : 0 < q.size) (hr : Rows' q h v l) (hj : l[j]? = some a) : ∃ g o, At h g o (q.cells a) ∧ ∀ (k : IntKind) (K : Value → Prop), ixs q.size v (.int k (j : Int)) K = K (.pointer (some ⟨g, o, none⟩)) := by
  obtain ⟨g, o, c, rfl⟩ := hr.form hp hj
  have hlt := (List.getElem?_eq_some_iff.1 hj).1
  exact ⟨g, o + j * q.size, At.of hp hr hj, fun k K => by rw [ixs_mk _ _ _ _ _ _ _ _ (by omega) (by omega), Int.toNat_natCast]⟩
/-- 'l[j]', all its cells. -/
theorem Rows'.ldN {v : Value} {l : List α} {j : Nat} {a : α} (hp : 0 < q.size) (hr : Rows' q w.heap v l) (hj : l[j]? = some a) (k : IntKind) {K : Value → Prop} (h : K (.agg (q.cells a).toArray)) :
    ixs q.size v (.int k (j : Int)) fun t => ldN q.size t w.heap K := by
  obtain ⟨g, o, ha, hx⟩ := hr.ix hp hj
  rw [hx, ha.ldN (q.len _)]
  exact h
theorem Rows'.ld1 {q : Rdr Value} {v : Value} {l : List Value} {j : Nat} {a : Value} (hr : Rows' qv w.heap v l) (hj : l[j]? = some a) (k : IntKind) {K : Value → Prop} (h : K a) :
    ixs 1 v (.int k (j : Int)) fun t => ld1 t w.heap K := by
  obtain ⟨g, o, ha, hx⟩ := hr.ix (by decide) hj
  have hx' : ∀ K, ixs 1 v (.int k (j : Int)) K = K (.pointer (some ⟨g, o, none⟩)) := hx k
  rw [hx', At.ld1 ha]
  exact h
theorem flatMap_set {l : List α} {j : Nat} {a b : α} (hj : l[j]? = some a) : ∃ pre post, l.flatMap q.cells = pre ++ q.cells a ++ post ∧ (l.set j b).flatMap q.cells = pre ++ q.cells b ++ post ∧ pre.length = j * q.size := by
  have hlt := (List.getElem?_eq_some_iff.1 hj).1
  refine ⟨(l.take j).flatMap q.cells, (l.drop (j + 1)).flatMap q.cells, ?_, ?_, ?_⟩
  · conv => lhs; rw [← List.take_append_drop j l, List.drop_eq_getElem_cons hlt]
    have : l[j] = a := by rw [List.getElem?_eq_getElem hlt] at hj; simpa using hj
    rw [List.flatMap_append, List.flatMap_cons, this, List.append_assoc]
  · rw [List.set_eq_take_append_cons_drop, if_pos hlt, List.flatMap_append, List.flatMap_cons, List.append_assoc]
  · rw [parts_length q.len, List.length_take, Nat.min_eq_left (by omega)]
/-- A store in a row's field. -/
theorem rows_st1 {off : Nat} {get : α → Value} {set : α → Value → α} (f : Fld q qv off get set) {g o c j : Nat} {l : List α} {a : α} {b : Value} {K : World → Prop} (hs : Sep w0 w (Go.Fx.rows q (.slice (some ⟨g, o, none⟩) l.length c) l :: As)) (hj : l[j]? = some a)
    (h1 : b.oneCell' = true) (h : ∀ w', Sep w0 w' (Go.Fx.rows q (.slice (some ⟨g, o, none⟩) l.length c) (l.set j (set a b)) :: As) → K w') : st1 (.pointer (some ⟨g, o + j * q.size + off, none⟩)) b w K := by
  obtain ⟨F, ho, hu⟩ := hs.upd
  have hlt := (List.getElem?_eq_some_iff.1 hj).1
  obtain ⟨pre, post, e1, e2, e3⟩ := f.spec a b
  obtain ⟨pre', post', d1, d2, d3⟩ := flatMap_set (q := q) (b := set a b) hj
  have hsz : q.size = pre.length + 1 + post.length := by rw [← q.len a, e1]; simp [qv]; omega
  have hb : j * q.size + q.size ≤ l.length * q.size := by rw [← Nat.succ_mul]; exact Nat.mul_le_mul_right _ hlt
  obtain ⟨hl, ⟨hv, _⟩ | ⟨g', o', cap, cur, E, hv, hn, hg, hfit, hcs, rfl⟩⟩ := ho
  · cases hv
  · cases hv
    have hcap : l.length * q.size ≤ c * q.size := Nat.mul_le_mul_right _ hn
    refine st1_i hg (by omega) h1 fun w' hg' hf => h w' ?_
    have hll : (l.set j (set a b)).length = l.length := by simp
    refine hu w' [g] _ ?_ hf (Grew.refl _ _)
    show Own w'.heap _ q.size (l.set j (set a b)).length _ [g]
    rw [hll]
    refine ⟨by rw [parts_length q.len, hll], .inr ⟨g, o, c, _, E, rfl, hn, hg', by simpa using hfit, ?_, rfl⟩⟩
    rw [d2, e2]
    rw [d1, e1] at hcs
    simp only [Array.toList_setIfInBounds]
    rw [List.drop_set, if_neg (by omega), List.take_set, hcs]
    have e : o + j * q.size + off - o = (pre' ++ pre).length := by simp; omega
    rw [e, show pre' ++ (pre ++ qv.cells (get a) ++ post) ++ post' = (pre' ++ pre) ++ ([get a] ++ (post ++ post')) by simp [qv], List.set_append_right _ _ (Nat.le_refl _), Nat.sub_self]
    simp [qv]
theorem rows_app {P : Program} {t tx ty E bytes : Nat} {d : TypeDesc} {s x : Value} {l m : List α} {K : Value → World → Prop}
    (hT : SlT P t E q.size bytes) (hx : P.underlying tx = some d) (hd : ∀ k, d ≠ .int k) (hs : Sep w0 w (Go.Fx.rows q s l :: As)) (hn : Rows' q w.heap x m) (h1 : ∀ u ∈ m.flatMap q.cells, u.oneCell' = true)
    (hb : (l.length + m.length) * bytes ≤ 140737488355328) (h63 : l.length + m.length ≤ 9223372036854775807)
    (h : ∀ v' w', Sep w0 w' (Go.Fx.rows q v' (l ++ m) :: As) → K v' w') : efP P (Builtin.append_ #[t, tx] ty #[s, x]) w K := by
  refine app_s hT hx hd hs hn h1 hb h63 fun v' w' hs' => h v' w' ?_
  unfold Go.Fx.rows
  rw [List.length_append, List.flatMap_append]
  exact hs'
theorem Sep.nilR (h : Sep w0 w As) : Sep w0 w (Go.Fx.rows q (.slice none 0 0) [] :: As) := h.nilN q.size
theorem rows_build {P : Program} {s : Sem Value} {l : List α} {E n : Nat} {K : Value → World → Prop} (hs : Sep w0 w As) (hn : n = l.length)
    (hr : s.run P w = .ok (.slice (some ⟨w.heap.size, 0, none⟩) n n) (w.alloc (.cells (l.flatMap q.cells).toArray E)))
    (h : ∀ g w', Sep w0 w' (Go.Fx.rows q (.slice (some ⟨g, 0, none⟩) n n) l :: As) → K (.slice (some ⟨g, 0, none⟩) n n) w') : efP P s w K := by
  subst hn
  exact build_s (size := q.size) hs (parts_length q.len l) hr h
theorem Sep.formR {v : Value} {l : List α} (h : Sep w0 w (Go.Fx.rows q v l :: As)) : ∃ a c, v = .slice a l.length c ∧ l.length ≤ c := by
  obtain ⟨F, hl, ⟨rfl, h0, rfl⟩ | ⟨g, o, cap, cur, E, rfl, hn, hg, hfit, hc, rfl⟩⟩ := h.head
  · exact ⟨none, 0, by rw [h0], by omega⟩
  · exact ⟨_, cap, rfl, hn⟩
theorem Sep.oneR {v : Value} {l : List α} (h : Sep w0 w (Go.Fx.rows q v l :: As)) : v.oneCell' = true := by obtain ⟨a, c, rfl, _⟩ := h.formR; rfl
end

/-! ### Values that are built -/
theorem foldl_set : ∀ (cs : List Value) (k off : Nat) (cur : Array Value), off + k + cs.length ≤ cur.size → (cs.zipIdx k).foldl (fun c (x : Value × Nat) => c.setIfInBounds (off + x.2) x.1) cur = splice cur (off + k) cs
  | [], k, off, cur, _ => by apply Array.ext'; simp [splice]
  | c :: cs, k, off, cur, h => by
    rw [List.zipIdx_cons, List.foldl_cons, foldl_set cs (k + 1) off _ (by simp at h ⊢; omega)]
    apply Array.ext'
    simp only [splice, Array.toList_setIfInBounds, List.length_cons] at h ⊢
    have h' : off + k < cur.toList.length := by simp at h ⊢; omega
    rw [show off + (k + 1) = off + k + 1 by omega, List.take_add_one, List.take_set_of_le (Nat.le_refl _), List.getElem?_set_self h', List.drop_set_of_lt (by omega)]
    simp [Nat.add_assoc, Nat.add_comm 1]
theorem fill_step {α β : Type} {r : Rdr α} {s : Rdr β} {off : Nat} {get : α → β} {set : α → β → α} (f : Fld r s off get set) {place : Nat → Option (Nat × Nat)} {i : Nat} {a : α} {b : β} {v : Value} {rest : List (Nat × Value)}
    (hp : place i = some (off, s.size)) (hv : v.cells = (s.cells b).toArray) : Instr.fill place (r.cells a).toArray ((i, v) :: rest) = Instr.fill place (r.cells (set a b)).toArray rest := by
  obtain ⟨pre, post, e1, e2, e3⟩ := f.spec a b
  have hl := s.len b
  have hl2 := s.len (get a)
  have hsz : v.cells.size = s.size := by rw [hv]; simpa using hl
  have hn : ¬ ((v.cells.size ≠ s.size) || decide (off + v.cells.size > (r.cells a).toArray.size)) = true := by
    simp [hsz, e1]; omega
  rw [Instr.fill, hp]
  simp only
  rw [if_neg (by simpa using hn)]
  have : (v.cells.zipIdx.foldl (fun cs x => cs.setIfInBounds (off + x.2) x.1) (r.cells a).toArray) = (r.cells (set a b)).toArray := by
    rw [hv]
    have h1 := foldl_set (s.cells b) 0 off (r.cells a).toArray (by simp [e1]; omega)
    rw [Nat.add_zero] at h1
    have h2 := splice_mid (post := post) e3 (show (s.cells b).length = (s.cells (get a)).length by omega)
    rw [e2, ← h2, ← e1, ← h1]
    simp [← Array.foldl_toList]
  rw [← this]
theorem rd_build {P : Program} {t : TypeId} {α : Type} {r : Rdr α} {a : α} {parts : Array (Nat × Value)} {w : World} (h : P.built t parts.toList = some (r.cells a).toArray) (K : Value → Prop) : rdP P (Instr.build t parts) w K = K (.agg (r.cells a).toArray) :=
  rdP_eq (run_build w t parts _ h) K
theorem built_struct {P : Program} {t : TypeId} {α : Type} {r : Rdr α} {a0 : α} {places : Array (Nat × Nat)} {parts : List (Nat × Value)} {fs : Array Field}
    (hi : ((P.info? t).bind fun it => it.zero.map fun z => z.cells) = some (r.cells a0).toArray) (hu : P.underlying t = some (.struct fs)) (hp : (fs.toList.mapM fun f => (P.info? f.type).map fun i => (f.offset, i.size)) = some places.toList) :
    P.built t parts = Instr.fill (places[·]?) (r.cells a0).toArray parts := by
  unfold Program.built
  cases hit : P.info? t with
  | none => simp [hit] at hi
  | some it =>
    cases hz : it.zero with
    | none => simp [hit, hz] at hi
    | some z =>
      simp [hit, hz] at hi
      simp [hu, hp, hz, hi]

/-! ### Equality -/
def vOf (ag : Bool) (cs : List Value) : Value := bif ag then .agg cs.toArray else cs.headD undef
/-- Values of a type are compared as what they read as. -/
structure EqT (P : Program) (t : TypeId) {α : Type} (r : Rdr α) [DecidableEq α] (ag : Bool) (dep : Nat) : Prop where
  agg : aggr P t = some ag
  siz : size? P t = some r.size
  one : ag = false → r.size = 1
  eq : ∀ (d : Nat), dep ≤ d → ∀ (w : World) (a b : α), (Op.equalIn d t (vOf ag (r.cells a)) (vOf ag (r.cells b))).run P w = .ok (decide (a = b)) w
section
variable {P : Program}
theorem eqT_int {t : TypeId} {k : IntKind} (hu : P.underlying t = some (.int k)) (hs : size? P t = some 1) : EqT P t (rInt k) false 1 where
  agg := by simp [aggr, hu]
  siz := hs
  one _ := rfl
  eq d hd w a b := by
    obtain ⟨d, rfl⟩ : ∃ e, d = e + 1 := ⟨d - 1, by omega⟩
    simp [vOf, rInt, Op.equalIn, run_underlying hu]
    by_cases h : a = b <;> simp [h]
theorem eqT_bool {t : TypeId} (hu : P.underlying t = some .bool) (hs : size? P t = some 1) : EqT P t rBool false 1 where
  agg := by simp [aggr, hu]
  siz := hs
  one _ := rfl
  eq d hd w a b := by
    obtain ⟨d, rfl⟩ : ∃ e, d = e + 1 := ⟨d - 1, by omega⟩
    simp [vOf, rBool, Op.equalIn, run_underlying hu]
    cases a <;> cases b <;> rfl
theorem runPart {t : TypeId} {α : Type} {r : Rdr α} [DecidableEq α] {ag : Bool} {dep : Nat} (h : EqT P t r ag dep) {xs : Array Value} {off : Nat} {a : α} {rest : List Value} (hx : xs.toList.drop off = r.cells a ++ rest) (w : World) :
    (part t xs off).run P w = .ok (vOf ag (r.cells a)) w := by
  have hl := r.len a
  have hlen := congrArg List.length hx
  simp only [List.length_drop, Array.length_toList, List.length_append, hl] at hlen
  unfold part
  have hag := h.agg
  cases ag with
  | true =>
    have e : xs.extract off (off + r.size) = (r.cells a).toArray := by
      apply Array.ext'
      rw [Array.toList_extract]
      simp only [List.extract_eq_take_drop]
      rw [Nat.add_sub_cancel_left, hx, List.take_left' hl]
    have hn : r.size = 0 ∨ off + r.size ≤ xs.size := by omega
    rcases hn with h0 | h0
    · rw [h0, Nat.add_zero] at e
      simp [run_isAgg hag, run_sizeOf h.siz, h0, vOf]
      rw [e]
    · simp [run_isAgg hag, run_sizeOf h.siz, e, vOf]
  | false =>
    have h1 := h.one rfl
    obtain ⟨v, hv⟩ : ∃ v, r.cells a = [v] := by
      match hc : r.cells a, hl with
      | [v], _ => exact ⟨v, rfl⟩
      | [], h => simp at h; omega
      | _ :: _ :: _, h => simp at h; omega
    have e : xs[off]? = some v := by
      have : (xs.toList.drop off)[0]? = some v := by rw [hx, hv]; rfl
      simpa using this
    simp [run_isAgg hag, e, vOf, hv]
theorem loop_eq {e n : Nat} (hu : P.underlying e = some (.int .u8)) (hs : size? P e = some 1) (d : Nat) (xs ys : List UInt8) (hx : xs.length = n) (hy : ys.length = n) (w : World) : ∀ (k i : Nat), i + k = n → xs.take i = ys.take i →
    (forIn (List.range' i k) ((none, ()) : Option Bool × PUnit) (fun i r => (do
      if !(← Op.equalIn (d + 1) e (← part e (bvs xs).toArray (i * 1)) (← part e (bvs ys).toArray (i * 1))) then pure (ForInStep.done (some false, ())) else pure (ForInStep.yield (none, ())) : Sem (ForInStep (Option Bool × PUnit))))).run P w = .ok (if xs = ys then (none, ()) else (some false, ())) w := by
  have hag : aggr P e = some false := by simp [aggr, hu]
  intro k
  induction k with
  | zero =>
    intro i hi ht
    have : xs = ys := by rw [← List.take_of_length_le (show xs.length ≤ i by omega), ht, List.take_of_length_le (by omega)]
    simp [this]
  | succ k ih =>
    intro i hi ht
    obtain ⟨a, ha⟩ : ∃ a, xs[i]? = some a := ⟨_, List.getElem?_eq_getElem (by omega)⟩
    obtain ⟨b, hb⟩ : ∃ b, ys[i]? = some b := ⟨_, List.getElem?_eq_getElem (by omega)⟩
    have h1 : (part e (bvs xs).toArray (i * 1)).run P w = .ok (bv a) w := by simp [part, run_isAgg hag, bvs, ha]
    have h2 : (part e (bvs ys).toArray (i * 1)).run P w = .ok (bv b) w := by simp [part, run_isAgg hag, bvs, hb]
    have h3 : (Op.equalIn (d + 1) e (bv a) (bv b)).run P w = .ok (decide (a = b)) w := by
      simp [bv, Op.equalIn, run_underlying hu]
      by_cases h : a = b
      · simp [h]
      · have : a.toNat ≠ b.toNat := fun h' => h (UInt8.toNat_inj.1 h')
        simp [h]; omega
    rw [List.range'_succ, List.forIn_cons]
    simp only [Sem.run_bind, h1, h2, h3, Result.andThen_ok]
    by_cases hab : a = b
    · simp only [hab, decide_true, Bool.not_true, Bool.false_eq_true, if_false, Sem.run_pure, Result.andThen_ok]
      exact ih (i + 1) (by omega) (by rw [List.take_add_one, List.take_add_one, ht, ha, hb, hab])
    · have hne : xs ≠ ys := fun h => by rw [h, hb] at ha; cases ha; exact hab rfl
      simp [hab, hne]
theorem eqT_vec {t e n : Nat} (ht : P.underlying t = some (.array n e)) (hu : P.underlying e = some (.int .u8)) (hs : size? P e = some 1) (hn : size? P t = some n) : EqT P t (rVec n) true 2 where
  agg := by simp [aggr, ht]
  siz := hn
  one h := by cases h
  eq d hd w a b := by
    obtain ⟨d, rfl⟩ : ∃ e, d = e + 1 + 1 := ⟨d - 2, by omega⟩
    have h := loop_eq hu hs d a.1 b.1 a.2 b.2 w n 0 (by omega) (by simp)
    simp only [vOf, cond_true, rVec]
    rw [Op.equalIn]
    simp only [Sem.run_bind, run_underlying ht, Result.andThen_ok, run_sizeOf hs, Std.Legacy.Range.forIn_eq_forIn_range', Std.Legacy.Range.size, Nat.sub_zero, Nat.add_sub_cancel, Nat.div_one]
    rw [h]
    by_cases hab : a = b
    · have : a.1 = b.1 := by rw [hab]
      simp [hab]
    · have : a.1 ≠ b.1 := fun h' => hab (Subtype.ext h')
      simp [hab, this]
def EqF (P : Program) (l : List (TypeId × Nat)) (off : Nat) {α : Type} (r : Rdr α) [DecidableEq α] (dep : Nat) : Prop :=
  ∀ (fs : List Field), fs.map (fun f => (decide (f.name ≠ "_"), f.type, f.offset)) = l.map (fun x => (true, x.1, x.2)) → ∀ (d : Nat), dep ≤ d → ∀ (w : World) (xs ys : Array Value) (a b : α),
    xs.toList.drop off = r.cells a → ys.toList.drop off = r.cells b → (Op.eqFields d xs ys fs).run P w = .ok (decide (a = b)) w
theorem eqF_last {t off dep : Nat} {α : Type} {r : Rdr α} [DecidableEq α] {ag : Bool} (h : EqT P t r ag dep) : EqF P [(t, off)] off r dep := by
  intro fs hfs d hd w xs ys a b hx hy
  cases fs with
  | nil => simp at hfs
  | cons f fs =>
    cases fs with
    | cons g fs => simp at hfs
    | nil =>
      simp only [List.map_cons, List.map_nil, List.cons.injEq, Prod.mk.injEq, and_true, decide_eq_true_eq] at hfs
      obtain ⟨hn, ht, ho⟩ := hfs
      simp only [Op.eqFields, if_pos hn, ht, ho, Sem.run_bind, runPart h (rest := []) (by simpa using hx) w, runPart h (rest := []) (by simpa using hy) w, h.eq d hd, Result.andThen_ok]
      by_cases hab : a = b <;> simp [hab]
theorem eqF_cons {t off dep : Nat} {l : List (TypeId × Nat)} {α β : Type} {r : Rdr α} {s : Rdr β} [DecidableEq α] [DecidableEq β] {ag : Bool} (h : EqT P t r ag dep) (hs : EqF P l (off + r.size) s dep) : EqF P ((t, off) :: l) off (r.pair s) dep := by
  intro fs hfs d hd w xs ys a b hx hy
  cases fs with
  | nil => simp at hfs
  | cons f fs =>
    simp only [List.map_cons, List.cons.injEq, Prod.mk.injEq, decide_eq_true_eq] at hfs
    obtain ⟨⟨hn, ht, ho⟩, hrest⟩ := hfs
    have hx2 : xs.toList.drop (off + r.size) = s.cells a.2 := by rw [← List.drop_drop, hx]; exact List.drop_left' (r.len _)
    have hy2 : ys.toList.drop (off + r.size) = s.cells b.2 := by rw [← List.drop_drop, hy]; exact List.drop_left' (r.len _)
    simp only [Op.eqFields, if_pos hn, ht, ho, Sem.run_bind, runPart h (a := a.1) (rest := s.cells a.2) hx w, runPart h (a := b.1) (rest := s.cells b.2) hy w, h.eq d hd, Result.andThen_ok]
    by_cases hab : a.1 = b.1
    · simp only [hab, decide_true, Bool.not_true, Bool.false_eq_true, if_false]
      rw [hs fs hrest d hd w xs ys a.2 b.2 hx2 hy2]
      congr 1
      by_cases h2 : a.2 = b.2
      · have : a = b := Prod.ext hab h2
        simp [this]
      · have : a ≠ b := fun h => h2 (by rw [h])
        simp [this, h2]
    · have : a ≠ b := fun h => hab (by rw [h])
      simp [hab, this]
theorem eqT_struct {t dep : Nat} {l : List (TypeId × Nat)} {α : Type} {r : Rdr α} [DecidableEq α] (hu : P.underlying t = some (.struct (P.fieldsOf t))) (hp : P.stoodInHeld t = false)
    (hf : (P.fieldsOf t).toList.map (fun f => (decide (f.name ≠ "_"), f.type, f.offset)) = l.map (fun x => (true, x.1, x.2))) (hs : size? P t = some r.size) (h : EqF P l 0 r dep) : EqT P t r true (dep + 1) where
  agg := by simp [aggr, hu]
  siz := hs
  one h := by cases h
  eq d hd w a b := by
    obtain ⟨d, rfl⟩ : ∃ e, d = e + 1 := ⟨d - 1, by omega⟩
    simp only [vOf, cond_true]
    rw [run_equalIn_struct w d t _ _ hu hp]
    exact h _ hf d (by omega) w _ _ a b (by simp) (by simp)
theorem eqS_agg {t dep : Nat} {α : Type} {r : Rdr α} [DecidableEq α] {x y : Operand} {w : World} {a b : α} (h : EqT P t r true dep) (hd : dep ≤ 10000) (hg : P.eqGuardType P.depth t = false) (K : Value → Prop) :
    rdP P (eqS .eql t x y (.agg (r.cells a).toArray) (.agg (r.cells b).toArray)) w K = K (.bool (decide (a = b))) := by
  refine rdP_eq ?_ K
  have h2 := h.eq 10000 hd w a b
  simp only [vOf, cond_true] at h2
  simp only [eqS, Sem.run_bind, run_eqGuard_agg w .eql t x y _ _ hg, Result.andThen_ok, run_eql_struct, h2]
theorem neS_agg {t dep : Nat} {α : Type} {r : Rdr α} [DecidableEq α] {x y : Operand} {w : World} {a b : α} (h : EqT P t r true dep) (hd : dep ≤ 10000) (hg : P.eqGuardType P.depth t = false) (K : Value → Prop) :
    rdP P (eqS .neq t x y (.agg (r.cells a).toArray) (.agg (r.cells b).toArray)) w K = K (.bool (!decide (a = b))) := by
  refine rdP_eq ?_ K
  have h2 := h.eq 10000 hd w a b
  simp only [vOf, cond_true] at h2
  simp only [eqS, Sem.run_bind, run_eqGuard_agg w .neq t x y _ _ hg, Result.andThen_ok, run_neq_struct, h2]
end
theorem oneV {v : Value} (h : v.oneCell' = true) : ∀ u ∈ qv.cells v, u.oneCell' = true := by simpa [qv] using h
theorem oneI {k : IntKind} {n : Int} : ∀ u ∈ (rInt k).cells n, u.oneCell' = true := by simp [rInt, Value.oneCell']
theorem oneB {b : Bool} : ∀ u ∈ rBool.cells b, u.oneCell' = true := by simp [rBool, Value.oneCell']
theorem oneVec {n : Nat} {a : Vec n} : ∀ u ∈ (rVec n).cells a, u.oneCell' = true := bvs_one _
theorem onePair {α β : Type} {r : Rdr α} {s : Rdr β} {a : α × β} (h1 : ∀ u ∈ r.cells a.1, u.oneCell' = true) (h2 : ∀ u ∈ s.cells a.2, u.oneCell' = true) : ∀ u ∈ (r.pair s).cells a, u.oneCell' = true := fun u hu => by
  rcases List.mem_append.1 hu with hu | hu
  · exact h1 u hu
  · exact h2 u hu
theorem Fld.ldI {α : Type} {r : Rdr α} {k : IntKind} {off : Nat} {get : α → Int} {set : α → Int → α} {h : Heap} {g : Nat} {a : α} {t : TypeId} {fr : Nat × Nat} (f : Fld r (rInt k) off get set) (hg : h[g]? = some (.cells (r.cells a).toArray t fr)) (K : Value → Prop) :
    Go.Fx.ld1 (.pointer (some ⟨g, off, none⟩)) h K = K (.int k (get a)) := by
  have := (f.at (At.blk hg)).ld1 K
  rwa [Nat.zero_add] at this
theorem Fld.ldI' {α : Type} {r : Rdr α} {k : IntKind} {off o : Nat} {get : α → Int} {set : α → Int → α} {h : Heap} {g : Nat} {a : α} (f : Fld r (rInt k) off get set) (hg : At h g o (r.cells a)) (K : Value → Prop) :
    Go.Fx.ld1 (.pointer (some ⟨g, o + off, none⟩)) h K = K (.int k (get a)) := (f.at hg).ld1 K
theorem Fld.ldB {α : Type} {r : Rdr α} {off : Nat} {get : α → Bool} {set : α → Bool → α} {h : Heap} {g : Nat} {a : α} {t : TypeId} {fr : Nat × Nat} (f : Fld r rBool off get set) (hg : h[g]? = some (.cells (r.cells a).toArray t fr)) (K : Value → Prop) :
    Go.Fx.ld1 (.pointer (some ⟨g, off, none⟩)) h K = K (.bool (get a)) := by
  have := (f.at (At.blk hg)).ld1 K
  rwa [Nat.zero_add] at this
theorem Fld.ldB' {α : Type} {r : Rdr α} {off o : Nat} {get : α → Bool} {set : α → Bool → α} {h : Heap} {g : Nat} {a : α} (f : Fld r rBool off get set) (hg : At h g o (r.cells a)) (K : Value → Prop) :
    Go.Fx.ld1 (.pointer (some ⟨g, o + off, none⟩)) h K = K (.bool (get a)) := (f.at hg).ld1 K
theorem Fld.stV {α β : Type} {r : Rdr α} {s : Rdr β} {off g : Nat} {get : α → β} {set : α → β → α} {a : α} {b : β} {v : Value} {t : TypeId} {w0 w : World} {As : List Asn} {K : World → Prop} (f : Fld r s off get set) (hv : s.cells b = [v])
    (hs : Sep w0 w (blk g (r.cells a).toArray t :: As)) (h1 : v.oneCell' = true) (h : ∀ w', Sep w0 w' (blk g (r.cells (set a b)).toArray t :: As) → K w') : Go.Fx.st1 (.pointer (some ⟨g, off, none⟩)) v w K := by
  obtain ⟨pre, post, e1, e2, e3⟩ := f.spec a b
  have hl : (s.cells (get a)).length = 1 := by rw [s.len, ← s.len b, hv]; rfl
  obtain ⟨u, hu⟩ : ∃ u, s.cells (get a) = [u] := by
    match s.cells (get a), hl with
    | [u], _ => exact ⟨u, rfl⟩
  rw [e1, hu] at hs
  rw [e2, hv] at h
  refine st1_s hs (by simp; omega) h1 fun w' hs' => h w' ?_
  have e : (pre ++ [u] ++ post).toArray.setIfInBounds off v = (pre ++ [v] ++ post).toArray := by
    apply Array.ext'
    subst e3
    simp [List.set_append]
  rw [e] at hs'
  exact hs'
theorem eqT_up {P : Program} {t dep dep' : Nat} {α : Type} {r : Rdr α} [DecidableEq α] {ag : Bool} (h : EqT P t r ag dep) (hd : dep ≤ dep') : EqT P t r ag dep' := ⟨h.agg, h.siz, h.one, fun d hd' => h.eq d (Nat.le_trans hd hd')⟩
theorem cells_one {v : Value} (h : v.oneCell' = true) : v.cells = (qv.cells v).toArray := by
  cases v <;> simp_all [Value.cells, Value.oneCell', qv]
/-- A row's field, read in a region that draws. -/
theorem rdS_row {α β : Type} {q : Rdr α} {s : Rdr β} {off : Nat} {get : α → β} {set : α → β → α} (f : Fld q s off get set) {S : World → Prop} {w : World} {v u : Value} {l : List α} {j : Nat} {a : α} {K : Value → Prop} (hc : s.cells (get a) = [u]) (hp : 0 < q.size)
    (hw : S w) (hS : ∀ u, S u → Rows' q u.heap v l) (hj : l[j]? = some a) (k : IntKind) (h : K u) : ixs q.size v (.int k (j : Int)) fun t => fad off t fun p => rdS S (fun w => Go.Fx.ld1 p w.heap) K := by
  obtain ⟨g, o, c, rfl⟩ := (hS w hw).form hp hj
  have hlt := (List.getElem?_eq_some_iff.1 hj).1
  rw [ixs_mk _ _ _ _ _ _ _ _ (by omega) (by omega), Int.toNat_natCast, fad_mk]
  refine ⟨u, fun z hz => ?_, h⟩
  have hat := f.at (At.of hp (hS z hz) hj)
  rw [hc] at hat
  show Go.Fx.ld1 _ z.heap _
  rw [hat.ld1]
theorem fill_rows {α : Type} {q : Rdr α} {V : α → Value} (hV : ∀ a, (V a).cells = (q.cells a).toArray) : ∀ (l : List α) (k : Nat) (cur : Array Value), cur.size = (k + l.length) * q.size →
    Instr.fill (fun i => some (i * q.size, q.size)) cur ((l.zipIdx k).map fun x => (x.2, V x.1)) = some (cur.toList.take (k * q.size) ++ l.flatMap q.cells).toArray
  | [], k, cur, h => by
    simp only [List.length_nil, Nat.add_zero] at h
    simp only [List.zipIdx_nil, List.map_nil, Instr.fill, List.flatMap_nil, List.append_nil, ← h]
    congr 1
    apply Array.ext'
    rw [List.take_of_length_le (by simp)]
  | a :: l, k, cur, h => by
    simp only [List.length_cons] at h
    have hm : (k + (l.length + 1)) * q.size = k * q.size + q.size + l.length * q.size := by rw [Nat.add_mul, Nat.add_mul]; omega
    have hl := q.len a
    have hsz : (V a).cells.size = q.size := by rw [hV]; simpa using hl
    rw [List.zipIdx_cons, List.map_cons, Instr.fill]
    simp only
    have hn : ¬ ((V a).cells.size ≠ q.size || decide (k * q.size + (V a).cells.size > cur.size)) = true := by
      simp [hsz]; omega
    rw [if_neg (by simpa using hn)]
    have e : (V a).cells.zipIdx.foldl (fun cs x => cs.setIfInBounds (k * q.size + x.2) x.1) cur = splice cur (k * q.size) (q.cells a) := by
      rw [hV]
      have h1 := foldl_set (q.cells a) 0 (k * q.size) cur (by omega)
      rw [Nat.add_zero] at h1
      rw [← h1]
      simp [← Array.foldl_toList]
    have hs2 : (splice cur (k * q.size) (q.cells a)).size = (k + 1 + l.length) * q.size := by
      simp only [splice, List.size_toArray, List.length_append, List.length_take, List.length_drop, Array.length_toList, hl]
      have : (k + 1 + l.length) * q.size = k * q.size + q.size + l.length * q.size := by rw [Nat.add_mul, Nat.add_mul]; omega
      omega
    rw [e, fill_rows hV l (k + 1) _ hs2]
    congr 2
    rw [List.flatMap_cons, ← List.append_assoc]
    congr 1
    simp only [splice]
    rw [Nat.add_mul, Nat.one_mul, List.take_append_of_le_length (by simp [hl]; omega)]
    rw [List.take_append, List.take_of_length_le (by simp; omega)]
    congr 1
    rw [List.take_of_length_le (by simp [hl]; omega)]
/-- '[]T{a, b, ..}'. -/
theorem rows_lit {α : Type} {q : Rdr α} {P : Program} {T E bytes n : Nat} {l : List α} {V : α → Value} {parts : Array (Nat × Value)} {w0 w : World} {As : List Asn} {K : Value → World → Prop} (hs : Sep w0 w As) (hT : SlT P T E q.size bytes)
    (hV : ∀ a, (V a).cells = (q.cells a).toArray) (hp : parts.toList = l.zipIdx.map fun x => (x.2, V x.1)) (hn : n = l.length) (h0 : 0 < n) (hmax : n * q.size ≤ 16777216)
    (h : ∀ g w', Sep w0 w' (Go.Fx.rows q (.slice (some ⟨g, 0, none⟩) n n) l :: As) → K (.slice (some ⟨g, 0, none⟩) n n) w') : efP P (Instr.buildSlice T n parts) w K := by
  obtain ⟨i, z, hi, hsz, hby, hz, hzc⟩ := slT_info hT
  refine rows_build (E := E) hs hn ?_ h
  have hpos : ¬ n * q.size = 0 := by have := Nat.mul_pos h0 hT.pos; omega
  have hf := fill_rows hV l 0 ((Array.range (n * q.size)).map fun j => z.cells[j % z.cells.size]!) (by simp [hn])
  simp only [Nat.zero_mul, List.take_zero, List.nil_append] at hf
  have hle : ¬ n * q.size > 2 ^ 24 := by omega
  simp only [Instr.buildSlice, Sem.run_bind, run_underlying hT.und, Result.andThen_ok, run_sizeOf hT.siz, if_neg hle, if_neg hpos, Sem.run_pure]
  simp only [zeroValue, typeInfo, hi, hz, Sem.run_bind, run_program, Result.andThen_ok, Sem.run_pure, hp, hf]
  simp [newRow, hi, hz, hp, hf]
theorem rows_stV {α β : Type} {q : Rdr α} {s : Rdr β} {w0 w : World} {As : List Asn} {off off' : Nat} {get : α → β} {set : α → β → α} (f : Fld q s off get set) {g o c j : Nat} {l : List α} {a : α} {b : β} {u : Value} {K : World → Prop} (hcu : s.cells b = [u])
    (hs : Sep w0 w (Go.Fx.rows q (.slice (some ⟨g, o, none⟩) l.length c) l :: As)) (hj : l[j]? = some a) (hoff : off' = o + j * q.size + off) (h1 : u.oneCell' = true)
    (h : ∀ w', Sep w0 w' (Go.Fx.rows q (.slice (some ⟨g, o, none⟩) l.length c) (l.set j (set a b)) :: As) → K w') : st1 (.pointer (some ⟨g, off', none⟩)) u w K := by
  subst hoff
  obtain ⟨F, ho, hu⟩ := hs.upd
  have hlt := (List.getElem?_eq_some_iff.1 hj).1
  obtain ⟨pre, post, e1, e2, e3⟩ := f.spec a b
  obtain ⟨pre', post', d1, d2, d3⟩ := flatMap_set (q := q) (b := set a b) hj
  have hl1 : (s.cells (get a)).length = 1 := by rw [s.len, ← s.len b, hcu]; rfl
  obtain ⟨z, hz⟩ : ∃ z, s.cells (get a) = [z] := by
    match s.cells (get a), hl1 with
    | [z], _ => exact ⟨z, rfl⟩
  have hsz : q.size = pre.length + 1 + post.length := by rw [← q.len a, e1, hz]; simp; omega
  have hb : j * q.size + q.size ≤ l.length * q.size := by rw [← Nat.succ_mul]; exact Nat.mul_le_mul_right _ hlt
  obtain ⟨hl, ⟨hv, _⟩ | ⟨g', o', cap, cur, E, hv, hn, hg, hfit, hcs, rfl⟩⟩ := ho
  · cases hv
  · cases hv
    have hcap : l.length * q.size ≤ c * q.size := Nat.mul_le_mul_right _ hn
    refine st1_i hg (by omega) h1 fun w' hg' hf => h w' ?_
    have hll : (l.set j (set a b)).length = l.length := by simp
    refine hu w' [g] _ ?_ hf (Grew.refl _ _)
    show Own w'.heap _ q.size (l.set j (set a b)).length _ [g]
    rw [hll]
    refine ⟨by rw [parts_length q.len, hll], .inr ⟨g, o, c, _, E, rfl, hn, hg', by simpa using hfit, ?_, rfl⟩⟩
    rw [d2, e2, hcu]
    rw [d1, e1, hz] at hcs
    simp only [Array.toList_setIfInBounds]
    rw [List.drop_set, if_neg (by omega), List.take_set, hcs]
    have e : o + j * q.size + off - o = (pre' ++ pre).length := by simp; omega
    rw [e, show pre' ++ (pre ++ [z] ++ post) ++ post' = (pre' ++ pre) ++ ([z] ++ (post ++ post')) by simp, List.set_append_right _ _ (Nat.le_refl _), Nat.sub_self]
    simp
end Go.Fx
