/-
  The readings of the functions that are walked (c_..), printed by program; each is held against the loaded code by the kernel (e_..), and gives the call (l_..).
-/
import Derived.Laws.Tables
import Derived.Laws.StructEq
import Derived.OrdersIn
import Derived.RangeFuncRecord
import Derived.RangeFuncIn
import Derived.RangeFuncLeaves
import Derived.Test.YticmbeincpaaeaaDoorProg
import Derived.KernelRfl
import Derived.Test.YticmbeincpaaeaaDoorQ29331318
set_option linter.unusedVariables false
set_option linter.unusedSimpArgs false
namespace Go.Fx
/-- One cell, whatever it is. -/
def qv : Rdr Value where
  size := 1
  cells v := [v]
  ok _ v := v.oneCell' = true
  len _ := rfl
  one h u hu := by simp at hu; subst hu; exact h
  fr h _ := h
/-- A row of so many cells. -/
def qvs (n : Nat) : Rdr {l : List Value // l.length = n} where
  size := n
  cells l := l.1
  ok _ l := ∀ u ∈ l.1, u.oneCell' = true
  len l := l.2
  one h := h
  fr h _ := h
def vz (n : Nat) : Vec n := ⟨List.replicate n 0, List.length_replicate⟩
/-- A field of a struct: where it stands, what it is, the struct with another one. -/
structure Fld {α β : Type} (r : Rdr α) (s : Rdr β) (off : Nat) (get : α → β) (set : α → β → α) : Prop where
  spec : ∀ a b, ∃ pre post, r.cells a = pre ++ s.cells (get a) ++ post ∧ r.cells (set a b) = pre ++ s.cells b ++ post ∧ pre.length = off
theorem Fld.self {α : Type} {r : Rdr α} : Fld r r 0 (fun a => a) (fun _ b => b) := ⟨fun a b => ⟨[], [], by simp, by simp, rfl⟩⟩
theorem Fld.fst {α β γ : Type} {r : Rdr α} {s : Rdr β} {q : Rdr γ} {off : Nat} {get : α → β} {set : α → β → α} (f : Fld r s off get set) : Fld (r.pair q) s off (fun a => get a.1) (fun a b => (set a.1 b, a.2)) :=
  ⟨fun a b => by
    obtain ⟨pre, post, h1, h2, h3⟩ := f.spec a.1 b
    exact ⟨pre, post ++ q.cells a.2, by simp [Rdr.pair, h1], by simp [Rdr.pair, h2], h3⟩⟩
theorem Fld.snd {α β γ : Type} {r : Rdr α} {s : Rdr β} {q : Rdr γ} {off : Nat} {get : α → β} {set : α → β → α} (f : Fld r s off get set) : Fld (q.pair r) s (q.size + off) (fun a => get a.2) (fun a b => (a.1, set a.2 b)) :=
  ⟨fun a b => by
    obtain ⟨pre, post, h1, h2, h3⟩ := f.spec a.2 b
    exact ⟨q.cells a.1 ++ pre, post, by simp [Rdr.pair, h1], by simp [Rdr.pair, h2], by rw [List.length_append, q.len, h3]⟩⟩
/-- Cells that stand at a place of a block. -/
def At (h : Heap) (g o : Nat) (cs : List Value) : Prop := ∃ cur t fr, h[g]? = some (.cells cur t fr) ∧ o + cs.length ≤ cur.size ∧ (cur.toList.drop o).take cs.length = cs
theorem At.blk {h : Heap} {g : Nat} {cs : List Value} {t : TypeId} {fr : Nat × Nat} (hg : h[g]? = some (.cells cs.toArray t fr)) : At h g 0 cs := ⟨_, t, fr, hg, by simp, by simp⟩
theorem At.part {h : Heap} {g o k : Nat} {pre mid post : List Value} (ha : At h g o (pre ++ mid ++ post)) (hk : pre.length = k) : At h g (o + k) mid := by
  obtain ⟨cur, t, fr, hg, hn, hc⟩ := ha
  subst hk
  simp only [List.length_append] at hn hc
  refine ⟨cur, t, fr, hg, by omega, ?_⟩
  have : (((cur.toList.drop o).take (pre.length + mid.length + post.length)).drop pre.length).take mid.length = mid := by
    rw [hc, List.append_assoc, List.drop_left' rfl, List.take_left' rfl]
  rw [List.drop_take, List.drop_drop, List.take_take, Nat.min_eq_left (by omega)] at this
  exact this
theorem At.ldN {h : Heap} {g o n : Nat} {cs : List Value} (ha : At h g o cs) (hn : cs.length = n) (K : Value → Prop) : ldN n (.pointer (some ⟨g, o, none⟩)) h K = K (.agg cs.toArray) := by
  obtain ⟨cur, t, fr, hg, hl, hc⟩ := ha
  subst hn
  rw [ldN_eq hg]
  have e : cur.extract o (o + cs.length) = cs.toArray := by
    apply Array.ext'
    rw [Array.toList_extract]
    simp only [List.extract_eq_take_drop]
    rw [Nat.add_sub_cancel_left, hc]
  rw [e]
  exact propext ⟨fun h => h.2, fun h => ⟨hl, h⟩⟩
theorem At.ld1 {h : Heap} {g o : Nat} {v : Value} (ha : At h g o [v]) (K : Value → Prop) : ld1 (.pointer (some ⟨g, o, none⟩)) h K = K v := by
  obtain ⟨cur, t, fr, hg, hl, hc⟩ := ha
  rw [ld1_eq hg]
  have e : cur[o]? = some v := by
    have : ((cur.toList.drop o).take 1)[0]? = some v := by
      have := congrArg (·[0]?) hc
      simpa using this
    rw [List.getElem?_take_of_lt (by omega)] at this
    simpa using this
  rw [e]
  exact ex_some v K
section
variable {α β : Type} {r : Rdr α} {s : Rdr β} {off : Nat} {get : α → β} {set : α → β → α} {h : Heap} {g o : Nat} {a : α} {t : TypeId} {fr : Nat × Nat}
theorem Fld.at (f : Fld r s off get set) (ha : At h g o (r.cells a)) : At h g (o + off) (s.cells (get a)) := by
  obtain ⟨pre, post, h1, _, h3⟩ := f.spec a (get a)
  rw [h1] at ha
  exact ha.part h3
theorem Fld.ldN (f : Fld r s off get set) (hg : h[g]? = some (.cells (r.cells a).toArray t fr)) (K : Value → Prop) : ldN s.size (.pointer (some ⟨g, off, none⟩)) h K = K (.agg (s.cells (get a)).toArray) := by
  have := (f.at (At.blk hg)).ldN (s.len _) K
  rwa [Nat.zero_add] at this
theorem Fld.ld1 {get : α → Value} {set : α → Value → α} (f : Fld r qv off get set) (hg : h[g]? = some (.cells (r.cells a).toArray t fr)) (K : Value → Prop) : ld1 (.pointer (some ⟨g, off, none⟩)) h K = K (get a) := by
  have := (f.at (At.blk hg)).ld1 K
  rwa [Nat.zero_add] at this
theorem Fld.ldNA (f : Fld r s off get set) (hg : At h g o (r.cells a)) (K : Value → Prop) : Go.Fx.ldN s.size (.pointer (some ⟨g, o + off, none⟩)) h K = K (.agg (s.cells (get a)).toArray) := (f.at hg).ldN (s.len _) K
theorem Fld.ld1A {get : α → Value} {set : α → Value → α} (f : Fld r qv off get set) (hg : At h g o (r.cells a)) (K : Value → Prop) : Go.Fx.ld1 (.pointer (some ⟨g, o + off, none⟩)) h K = K (get a) := (f.at hg).ld1 K
end
theorem splice_mid {pre mid post new : List Value} {o : Nat} (ho : pre.length = o) (hl : new.length = mid.length) : splice (pre ++ mid ++ post).toArray o new = (pre ++ new ++ post).toArray := by
  subst ho
  apply Array.ext'
  simp only [splice, List.append_assoc, List.take_left' rfl]
  rw [← List.drop_drop, List.drop_left' rfl, List.drop_left' hl.symm]
section
variable {α β : Type} {r : Rdr α} {s : Rdr β} {off : Nat} {get : α → β} {set : α → β → α} {g : Nat} {a : α} {t : TypeId} {w0 w : World} {As : List Asn} {K : World → Prop}
theorem Fld.stN (f : Fld r s off get set) {b : β} (hs : Sep w0 w (blk g (r.cells a).toArray t :: As)) (h1 : ∀ u ∈ s.cells b, u.oneCell' = true)
    (h : ∀ w', Sep w0 w' (blk g (r.cells (set a b)).toArray t :: As) → K w') : Go.Fx.stN s.size (.pointer (some ⟨g, off, none⟩)) (.agg (s.cells b).toArray) w K := by
  obtain ⟨pre, post, e1, e2, e3⟩ := f.spec a b
  have hl := s.len b
  have hl2 := s.len (get a)
  rw [e1] at hs
  rw [e2] at h
  refine stN_s hs (by simpa using hl) (by simp; omega) (by simpa using h1) fun w' hs' => h w' ?_
  have := splice_mid (post := post) e3 (show (s.cells b).length = (s.cells (get a)).length by omega)
  simp only [this] at hs'
  exact hs'
theorem Fld.st1 {get : α → Value} {set : α → Value → α} (f : Fld r qv off get set) {b : Value} (hs : Sep w0 w (blk g (r.cells a).toArray t :: As)) (h1 : b.oneCell' = true)
    (h : ∀ w', Sep w0 w' (blk g (r.cells (set a b)).toArray t :: As) → K w') : Go.Fx.st1 (.pointer (some ⟨g, off, none⟩)) b w K := by
  obtain ⟨pre, post, e1, e2, e3⟩ := f.spec a b
  rw [e1] at hs
  rw [e2] at h
  refine st1_s hs (by simp [qv]; omega) h1 fun w' hs' => h w' ?_
  have e : (pre ++ qv.cells (get a) ++ post).toArray.setIfInBounds off b = (pre ++ qv.cells b ++ post).toArray := by
    apply Array.ext'
    subst e3
    simp [qv, List.set_append]
  rw [e] at hs'
  exact hs'
end

/-! ### Rows of slices -/
section
variable {α β : Type} {q : Rdr α} {w0 w : World} {As : List Asn}
/-- A slice that reads as these rows. -/
def Rows' (q : Rdr α) (h : Heap) (v : Value) (l : List α) : Prop := Cel h v q.size l.length (l.flatMap q.cells)
theorem Rows'.fr {w w' : World} {v : Value} {l : List α} (h : Rows' q w.heap v l) (hf : Fr [] w w') : Rows' q w'.heap v l := Cel.fr h hf (off_nil _)
theorem Rows'.len {h : Heap} {v : Value} {l : List α} (hr : Rows' q h v l) (K : Value → Prop) : lenS v K = K (.int .i64 l.length) := by
  obtain ⟨a, c, rfl, _⟩ := hr
  exact lenS_mk a _ c K
/-- A slice of rows that the call owns. -/
def rows (q : Rdr α) (v : Value) (l : List α) : Asn := own v q.size l.length (l.flatMap q.cells)
theorem Sep.rows {v : Value} {l : List α} (h : Sep w0 w (rows q v l :: As)) : Rows' q w.heap v l := Sep.cel h
theorem At.of {h : Heap} {g o n c : Nat} {l : List α} {j : Nat} {a : α} (hp : 0 < q.size) (hc : Cel h (.slice (some ⟨g, o, none⟩) n c) q.size l.length (l.flatMap q.cells)) (hj : l[j]? = some a) : At h g (o + j * q.size) (q.cells a) := by
  obtain ⟨a', c', hv, hl, hh⟩ := hc
  cases hv
  have hlt := (List.getElem?_eq_some_iff.1 hj).1
  have hb : j * q.size + q.size ≤ l.length * q.size := by rw [← Nat.succ_mul]; exact Nat.mul_le_mul_right _ hlt
  rcases hh with h0 | ⟨g', o', cur, t, fr, ha, hg, hcs⟩
  · omega
  · cases ha
    have hlen := congrArg List.length hcs
    simp only [List.length_take, List.length_drop, Array.length_toList] at hlen
    refine ⟨cur, t, fr, hg, by rw [q.len]; omega, ?_⟩
    have hp := part_at q.len hj
    rw [← hcs] at hp
    rw [q.len]
    rw [List.drop_take, List.drop_drop, List.take_take, Nat.min_eq_left (by omega)] at hp
    exact hp
/-- What has an element stands somewhere. -/
theorem Rows'.form {h : Heap} {v : Value} {l : List α} {j : Nat} {a : α} (hp : 0 < q.size) (hr : Rows' q h v l) (hj : l[j]? = some a) : ∃ g o c, v = .slice (some ⟨g, o, none⟩) l.length c := by
  obtain ⟨a', c', hv, hl, hh⟩ := hr
  have hlt := (List.getElem?_eq_some_iff.1 hj).1
  have hb : 0 < l.length * q.size := Nat.mul_pos (by omega) hp
  rcases hh with h0 | ⟨g', o', cur, t, fr, ha, hg, hcs⟩
  · omega
  · exact ⟨g', o', c', by rw [hv, ha]⟩
/-- 'l[j]': its address, and what stands there. -/
theorem Rows'.ix {h : Heap} {v : Value} {l : List α} {j : Nat} {a : α} (hp : 0 < q.size) (hr : Rows' q h v l) (hj : l[j]? = some a) : ∃ g o, At h g o (q.cells a) ∧ ∀ (k : IntKind) (K : Value → Prop), ixs q.size v (.int k (j : Int)) K = K (.pointer (some ⟨g, o, none⟩)) := by
  obtain ⟨g, o, c, rfl⟩ := hr.form hp hj
  have hlt := (List.getElem?_eq_some_iff.1 hj).1
  exact ⟨g, o + j * q.size, At.of hp hr hj, fun k K => by rw [ixs_mk _ _ _ _ _ _ _ _ (by omega) (by omega), Int.toNat_natCast]⟩
/-- 'l[j]', all its cells. -/
theorem Rows'.ldN {v : Value} {l : List α} {j : Nat} {a : α} (hp : 0 < q.size) (hr : Rows' q w.heap v l) (hj : l[j]? = some a) (k : IntKind) {K : Value → Prop} (h : K (.agg (q.cells a).toArray)) :
    ixs q.size v (.int k (j : Int)) fun t => ldN q.size t w.heap K := by
  obtain ⟨g, o, ha, hx⟩ := hr.ix hp hj
  rw [hx, ha.ldN (q.len _)]
  exact h
theorem Rows'.ld1 {q : Rdr Value} {v : Value} {l : List Value} {j : Nat} {a : Value} (hr : Rows' qv w.heap v l) (hj : l[j]? = some a) (k : IntKind) {K : Value → Prop} (h : K a) :
    ixs 1 v (.int k (j : Int)) fun t => ld1 t w.heap K := by
  obtain ⟨g, o, ha, hx⟩ := hr.ix (by decide) hj
  have hx' : ∀ K, ixs 1 v (.int k (j : Int)) K = K (.pointer (some ⟨g, o, none⟩)) := hx k
  rw [hx', At.ld1 ha]
  exact h
theorem flatMap_set {l : List α} {j : Nat} {a b : α} (hj : l[j]? = some a) : ∃ pre post, l.flatMap q.cells = pre ++ q.cells a ++ post ∧ (l.set j b).flatMap q.cells = pre ++ q.cells b ++ post ∧ pre.length = j * q.size := by
  have hlt := (List.getElem?_eq_some_iff.1 hj).1
  refine ⟨(l.take j).flatMap q.cells, (l.drop (j + 1)).flatMap q.cells, ?_, ?_, ?_⟩
  · conv => lhs; rw [← List.take_append_drop j l, List.drop_eq_getElem_cons hlt]
    have : l[j] = a := by rw [List.getElem?_eq_getElem hlt] at hj; simpa using hj
    rw [List.flatMap_append, List.flatMap_cons, this, List.append_assoc]
  · rw [List.set_eq_take_append_cons_drop, if_pos hlt, List.flatMap_append, List.flatMap_cons, List.append_assoc]
  · rw [parts_length q.len, List.length_take, Nat.min_eq_left (by omega)]
/-- A store in a row's field. -/
theorem rows_st1 {off : Nat} {get : α → Value} {set : α → Value → α} (f : Fld q qv off get set) {g o c j : Nat} {l : List α} {a : α} {b : Value} {K : World → Prop} (hs : Sep w0 w (Go.Fx.rows q (.slice (some ⟨g, o, none⟩) l.length c) l :: As)) (hj : l[j]? = some a)
    (h1 : b.oneCell' = true) (h : ∀ w', Sep w0 w' (Go.Fx.rows q (.slice (some ⟨g, o, none⟩) l.length c) (l.set j (set a b)) :: As) → K w') : st1 (.pointer (some ⟨g, o + j * q.size + off, none⟩)) b w K := by
  obtain ⟨F, ho, hu⟩ := hs.upd
  have hlt := (List.getElem?_eq_some_iff.1 hj).1
  obtain ⟨pre, post, e1, e2, e3⟩ := f.spec a b
  obtain ⟨pre', post', d1, d2, d3⟩ := flatMap_set (q := q) (b := set a b) hj
  have hsz : q.size = pre.length + 1 + post.length := by rw [← q.len a, e1]; simp [qv]; omega
  have hb : j * q.size + q.size ≤ l.length * q.size := by rw [← Nat.succ_mul]; exact Nat.mul_le_mul_right _ hlt
  obtain ⟨hl, ⟨hv, _⟩ | ⟨g', o', cap, cur, E, hv, hn, hg, hfit, hcs, rfl⟩⟩ := ho
  · cases hv
  · cases hv
    have hcap : l.length * q.size ≤ c * q.size := Nat.mul_le_mul_right _ hn
    refine st1_i hg (by omega) h1 fun w' hg' hf => h w' ?_
    have hll : (l.set j (set a b)).length = l.length := by simp
    refine hu w' [g] _ ?_ hf (Grew.refl _ _)
    show Own w'.heap _ q.size (l.set j (set a b)).length _ [g]
    rw [hll]
    refine ⟨by rw [parts_length q.len, hll], .inr ⟨g, o, c, _, E, rfl, hn, hg', by simpa using hfit, ?_, rfl⟩⟩
    rw [d2, e2]
    rw [d1, e1] at hcs
    simp only [Array.toList_setIfInBounds]
    rw [List.drop_set, if_neg (by omega), List.take_set, hcs]
    have e : o + j * q.size + off - o = (pre' ++ pre).length := by simp; omega
    rw [e, show pre' ++ (pre ++ qv.cells (get a) ++ post) ++ post' = (pre' ++ pre) ++ ([get a] ++ (post ++ post')) by simp [qv], List.set_append_right _ _ (Nat.le_refl _), Nat.sub_self]
    simp [qv]
theorem rows_app {P : Program} {t tx ty E bytes : Nat} {d : TypeDesc} {s x : Value} {l m : List α} {K : Value → World → Prop}
    (hT : SlT P t E q.size bytes) (hx : P.underlying tx = some d) (hd : ∀ k, d ≠ .int k) (hs : Sep w0 w (Go.Fx.rows q s l :: As)) (hn : Rows' q w.heap x m) (h1 : ∀ u ∈ m.flatMap q.cells, u.oneCell' = true)
    (hb : (l.length + m.length) * bytes ≤ 140737488355328) (h63 : l.length + m.length ≤ 9223372036854775807)
    (h : ∀ v' w', Sep w0 w' (Go.Fx.rows q v' (l ++ m) :: As) → K v' w') : efP P (Builtin.append_ #[t, tx] ty #[s, x]) w K := by
  refine app_s hT hx hd hs hn h1 hb h63 fun v' w' hs' => h v' w' ?_
  unfold Go.Fx.rows
  rw [List.length_append, List.flatMap_append]
  exact hs'
theorem Sep.nilR (h : Sep w0 w As) : Sep w0 w (Go.Fx.rows q (.slice none 0 0) [] :: As) := h.nilN q.size
theorem rows_build {P : Program} {s : Sem Value} {l : List α} {E n : Nat} {K : Value → World → Prop} (hs : Sep w0 w As) (hn : n = l.length)
    (hr : s.run P w = .ok (.slice (some ⟨w.heap.size, 0, none⟩) n n) (w.alloc (.cells (l.flatMap q.cells).toArray E)))
    (h : ∀ g w', Sep w0 w' (Go.Fx.rows q (.slice (some ⟨g, 0, none⟩) n n) l :: As) → K (.slice (some ⟨g, 0, none⟩) n n) w') : efP P s w K := by
  subst hn
  exact build_s (size := q.size) hs (parts_length q.len l) hr h
theorem Sep.formR {v : Value} {l : List α} (h : Sep w0 w (Go.Fx.rows q v l :: As)) : ∃ a c, v = .slice a l.length c ∧ l.length ≤ c := by
  obtain ⟨F, hl, ⟨rfl, h0, rfl⟩ | ⟨g, o, cap, cur, E, rfl, hn, hg, hfit, hc, rfl⟩⟩ := h.head
  · exact ⟨none, 0, by rw [h0], by omega⟩
  · exact ⟨_, cap, rfl, hn⟩
theorem Sep.oneR {v : Value} {l : List α} (h : Sep w0 w (Go.Fx.rows q v l :: As)) : v.oneCell' = true := by obtain ⟨a, c, rfl, _⟩ := h.formR; rfl
end

/-! ### Values that are built -/
theorem foldl_set : ∀ (cs : List Value) (k off : Nat) (cur : Array Value), off + k + cs.length ≤ cur.size → (cs.zipIdx k).foldl (fun c (x : Value × Nat) => c.setIfInBounds (off + x.2) x.1) cur = splice cur (off + k) cs
  | [], k, off, cur, _ => by apply Array.ext'; simp [splice]
  | c :: cs, k, off, cur, h => by
    rw [List.zipIdx_cons, List.foldl_cons, foldl_set cs (k + 1) off _ (by simp at h ⊢; omega)]
    apply Array.ext'
    simp only [splice, Array.toList_setIfInBounds, List.length_cons] at h ⊢
    have h' : off + k < cur.toList.length := by simp at h ⊢; omega
    rw [show off + (k + 1) = off + k + 1 by omega, List.take_add_one, List.take_set_of_le (Nat.le_refl _), List.getElem?_set_self h', List.drop_set_of_lt (by omega)]
    simp [Nat.add_assoc, Nat.add_comm 1]
theorem fill_step {α β : Type} {r : Rdr α} {s : Rdr β} {off : Nat} {get : α → β} {set : α → β → α} (f : Fld r s off get set) {place : Nat → Option (Nat × Nat)} {i : Nat} {a : α} {b : β} {v : Value} {rest : List (Nat × Value)}
    (hp : place i = some (off, s.size)) (hv : v.cells = (s.cells b).toArray) : Instr.fill place (r.cells a).toArray ((i, v) :: rest) = Instr.fill place (r.cells (set a b)).toArray rest := by
  obtain ⟨pre, post, e1, e2, e3⟩ := f.spec a b
  have hl := s.len b
  have hl2 := s.len (get a)
  have hsz : v.cells.size = s.size := by rw [hv]; simpa using hl
  have hn : ¬ ((v.cells.size ≠ s.size) || decide (off + v.cells.size > (r.cells a).toArray.size)) = true := by
    simp [hsz, e1]; omega
  rw [Instr.fill, hp]
  simp only
  rw [if_neg (by simpa using hn)]
  have : (v.cells.zipIdx.foldl (fun cs x => cs.setIfInBounds (off + x.2) x.1) (r.cells a).toArray) = (r.cells (set a b)).toArray := by
    rw [hv]
    have h1 := foldl_set (s.cells b) 0 off (r.cells a).toArray (by simp [e1]; omega)
    rw [Nat.add_zero] at h1
    have h2 := splice_mid (post := post) e3 (show (s.cells b).length = (s.cells (get a)).length by omega)
    rw [e2, ← h2, ← e1, ← h1]
    simp [← Array.foldl_toList]
  rw [← this]
theorem rd_build {P : Program} {t : TypeId} {α : Type} {r : Rdr α} {a : α} {parts : Array (Nat × Value)} {w : World} (h : P.built t parts.toList = some (r.cells a).toArray) (K : Value → Prop) : rdP P (Instr.build t parts) w K = K (.agg (r.cells a).toArray) :=
  rdP_eq (run_build w t parts _ h) K
theorem built_struct {P : Program} {t : TypeId} {α : Type} {r : Rdr α} {a0 : α} {places : Array (Nat × Nat)} {parts : List (Nat × Value)} {fs : Array Field}
    (hi : ((P.info? t).bind fun it => it.zero.map fun z => z.cells) = some (r.cells a0).toArray) (hu : P.underlying t = some (.struct fs)) (hp : (fs.toList.mapM fun f => (P.info? f.type).map fun i => (f.offset, i.size)) = some places.toList) :
    P.built t parts = Instr.fill (places[·]?) (r.cells a0).toArray parts := by
  unfold Program.built
  cases hit : P.info? t with
  | none => simp [hit] at hi
  | some it =>
    cases hz : it.zero with
    | none => simp [hit, hz] at hi
    | some z =>
      simp [hit, hz] at hi
      simp [hu, hp, hz, hi]

/-! ### Equality -/
def vOf (ag : Bool) (cs : List Value) : Value := bif ag then .agg cs.toArray else cs.headD undef
/-- Values of a type are compared as what they read as. -/
structure EqT (P : Program) (t : TypeId) {α : Type} (r : Rdr α) [DecidableEq α] (ag : Bool) (dep : Nat) : Prop where
  agg : aggr P t = some ag
  siz : size? P t = some r.size
  one : ag = false → r.size = 1
  eq : ∀ (d : Nat), dep ≤ d → ∀ (w : World) (a b : α), (Op.equalIn d t (vOf ag (r.cells a)) (vOf ag (r.cells b))).run P w = .ok (decide (a = b)) w
section
variable {P : Program}
theorem eqT_int {t : TypeId} {k : IntKind} (hu : P.underlying t = some (.int k)) (hs : size? P t = some 1) : EqT P t (rInt k) false 1 where
  agg := by simp [aggr, hu]
  siz := hs
  one _ := rfl
  eq d hd w a b := by
    obtain ⟨d, rfl⟩ : ∃ e, d = e + 1 := ⟨d - 1, by omega⟩
    simp [vOf, rInt, Op.equalIn, run_underlying hu]
    by_cases h : a = b <;> simp [h]
theorem eqT_bool {t : TypeId} (hu : P.underlying t = some .bool) (hs : size? P t = some 1) : EqT P t rBool false 1 where
  agg := by simp [aggr, hu]
  siz := hs
  one _ := rfl
  eq d hd w a b := by
    obtain ⟨d, rfl⟩ : ∃ e, d = e + 1 := ⟨d - 1, by omega⟩
    simp [vOf, rBool, Op.equalIn, run_underlying hu]
    cases a <;> cases b <;> rfl
theorem runPart {t : TypeId} {α : Type} {r : Rdr α} [DecidableEq α] {ag : Bool} {dep : Nat} (h : EqT P t r ag dep) {xs : Array Value} {off : Nat} {a : α} {rest : List Value} (hx : xs.toList.drop off = r.cells a ++ rest) (w : World) :
    (part t xs off).run P w = .ok (vOf ag (r.cells a)) w := by
  have hl := r.len a
  have hlen := congrArg List.length hx
  simp only [List.length_drop, Array.length_toList, List.length_append, hl] at hlen
  unfold part
  have hag := h.agg
  cases ag with
  | true =>
    have e : xs.extract off (off + r.size) = (r.cells a).toArray := by
      apply Array.ext'
      rw [Array.toList_extract]
      simp only [List.extract_eq_take_drop]
      rw [Nat.add_sub_cancel_left, hx, List.take_left' hl]
    have hn : r.size = 0 ∨ off + r.size ≤ xs.size := by omega
    rcases hn with h0 | h0
    · rw [h0, Nat.add_zero] at e
      simp [run_isAgg hag, run_sizeOf h.siz, h0, vOf]
      rw [e]
    · simp [run_isAgg hag, run_sizeOf h.siz, e, vOf]
  | false =>
    have h1 := h.one rfl
    obtain ⟨v, hv⟩ : ∃ v, r.cells a = [v] := by
      match hc : r.cells a, hl with
      | [v], _ => exact ⟨v, rfl⟩
      | [], h => simp at h; omega
      | _ :: _ :: _, h => simp at h; omega
    have e : xs[off]? = some v := by
      have : (xs.toList.drop off)[0]? = some v := by rw [hx, hv]; rfl
      simpa using this
    simp [run_isAgg hag, e, vOf, hv]
theorem loop_eq {e n : Nat} (hu : P.underlying e = some (.int .u8)) (hs : size? P e = some 1) (d : Nat) (xs ys : List UInt8) (hx : xs.length = n) (hy : ys.length = n) (w : World) : ∀ (k i : Nat), i + k = n → xs.take i = ys.take i →
    (forIn (List.range' i k) ((none, ()) : Option Bool × PUnit) (fun i r => (do
      if !(← Op.equalIn (d + 1) e (← part e (bvs xs).toArray (i * 1)) (← part e (bvs ys).toArray (i * 1))) then pure (ForInStep.done (some false, ())) else pure (ForInStep.yield (none, ())) : Sem (ForInStep (Option Bool × PUnit))))).run P w = .ok (if xs = ys then (none, ()) else (some false, ())) w := by
  have hag : aggr P e = some false := by simp [aggr, hu]
  intro k
  induction k with
  | zero =>
    intro i hi ht
    have : xs = ys := by rw [← List.take_of_length_le (show xs.length ≤ i by omega), ht, List.take_of_length_le (by omega)]
    simp [this]
  | succ k ih =>
    intro i hi ht
    obtain ⟨a, ha⟩ : ∃ a, xs[i]? = some a := ⟨_, List.getElem?_eq_getElem (by omega)⟩
    obtain ⟨b, hb⟩ : ∃ b, ys[i]? = some b := ⟨_, List.getElem?_eq_getElem (by omega)⟩
    have h1 : (part e (bvs xs).toArray (i * 1)).run P w = .ok (bv a) w := by simp [part, run_isAgg hag, bvs, ha]
    have h2 : (part e (bvs ys).toArray (i * 1)).run P w = .ok (bv b) w := by simp [part, run_isAgg hag, bvs, hb]
    have h3 : (Op.equalIn (d + 1) e (bv a) (bv b)).run P w = .ok (decide (a = b)) w := by
      simp [bv, Op.equalIn, run_underlying hu]
      by_cases h : a = b
      · simp [h]
      · have : a.toNat ≠ b.toNat := fun h' => h (UInt8.toNat_inj.1 h')
        simp [h]; omega
    rw [List.range'_succ, List.forIn_cons]
    simp only [Sem.run_bind, h1, h2, h3, Result.andThen_ok]
    by_cases hab : a = b
    · simp only [hab, decide_true, Bool.not_true, Bool.false_eq_true, if_false, Sem.run_pure, Result.andThen_ok]
      exact ih (i + 1) (by omega) (by rw [List.take_add_one, List.take_add_one, ht, ha, hb, hab])
    · have hne : xs ≠ ys := fun h => by rw [h, hb] at ha; cases ha; exact hab rfl
      simp [hab, hne]
theorem eqT_vec {t e n : Nat} (ht : P.underlying t = some (.array n e)) (hu : P.underlying e = some (.int .u8)) (hs : size? P e = some 1) (hn : size? P t = some n) : EqT P t (rVec n) true 2 where
  agg := by simp [aggr, ht]
  siz := hn
  one h := by cases h
  eq d hd w a b := by
    obtain ⟨d, rfl⟩ : ∃ e, d = e + 1 + 1 := ⟨d - 2, by omega⟩
    have h := loop_eq hu hs d a.1 b.1 a.2 b.2 w n 0 (by omega) (by simp)
    simp only [vOf, cond_true, rVec]
    rw [Op.equalIn]
    simp only [Sem.run_bind, run_underlying ht, Result.andThen_ok, run_sizeOf hs, Std.Legacy.Range.forIn_eq_forIn_range', Std.Legacy.Range.size, Nat.sub_zero, Nat.add_sub_cancel, Nat.div_one]
    rw [h]
    by_cases hab : a = b
    · have : a.1 = b.1 := by rw [hab]
      simp [hab]
    · have : a.1 ≠ b.1 := fun h' => hab (Subtype.ext h')
      simp [hab, this]
def EqF (P : Program) (l : List (TypeId × Nat)) (off : Nat) {α : Type} (r : Rdr α) [DecidableEq α] (dep : Nat) : Prop :=
  ∀ (fs : List Field), fs.map (fun f => (decide (f.name ≠ "_"), f.type, f.offset)) = l.map (fun x => (true, x.1, x.2)) → ∀ (d : Nat), dep ≤ d → ∀ (w : World) (xs ys : Array Value) (a b : α),
    xs.toList.drop off = r.cells a → ys.toList.drop off = r.cells b → (Op.eqFields d xs ys fs).run P w = .ok (decide (a = b)) w
theorem eqF_last {t off dep : Nat} {α : Type} {r : Rdr α} [DecidableEq α] {ag : Bool} (h : EqT P t r ag dep) : EqF P [(t, off)] off r dep := by
  intro fs hfs d hd w xs ys a b hx hy
  cases fs with
  | nil => simp at hfs
  | cons f fs =>
    cases fs with
    | cons g fs => simp at hfs
    | nil =>
      simp only [List.map_cons, List.map_nil, List.cons.injEq, Prod.mk.injEq, and_true, decide_eq_true_eq] at hfs
      obtain ⟨hn, ht, ho⟩ := hfs
      simp only [Op.eqFields, if_pos hn, ht, ho, Sem.run_bind, runPart h (rest := []) (by simpa using hx) w, runPart h (rest := []) (by simpa using hy) w, h.eq d hd, Result.andThen_ok]
      by_cases hab : a = b <;> simp [hab]
theorem eqF_cons {t off dep : Nat} {l : List (TypeId × Nat)} {α β : Type} {r : Rdr α} {s : Rdr β} [DecidableEq α] [DecidableEq β] {ag : Bool} (h : EqT P t r ag dep) (hs : EqF P l (off + r.size) s dep) : EqF P ((t, off) :: l) off (r.pair s) dep := by
  intro fs hfs d hd w xs ys a b hx hy
  cases fs with
  | nil => simp at hfs
  | cons f fs =>
    simp only [List.map_cons, List.cons.injEq, Prod.mk.injEq, decide_eq_true_eq] at hfs
    obtain ⟨⟨hn, ht, ho⟩, hrest⟩ := hfs
    have hx2 : xs.toList.drop (off + r.size) = s.cells a.2 := by rw [← List.drop_drop, hx]; exact List.drop_left' (r.len _)
    have hy2 : ys.toList.drop (off + r.size) = s.cells b.2 := by rw [← List.drop_drop, hy]; exact List.drop_left' (r.len _)
    simp only [Op.eqFields, if_pos hn, ht, ho, Sem.run_bind, runPart h (a := a.1) (rest := s.cells a.2) hx w, runPart h (a := b.1) (rest := s.cells b.2) hy w, h.eq d hd, Result.andThen_ok]
    by_cases hab : a.1 = b.1
    · simp only [hab, decide_true, Bool.not_true, Bool.false_eq_true, if_false]
      rw [hs fs hrest d hd w xs ys a.2 b.2 hx2 hy2]
      congr 1
      by_cases h2 : a.2 = b.2
      · have : a = b := Prod.ext hab h2
        simp [this]
      · have : a ≠ b := fun h => h2 (by rw [h])
        simp [this, h2]
    · have : a ≠ b := fun h => hab (by rw [h])
      simp [hab, this]
theorem eqT_struct {t dep : Nat} {l : List (TypeId × Nat)} {α : Type} {r : Rdr α} [DecidableEq α] (hu : P.underlying t = some (.struct (P.fieldsOf t))) (hp : P.stoodInHeld t = false)
    (hf : (P.fieldsOf t).toList.map (fun f => (decide (f.name ≠ "_"), f.type, f.offset)) = l.map (fun x => (true, x.1, x.2))) (hs : size? P t = some r.size) (h : EqF P l 0 r dep) : EqT P t r true (dep + 1) where
  agg := by simp [aggr, hu]
  siz := hs
  one h := by cases h
  eq d hd w a b := by
    obtain ⟨d, rfl⟩ : ∃ e, d = e + 1 := ⟨d - 1, by omega⟩
    simp only [vOf, cond_true]
    rw [run_equalIn_struct w d t _ _ hu hp]
    exact h _ hf d (by omega) w _ _ a b (by simp) (by simp)
theorem eqS_agg {t dep : Nat} {α : Type} {r : Rdr α} [DecidableEq α] {x y : Operand} {w : World} {a b : α} (h : EqT P t r true dep) (hd : dep ≤ 10000) (hg : P.eqGuardType P.depth t = false) (K : Value → Prop) :
    rdP P (eqS .eql t x y (.agg (r.cells a).toArray) (.agg (r.cells b).toArray)) w K = K (.bool (decide (a = b))) := by
  refine rdP_eq ?_ K
  have h2 := h.eq 10000 hd w a b
  simp only [vOf, cond_true] at h2
  simp only [eqS, Sem.run_bind, run_eqGuard_agg w .eql t x y _ _ hg, Result.andThen_ok, run_eql_struct, h2]
theorem neS_agg {t dep : Nat} {α : Type} {r : Rdr α} [DecidableEq α] {x y : Operand} {w : World} {a b : α} (h : EqT P t r true dep) (hd : dep ≤ 10000) (hg : P.eqGuardType P.depth t = false) (K : Value → Prop) :
    rdP P (eqS .neq t x y (.agg (r.cells a).toArray) (.agg (r.cells b).toArray)) w K = K (.bool (!decide (a = b))) := by
  refine rdP_eq ?_ K
  have h2 := h.eq 10000 hd w a b
  simp only [vOf, cond_true] at h2
  simp only [eqS, Sem.run_bind, run_eqGuard_agg w .neq t x y _ _ hg, Result.andThen_ok, run_neq_struct, h2]
end
theorem oneV {v : Value} (h : v.oneCell' = true) : ∀ u ∈ qv.cells v, u.oneCell' = true := by simpa [qv] using h
theorem oneI {k : IntKind} {n : Int} : ∀ u ∈ (rInt k).cells n, u.oneCell' = true := by simp [rInt, Value.oneCell']
theorem oneB {b : Bool} : ∀ u ∈ rBool.cells b, u.oneCell' = true := by simp [rBool, Value.oneCell']
theorem oneVec {n : Nat} {a : Vec n} : ∀ u ∈ (rVec n).cells a, u.oneCell' = true := bvs_one _
theorem onePair {α β : Type} {r : Rdr α} {s : Rdr β} {a : α × β} (h1 : ∀ u ∈ r.cells a.1, u.oneCell' = true) (h2 : ∀ u ∈ s.cells a.2, u.oneCell' = true) : ∀ u ∈ (r.pair s).cells a, u.oneCell' = true := fun u hu => by
  rcases List.mem_append.1 hu with hu | hu
  · exact h1 u hu
  · exact h2 u hu
theorem Fld.ldI {α : Type} {r : Rdr α} {k : IntKind} {off : Nat} {get : α → Int} {set : α → Int → α} {h : Heap} {g : Nat} {a : α} {t : TypeId} {fr : Nat × Nat} (f : Fld r (rInt k) off get set) (hg : h[g]? = some (.cells (r.cells a).toArray t fr)) (K : Value → Prop) :
    Go.Fx.ld1 (.pointer (some ⟨g, off, none⟩)) h K = K (.int k (get a)) := by
  have := (f.at (At.blk hg)).ld1 K
  rwa [Nat.zero_add] at this
theorem Fld.ldI' {α : Type} {r : Rdr α} {k : IntKind} {off o : Nat} {get : α → Int} {set : α → Int → α} {h : Heap} {g : Nat} {a : α} (f : Fld r (rInt k) off get set) (hg : At h g o (r.cells a)) (K : Value → Prop) :
    Go.Fx.ld1 (.pointer (some ⟨g, o + off, none⟩)) h K = K (.int k (get a)) := (f.at hg).ld1 K
theorem Fld.ldB {α : Type} {r : Rdr α} {off : Nat} {get : α → Bool} {set : α → Bool → α} {h : Heap} {g : Nat} {a : α} {t : TypeId} {fr : Nat × Nat} (f : Fld r rBool off get set) (hg : h[g]? = some (.cells (r.cells a).toArray t fr)) (K : Value → Prop) :
    Go.Fx.ld1 (.pointer (some ⟨g, off, none⟩)) h K = K (.bool (get a)) := by
  have := (f.at (At.blk hg)).ld1 K
  rwa [Nat.zero_add] at this
theorem Fld.ldB' {α : Type} {r : Rdr α} {off o : Nat} {get : α → Bool} {set : α → Bool → α} {h : Heap} {g : Nat} {a : α} (f : Fld r rBool off get set) (hg : At h g o (r.cells a)) (K : Value → Prop) :
    Go.Fx.ld1 (.pointer (some ⟨g, o + off, none⟩)) h K = K (.bool (get a)) := (f.at hg).ld1 K
theorem Fld.stV {α β : Type} {r : Rdr α} {s : Rdr β} {off g : Nat} {get : α → β} {set : α → β → α} {a : α} {b : β} {v : Value} {t : TypeId} {w0 w : World} {As : List Asn} {K : World → Prop} (f : Fld r s off get set) (hv : s.cells b = [v])
    (hs : Sep w0 w (blk g (r.cells a).toArray t :: As)) (h1 : v.oneCell' = true) (h : ∀ w', Sep w0 w' (blk g (r.cells (set a b)).toArray t :: As) → K w') : Go.Fx.st1 (.pointer (some ⟨g, off, none⟩)) v w K := by
  obtain ⟨pre, post, e1, e2, e3⟩ := f.spec a b
  have hl : (s.cells (get a)).length = 1 := by rw [s.len, ← s.len b, hv]; rfl
  obtain ⟨u, hu⟩ : ∃ u, s.cells (get a) = [u] := by
    match s.cells (get a), hl with
    | [u], _ => exact ⟨u, rfl⟩
  rw [e1, hu] at hs
  rw [e2, hv] at h
  refine st1_s hs (by simp; omega) h1 fun w' hs' => h w' ?_
  have e : (pre ++ [u] ++ post).toArray.setIfInBounds off v = (pre ++ [v] ++ post).toArray := by
    apply Array.ext'
    subst e3
    simp [List.set_append]
  rw [e] at hs'
  exact hs'
theorem eqT_up {P : Program} {t dep dep' : Nat} {α : Type} {r : Rdr α} [DecidableEq α] {ag : Bool} (h : EqT P t r ag dep) (hd : dep ≤ dep') : EqT P t r ag dep' := ⟨h.agg, h.siz, h.one, fun d hd' => h.eq d (Nat.le_trans hd hd')⟩
theorem cells_one {v : Value} (h : v.oneCell' = true) : v.cells = (qv.cells v).toArray := by
  cases v <;> simp_all [Value.cells, Value.oneCell', qv]
/-- A row's field, read in a region that draws. -/
theorem rdS_row {α β : Type} {q : Rdr α} {s : Rdr β} {off : Nat} {get : α → β} {set : α → β → α} (f : Fld q s off get set) {S : World → Prop} {w : World} {v u : Value} {l : List α} {j : Nat} {a : α} {K : Value → Prop} (hc : s.cells (get a) = [u]) (hp : 0 < q.size)
    (hw : S w) (hS : ∀ u, S u → Rows' q u.heap v l) (hj : l[j]? = some a) (k : IntKind) (h : K u) : ixs q.size v (.int k (j : Int)) fun t => fad off t fun p => rdS S (fun w => Go.Fx.ld1 p w.heap) K := by
  obtain ⟨g, o, c, rfl⟩ := (hS w hw).form hp hj
  have hlt := (List.getElem?_eq_some_iff.1 hj).1
  rw [ixs_mk _ _ _ _ _ _ _ _ (by omega) (by omega), Int.toNat_natCast, fad_mk]
  refine ⟨u, fun z hz => ?_, h⟩
  have hat := f.at (At.of hp (hS z hz) hj)
  rw [hc] at hat
  show Go.Fx.ld1 _ z.heap _
  rw [hat.ld1]
theorem fill_rows {α : Type} {q : Rdr α} {V : α → Value} (hV : ∀ a, (V a).cells = (q.cells a).toArray) : ∀ (l : List α) (k : Nat) (cur : Array Value), cur.size = (k + l.length) * q.size →
    Instr.fill (fun i => some (i * q.size, q.size)) cur ((l.zipIdx k).map fun x => (x.2, V x.1)) = some (cur.toList.take (k * q.size) ++ l.flatMap q.cells).toArray
  | [], k, cur, h => by
    simp only [List.length_nil, Nat.add_zero] at h
    simp only [List.zipIdx_nil, List.map_nil, Instr.fill, List.flatMap_nil, List.append_nil, ← h]
    congr 1
    apply Array.ext'
    rw [List.take_of_length_le (by simp)]
  | a :: l, k, cur, h => by
    simp only [List.length_cons] at h
    have hm : (k + (l.length + 1)) * q.size = k * q.size + q.size + l.length * q.size := by rw [Nat.add_mul, Nat.add_mul]; omega
    have hl := q.len a
    have hsz : (V a).cells.size = q.size := by rw [hV]; simpa using hl
    rw [List.zipIdx_cons, List.map_cons, Instr.fill]
    simp only
    have hn : ¬ ((V a).cells.size ≠ q.size || decide (k * q.size + (V a).cells.size > cur.size)) = true := by
      simp [hsz]; omega
    rw [if_neg (by simpa using hn)]
    have e : (V a).cells.zipIdx.foldl (fun cs x => cs.setIfInBounds (k * q.size + x.2) x.1) cur = splice cur (k * q.size) (q.cells a) := by
      rw [hV]
      have h1 := foldl_set (q.cells a) 0 (k * q.size) cur (by omega)
      rw [Nat.add_zero] at h1
      rw [← h1]
      simp [← Array.foldl_toList]
    have hs2 : (splice cur (k * q.size) (q.cells a)).size = (k + 1 + l.length) * q.size := by
      simp only [splice, List.size_toArray, List.length_append, List.length_take, List.length_drop, Array.length_toList, hl]
      have : (k + 1 + l.length) * q.size = k * q.size + q.size + l.length * q.size := by rw [Nat.add_mul, Nat.add_mul]; omega
      omega
    rw [e, fill_rows hV l (k + 1) _ hs2]
    congr 2
    rw [List.flatMap_cons, ← List.append_assoc]
    congr 1
    simp only [splice]
    rw [Nat.add_mul, Nat.one_mul, List.take_append_of_le_length (by simp [hl]; omega)]
    rw [List.take_append, List.take_of_length_le (by simp; omega)]
    congr 1
    rw [List.take_of_length_le (by simp [hl]; omega)]
/-- '[]T{a, b, ..}'. -/
theorem rows_lit {α : Type} {q : Rdr α} {P : Program} {T E bytes n : Nat} {l : List α} {V : α → Value} {parts : Array (Nat × Value)} {w0 w : World} {As : List Asn} {K : Value → World → Prop} (hs : Sep w0 w As) (hT : SlT P T E q.size bytes)
    (hV : ∀ a, (V a).cells = (q.cells a).toArray) (hp : parts.toList = l.zipIdx.map fun x => (x.2, V x.1)) (hn : n = l.length) (h0 : 0 < n) (hmax : n * q.size ≤ 16777216)
    (h : ∀ g w', Sep w0 w' (Go.Fx.rows q (.slice (some ⟨g, 0, none⟩) n n) l :: As) → K (.slice (some ⟨g, 0, none⟩) n n) w') : efP P (Instr.buildSlice T n parts) w K := by
  obtain ⟨i, z, hi, hsz, hby, hz, hzc⟩ := slT_info hT
  refine rows_build (E := E) hs hn ?_ h
  have hpos : ¬ n * q.size = 0 := by have := Nat.mul_pos h0 hT.pos; omega
  have hf := fill_rows hV l 0 ((Array.range (n * q.size)).map fun j => z.cells[j % z.cells.size]!) (by simp [hn])
  simp only [Nat.zero_mul, List.take_zero, List.nil_append] at hf
  have hle : ¬ n * q.size > 2 ^ 24 := by omega
  simp only [Instr.buildSlice, Sem.run_bind, run_underlying hT.und, Result.andThen_ok, run_sizeOf hT.siz, if_neg hle, if_neg hpos, Sem.run_pure]
  simp only [zeroValue, typeInfo, hi, hz, Sem.run_bind, run_program, Result.andThen_ok, Sem.run_pure, hp, hf]
  simp [newRow, hi, hz, hp, hf]
theorem rows_stV {α β : Type} {q : Rdr α} {s : Rdr β} {w0 w : World} {As : List Asn} {off off' : Nat} {get : α → β} {set : α → β → α} (f : Fld q s off get set) {g o c j : Nat} {l : List α} {a : α} {b : β} {u : Value} {K : World → Prop} (hcu : s.cells b = [u])
    (hs : Sep w0 w (Go.Fx.rows q (.slice (some ⟨g, o, none⟩) l.length c) l :: As)) (hj : l[j]? = some a) (hoff : off' = o + j * q.size + off) (h1 : u.oneCell' = true)
    (h : ∀ w', Sep w0 w' (Go.Fx.rows q (.slice (some ⟨g, o, none⟩) l.length c) (l.set j (set a b)) :: As) → K w') : st1 (.pointer (some ⟨g, off', none⟩)) u w K := by
  subst hoff
  obtain ⟨F, ho, hu⟩ := hs.upd
  have hlt := (List.getElem?_eq_some_iff.1 hj).1
  obtain ⟨pre, post, e1, e2, e3⟩ := f.spec a b
  obtain ⟨pre', post', d1, d2, d3⟩ := flatMap_set (q := q) (b := set a b) hj
  have hl1 : (s.cells (get a)).length = 1 := by rw [s.len, ← s.len b, hcu]; rfl
  obtain ⟨z, hz⟩ : ∃ z, s.cells (get a) = [z] := by
    match s.cells (get a), hl1 with
    | [z], _ => exact ⟨z, rfl⟩
  have hsz : q.size = pre.length + 1 + post.length := by rw [← q.len a, e1, hz]; simp; omega
  have hb : j * q.size + q.size ≤ l.length * q.size := by rw [← Nat.succ_mul]; exact Nat.mul_le_mul_right _ hlt
  obtain ⟨hl, ⟨hv, _⟩ | ⟨g', o', cap, cur, E, hv, hn, hg, hfit, hcs, rfl⟩⟩ := ho
  · cases hv
  · cases hv
    have hcap : l.length * q.size ≤ c * q.size := Nat.mul_le_mul_right _ hn
    refine st1_i hg (by omega) h1 fun w' hg' hf => h w' ?_
    have hll : (l.set j (set a b)).length = l.length := by simp
    refine hu w' [g] _ ?_ hf (Grew.refl _ _)
    show Own w'.heap _ q.size (l.set j (set a b)).length _ [g]
    rw [hll]
    refine ⟨by rw [parts_length q.len, hll], .inr ⟨g, o, c, _, E, rfl, hn, hg', by simpa using hfit, ?_, rfl⟩⟩
    rw [d2, e2, hcu]
    rw [d1, e1, hz] at hcs
    simp only [Array.toList_setIfInBounds]
    rw [List.drop_set, if_neg (by omega), List.take_set, hcs]
    have e : o + j * q.size + off - o = (pre' ++ pre).length := by simp; omega
    rw [e, show pre' ++ (pre ++ [z] ++ post) ++ post' = (pre' ++ pre) ++ ([z] ++ (post ++ post')) by simp, List.set_append_right _ _ (Nat.le_refl _), Nat.sub_self]
    simp
end Go.Fx
set_option linter.unusedVariables false
set_option linter.unusedSimpArgs false
namespace Go.Fx
/-- No fence at all; in a function's frame, or in a round's. -/
abbrev Fw (ro : Option Nat) : Fence := { Fence.wide with round := ro }
theorem roomF (ro : Option Nat) (k : Nat) : (Fw ro).room k := fun d h => by simp [Fw, Fence.wide] at h
theorem callsIn_fw {ro : Option Nat} {n : Nat} {P : Program} {f : FuncId} {args : Array Value} {w : World} {R : Ending → World → Prop} : CallsIn (Fw ro) n P f args w R ↔ Calls P f args w R :=
  callsIn_wide (n := n) (P := P) (f := f) (args := args) (w := w) (R := R)
theorem stepsIn_fw {ro : Option Nat} {P : Program} {m m' : Machine} : StepsIn (Machine.fenced P (Fw ro)) P m m' ↔ Steps P m m' := stepsIn_wide (P := P) (m := m) (m' := m')
theorem rowsIn_fw {ro : Option Nat} {n : Nat} {P : Program} {row : String} {args : Array Value} {w : World} {R : Value → World → Prop} (h : Rows P row args w R) : RowsIn (Fw ro) n P row args w R :=
  fun c cs _ => let ⟨v, w', r, s⟩ := h c cs; ⟨v, w', r, stepsIn_fw.2 s⟩
def noDefer (ops : Array Oper) : Bool := (List.range ops.size).all fun i => match ops[i]? with
  | some o => (match o.op with | .defer _ => false | _ => true)
  | none => true
theorem noDefer_spec {ops : Array Oper} (h : noDefer ops = true) {i : Nat} {o : Oper} (ho : ops[i]? = some o) : ∀ c, o.op ≠ .defer c := by
  intro c hc
  have hi := (Array.getElem?_eq_some_iff.1 ho).1
  have := List.all_eq_true.1 h i (by simpa using hi)
  simp only [ho, hc] at this
  cases this
section
variable {P : Program} {n : Nat} {ops : Array Oper} {Q : Exit → Act → World → Prop} {ro : Option Nat}
theorem oper_in {o : Oper} {a : Act} {w : World} {next : Act → World → Prop} (hd : ∀ c, o.op ≠ .defer c) (h : o.wp P a w next Q) : o.wpIn (Fw ro) 0 P a w next Q := by
  refine ⟨fun _ _ => trivial, ?_⟩
  rw [Oper.semAt_eq _ _ _ hd]
  unfold Oper.wp at h
  generalize (execOp a.eval o).run P w = r at h ⊢
  cases r with
  | ok x w' =>
    cases x <;> simp only [Oper.upon, Oper.uponIn] at h ⊢ <;>
      first
        | exact h
        | exact ⟨fun hh => by simp [Fw, Fence.wide] at hh, callsIn_fw.2 h⟩
        | exact ⟨fun hh => by simp [Fw, Fence.wide] at hh, rowsIn_fw h⟩
        | exact h.elim
  | halt x w' => cases x <;> simp only [Oper.upon, Oper.uponIn] at h ⊢ <;> exact h
theorem wpOps_in (hd : noDefer ops = true) (hQ : ¬ LetsOut Q) : ∀ (l : List Nat) (a : Act) (w : World), wpOps P ops Q l a w → wpOpsIn (Fw ro) 0 P ops Q l a w
  | [], a, w, h => h
  | i :: l, a, w, h => by
    unfold wpOps at h
    unfold wpOpsIn
    cases ho : ops[i]? with
    | none => rw [ho] at h; exact wpOps_in hd hQ l a w h
    | some o =>
      rw [ho] at h
      simp only at h ⊢
      split
      · rename_i hw
        rw [if_pos hw] at h
        rcases h with h | ⟨_, h⟩
        · exact Oper.wpIn_mono (fun a w => wpOps_in hd hQ l a w) (oper_in (noDefer_spec hd ho) h)
        · exact absurd h hQ
      · rename_i hw
        rw [if_neg hw] at h
        exact ⟨fun _ _ => trivial, wpOps_in hd hQ l _ w h⟩
theorem wpOp_in (hd : noDefer ops = true) (hQ : ¬ LetsOut Q) {i : Nat} {K K' : Act → World → Prop} (hk : ∀ a w, K a w → K' a w) {a : Act} {w : World} (h : wpOp P ops Q i K a w) : wpOpIn (Fw ro) 0 P ops Q i K' a w := by
  unfold wpOp at h
  unfold wpOpIn
  cases ho : ops[i]? with
  | none => rw [ho] at h; exact hk _ _ h
  | some o =>
    rw [ho] at h
    simp only at h ⊢
    split
    · rename_i hw
      rw [if_pos hw] at h
      rcases h with h | ⟨_, h⟩
      · exact Oper.wpIn_mono hk (oper_in (noDefer_spec hd ho) h)
      · exact absurd h hQ
    · rename_i hw
      rw [if_neg hw] at h
      exact ⟨fun _ _ => trivial, hk _ _ h⟩
theorem wpAny_in {md : Region.Mode} (hd : noDefer ops = true) (hQ : ¬ LetsOut Q) : ∀ (fuel : Nat) (listed : Array Bool) (a : Act) (w : World), wpAny P md ops Q fuel listed a w → wpAnyIn (Fw ro) 0 P md ops Q fuel listed a w
  | 0, _, _, _, h => h
  | fuel + 1, listed, a, w, h => ⟨h.1, fun i hi => wpOp_in hd hQ (fun a w => wpAny_in hd hQ fuel _ a w) (h.2 i hi)⟩
theorem RegOk.wpIn {draw : Bool} {id : Nat} {a : Act} {w : World} (hm : P.follows .mixedOrders = true) (hd : noDefer ops = true) (hQ : ¬ LetsOut Q) (h : RegOk P draw ops Q a w) : (Code.region id ops draw).wpIn (Fw ro) 0 P Q a w := by
  cases draw with
  | false => exact wpIn_region (wpOps_in hd hQ _ _ _ h)
  | true => exact wpIn_region_any hm (wpAny_in hd hQ _ _ _ _ h)
end

/-! ### A call of a round -/
def calY (P : Program) (g : Value) (args : List Value) (w : World) (K : Value → World → Prop) : Prop :=
  ∃ l f tmps assign body, g = .func (.yield l) #[] #[] ∧ (Instr.yield l args.toArray).run P w = .ok (.round l f tmps assign body) w ∧ RoundIn (Fw none) 0 P l f tmps assign body w (Ret K)
theorem calY_i {P : Program} {g : Value} {args : List Value} {w : World} {K K' : Value → World → Prop} (h : calY P g args w K) (hk : ∀ v w', K v w' → K' v w') : calY P g args w K' := by
  obtain ⟨l, f, tmps, assign, body, h1, h2, h3⟩ := h
  exact ⟨l, f, tmps, assign, body, h1, h2, h3.mono fun e w' ⟨v, he, hv⟩ => ⟨v, he, hk _ _ hv⟩⟩
/-- Where a region calls a value, that is a round. -/
def stepY (P : Program) (o : Oper) (e : Env) (w : World) (K : Value → World → Prop) : Prop :=
  match o.op with
  | .call ⟨.value (.func _), _, _⟩ => stepOp P .plain o e w K
  | .call ⟨.value g, args, _⟩ => calY P (ev e g) (args.toList.map (ev e)) w K
  | _ => stepOp P .plain o e w K
def runY (P : Program) (ops : Array Oper) : List Nat → Env → World → (Env → World → Prop) → Prop
  | [], e, w, K => K e w
  | i :: l, e, w, K => match ops[i]? with
    | some o => (match o.guard with
      | none => stepY P o e w fun v w' => runY P ops l (updO e o.dst v) w' K
      | some _ => False)
    | none => False

/-! ### Marks and readings -/
inductive AnY where
  | o
  | s (a b : AnY)
  | b (a : AnY)
  | j (slots : List Nat) (a : AnY)
  | l (slots : List Nat) (a : AnY)
  | c (a : An)
  | y
  | f (a b : AnY)
def AnY.noF : AnY → Bool
  | .s x z => x.noF && z.noF
  | .b x => x.noF
  | .j _ x => x.noF
  | .l _ x => x.noF
  | .f _ _ => false
  | _ => true
def putPs : List Nat → Nat → List Value → Env → Env
  | [], _, _, e => e
  | p :: ps, i, args, e => putPs ps (i + 1) args (upd e p (args.getD i undef))
def insN (x : Nat) (l : List Nat) : List Nat := bif l.any (Nat.beq x) then l else l ++ [x]
/-- The jumps out of a code: 0: a return; i + 1: out of block i. -/
def jumps : Code → List Nat
  | .ret => [0]
  | .exit i => [i + 1]
  | .seq a b => (jumps b).foldl (fun l x => insN x l) (jumps a)
  | .cond _ a b => (jumps b).foldl (fun l x => insN x l) (jumps a)
  | .block id c => (jumps c).filter fun x => !Nat.beq x (id + 1)
  | .loop c => jumps c
  | _ => []
def jmp : Nat → Code
  | 0 => .ret
  | i + 1 => .exit i
abbrev endSt (j : Option Code) : LoopState := if j.isNone then .ready else .done
def outL (j : Option Code) (w : World) : List (Option Code × (World → Prop)) → Prop
  | [] => False
  | (j', K) :: l => (j = j' ∧ K w) ∨ outL j w l
abbrev dfB : Obj := .deferred (some [])
/-- A range over a function: k values each round. -/
def rng (P : Program) (g : Value) (k : Nat) (w : World) (rnd : List Value → World → (World → (World → Prop) → Prop) → (Option Code → World → Prop) → Prop) (out : Nat → List (Option Code × (World → Prop))) : Prop :=
  ∃ gf cap, g = .func (.func gf) #[] cap ∧ callable P gf = true ∧ ∀ (y : Value) (rec : LoopState → Option Code → Obj), y.oneCell' = true →
    (∀ (args : List Value) (w2 : World) (K : Value → World → Prop), args.length = k → w2.heap[w.heap.size + 1]? = some (rec .ready none) →
      rnd args w2 (fun w3 K3 => w3.heap[w.heap.size + 1]? = some (rec .ready none) ∧ K3 (setBlk w3 (w.heap.size + 1) (rec .busy none)))
        (fun j w3 => w3.heap[w.heap.size + 1]? = some (rec .busy none) ∧ K (.bool j.isNone) (setBlk w3 (w.heap.size + 1) (rec (endSt j) j))) → calY P y args w2 K) →
    cal P gf (y :: cap.toList) ((w.alloc dfB).alloc (rec .ready none)) fun _ w' => ∃ j, w'.heap[w.heap.size + 1]? = some (rec (endSt j) j) ∧ outL j (setBlk w' (w.heap.size + 1) (rec .exhausted j)) (out w.heap.size)
def takeD : List Nat → World → (World → Prop) → Prop
  | [], w, K => K w
  | D :: ds, w, K => w.heap[D]? = some dfB ∧ takeD ds (setBlk w D (.deferred none)) K
abbrev KY := Env → List Nat → World → Prop
def intpY (P : Program) : AnY → Code → Env → List Nat → World → KY → (Nat → KY) → KY → Prop
  | .o, .skip, e, ds, w, KN, KX, KR => KN e ds w
  | .o, .ret, e, ds, w, KN, KX, KR => KR e ds w
  | .o, .exit i, e, ds, w, KN, KX, KR => KX i e ds w
  | .s a b, .seq x y, e, ds, w, KN, KX, KR => intpY P a x e ds w (fun e' ds' w' => intpY P b y e' ds' w' KN KX KR) KX KR
  | .s a b, .cond c x y, e, ds, w, KN, KX, KR => cnd (ev e c) (intpY P a x e ds w KN KX KR) (intpY P b y e ds w KN KX KR)
  | .b a, .block id x, e, ds, w, KN, KX, KR => intpY P a x e ds w KN (fun i e' ds' w' => bif Nat.beq i id then KN e' ds' w' else KX i e' ds' w') KR
  | .j slots a, c, e, ds, w, KN, KX, KR => joinN slots (writes c) e (fun k => intpY P a c e ds w (fun e' _ w' => k e' w') KX KR) fun e' w' => KN e' ds w'
  | .l slots a, .loop x, e, ds, w, KN, KX, KR => loopN slots (writes x) e w fun e' w' k => intpY P a x e' ds w' (fun e2 _ w2 => k e2 w2) KX KR
  | .c A, .region id ops draw, e, ds, w, KN, KX, KR => intp P A (.region id ops draw) e w (fun e' w' => KN e' ds w') (fun _ _ _ => False) (fun _ _ => False)
  | .y, .region _ ops false, e, ds, w, KN, KX, KR => runY P ops (List.range ops.size) e w fun e' w' => KN e' ds w'
  | .f a b, .rangeFunc g ps assign body, e, ds, w, KN, KX, KR => rng P (ev e g) ps.size w
      (fun args w2 beg fin => intpY P a assign (putPs ps.toList 0 args e) [] w2 (fun e1 _ w3 => beg w3 fun w4 => intpY P b body e1 [] w4 (fun _ _ w5 => fin none w5) (fun i _ _ w5 => fin (some (.exit i)) w5) (fun _ _ w5 => fin (some .ret) w5)) (fun _ _ _ _ => False) (fun _ _ _ => False))
      (fun D => (none, KN e (D :: ds)) :: (jumps body).map fun x => (some (jmp x), match x with | 0 => KR e (D :: ds) | i + 1 => KX i e (D :: ds)))
  | _, _, _, _, _, _, _, _ => False
def isReg : An → Bool
  | .r _ | .d _ _ | .dc _ _ _ | .dt _ _ _ => true
  | _ => false
def chkY (P : Program) (n : Nat) : AnY → Code → Bool
  | .o, _ => true
  | .s a b, .seq x y => chkY P n a x && chkY P n b y
  | .s a b, .cond _ x y => chkY P n a x && chkY P n b y
  | .b a, .block _ x => chkY P n a x
  | .j _ a, c => a.noF && chkY P n a c
  | .l _ a, .loop x => a.noF && chkY P n a x
  | .c A, .region id ops draw => isReg A && (chk P n A (.region id ops draw) && noDefer ops)
  | .y, .region _ ops false => chkOps P n ops && noDefer ops
  | .f a b, .rangeFunc _ ps assign body => (a.noF && b.noF) && ((chkY P n a assign && chkY P n b body) && ps.toList.all fun p => Nat.blt p n)
  | _, _ => true
end Go.Fx
set_option linter.unusedVariables false
set_option linter.unusedSimpArgs false
namespace Go.Fx
def marks (ds : List Nat) : List Deferred := ds.map fun D => { target := .collected D, args := #[] }
def PostY (fx : Bool) (ds : List Nat) (n : Nat) (W : List Nat) (e : Env) (KN : KY) (KX : Nat → KY) (KR : KY) : Exit → Act → World → Prop
  | .normal, a, w => ∃ e' ds', Rel (marks ds') n a e' ∧ Agree W e e' ∧ (fx = true → ds' = ds) ∧ KN e' ds' w
  | .exit i, a, w => ∃ e' ds', Rel (marks ds') n a e' ∧ Agree W e e' ∧ (fx = true → ds' = ds) ∧ KX i e' ds' w
  | .ret, a, w => ∃ e' ds', Rel (marks ds') n a e' ∧ Agree W e e' ∧ (fx = true → ds' = ds) ∧ KR e' ds' w
  | _, _, _ => False
section
variable {P : Program} {n : Nat} {ops : Array Oper} {Q : Exit → Act → World → Prop} {ro : Option Nat}
theorem PostY.mono {fx fx' : Bool} {ds ds0 : List Nat} {W W' : List Nat} {e e0 : Env} {KN KN' KR KR' : KY} {KX KX' : Nat → KY} (hW : ∀ t, t ∈ W → t ∈ W') (he : Agree W' e0 e) (hd : fx' = true → fx = true ∧ ds = ds0)
    (hN : ∀ e' ds' w, Agree W' e0 e' → (fx' = true → ds' = ds0) → KN e' ds' w → KN' e' ds' w) (hX : ∀ i e' ds' w, KX i e' ds' w → KX' i e' ds' w) (hR : ∀ e' ds' w, KR e' ds' w → KR' e' ds' w) (x : Exit) (a : Act) (w : World)
    (h : PostY fx ds n W e KN KX KR x a w) : PostY fx' ds0 n W' e0 KN' KX' KR' x a w := by
  have go : ∀ {ds' : List Nat}, (fx = true → ds' = ds) → fx' = true → ds' = ds0 := fun h hf => (h (hd hf).1).trans (hd hf).2
  cases x with
  | normal => obtain ⟨e', ds', h1, h2, h3, h4⟩ := h; exact ⟨e', ds', h1, he.trans (h2.mono hW), go h3, hN _ _ _ (he.trans (h2.mono hW)) (go h3) h4⟩
  | exit i => obtain ⟨e', ds', h1, h2, h3, h4⟩ := h; exact ⟨e', ds', h1, he.trans (h2.mono hW), go h3, hX _ _ _ _ h4⟩
  | ret => obtain ⟨e', ds', h1, h2, h3, h4⟩ := h; exact ⟨e', ds', h1, he.trans (h2.mono hW), go h3, hR _ _ _ h4⟩
  | _ => exact h
theorem noOut_post {ds : List Deferred} {W : List Nat} {e : Env} {KN KR : Env → World → Prop} {KX : Nat → Env → World → Prop} : ¬ LetsOut (Post ds n W e KN KX KR) := fun ⟨_, _, h⟩ => h
theorem region_ok {ds : List Deferred} {A : An} {id : Nat} {draw : Bool} {e : Env} {w : World} {a : Act} {KN : Env → World → Prop} (hi : isReg A = true) (hc : chk P n A (.region id ops draw) = true) (hr : Rel ds n a e)
    (h : intp P A (.region id ops draw) e w KN (fun _ _ _ => False) (fun _ _ => False)) :
    ∃ Q, RegOk P draw ops Q a w ∧ ¬ LetsOut Q ∧ ∀ x a' w', Q x a' w' → Post ds n (writesOps ops (List.range ops.size)) e KN (fun _ _ _ => False) (fun _ _ => False) x a' w' := by
  cases A with
  | r gs =>
    refine ⟨_, ?_, noOut_post, fun _ _ _ h => h⟩
    cases draw with
    | false => unfold intp at h; simp only [chk] at hc; exact region_plain hc hr h
    | true => unfold intp at h; simp only [chk, Bool.and_eq_true] at hc; exact region_draw hc.1 hc.2 hr h
  | d plan gs =>
    cases draw with
    | false => unfold intp at h; exact h.elim
    | true =>
      refine ⟨_, ?_, noOut_post, fun _ _ _ h => h⟩
      unfold intp at h
      simp only [chk, Bool.and_eq_true] at hc
      obtain ⟨S, hS, h⟩ := h
      refine region_held hc.1.1 (Nat.eq_of_beq_eq_true hc.1.2.1) (fun i hi => ?_) hc.1.2.2 hr hS h
      have := List.all_eq_true.1 hc.2 i hi
      simpa [Nat.blt_eq] using this
  | dc plan cuts gs =>
    cases draw with
    | false => unfold intp at h; exact h.elim
    | true =>
      refine ⟨_, ?_, noOut_post, fun _ _ _ h => h⟩
      unfold intp at h
      simp only [chk, Bool.and_eq_true] at hc
      obtain ⟨S, hS, h⟩ := h
      refine region_cut hc.1.1 (Nat.eq_of_beq_eq_true hc.1.2.1) (fun i hi => ?_) hc.1.2.2 hr hS h
      have := List.all_eq_true.1 hc.2 i hi
      simpa [Nat.blt_eq] using this
  | dt pl cuts slots =>
    cases draw with
    | false => unfold intp at h; exact h.elim
    | true =>
      unfold intp at h
      simp only [chk, Bool.and_eq_true, Bool.not_eq_true'] at hc
      obtain ⟨hc, ⟨hp, ha, hg⟩, hd⟩ := hc
      obtain ⟨S, hS, h⟩ := h
      obtain ⟨k, hb, hrest⟩ := joinN_sound h
      refine ⟨_, region_tree (KX := fun _ _ _ => False) (KR := fun _ _ => False) hc hp ha hg (Nat.le_of_ble_eq_true hd) hr hS hb, noOut_post, ?_⟩
      intro x a' w' hx
      cases x with
      | normal =>
        obtain ⟨e', h2, h3, h4⟩ := hx
        obtain ⟨e'', he, hk⟩ := hrest e' w' h3 h4
        exact ⟨e'', h2.congr fun t => (he t).symm, fun t ht => (he t).trans (h3 t ht), hk⟩
      | _ => exact hx
  | _ => simp [isReg] at hi

/-! ### Regions that call a round -/
theorem wp_step {ds : List Deferred} {o : Oper} {a : Act} {e : Env} {w : World} {K : Value → World → Prop} {next : Act → World → Prop} (hr : Rel ds n a e) (hc : callOk P o.op = true) (h : stepOp P .plain o e w K)
    (hk : ∀ v w', K v w' → next (a.put o.dst v) w') : o.wp P a w next Q := by
  have hcl := cls_act (P := P) hr hc
  unfold stepOp at h
  simp only at h
  cases hcs : cls P (ev e) o.op o.type with
  | pure f =>
    rw [hcs] at h hcl
    obtain ⟨v, hv, hrun⟩ := hcl _ h
    exact wp_val (hrun w) (hk _ _ hv)
  | read f =>
    rw [hcs] at h hcl
    obtain ⟨v, hv, hrun⟩ := hcl _ _ h
    exact wp_val hrun (hk _ _ hv)
  | eff f =>
    rw [hcs] at h hcl
    exact wp_eff hcl h hk
theorem roundIn_fw {ro ro' : Option Nat} {l : Nat} {f : FuncId} {tmps : Array Value} {assign body : Code} {w : World} {R : Ending → World → Prop} (h : RoundIn (Fw ro) 0 P l f tmps assign body w R) : RoundIn (Fw ro') 0 P l f tmps assign body w R := h
theorem calY_in {o : Oper} {a : Act} {w : World} {g : Operand} {args : Array Operand} {ts : Array TypeId} {K : Value → World → Prop} {next : Act → World → Prop} (ho : o.op = .call ⟨.value g, args, ts⟩)
    (h : calY P (a.eval g) (args.toList.map a.eval) w K) (hk : ∀ v w', K v w' → next (a.put o.dst v) w') : o.wpIn (Fw ro) 0 P a w next Q := by
  obtain ⟨l, f, tmps, assign, body, hg, hy, hR⟩ := h
  refine ⟨fun _ _ => trivial, ?_⟩
  rw [Oper.semAt_eq _ _ _ (by rw [ho]; intro c hc; cases hc)]
  have hrun : (execOp a.eval o).run P w = .ok (.round l f tmps assign body) w := by
    rw [← hy]
    unfold execOp
    simp only [ho, resolve, hg, Deferred.ofValue, invoke, Sem.run_bind, Sem.run_pure, Result.andThen_ok, toArray_map]
    simp
  rw [hrun, Oper.uponIn_round]
  refine ⟨fun hh => by simp [Fw, Fence.wide] at hh, (roundIn_fw (ro' := ro) hR).mono fun e w' ⟨v, he, hv⟩ => ?_⟩
  subst he
  exact hk _ _ hv
theorem stepY_in {ds : List Deferred} {o : Oper} {a : Act} {e : Env} {w : World} {K : Value → World → Prop} {next : Act → World → Prop} (hr : Rel ds n a e) (hc : callOk P o.op = true) (hd : ∀ c, o.op ≠ .defer c) (h : stepY P o e w K)
    (hk : ∀ v w', K v w' → next (a.put o.dst v) w') : o.wpIn (Fw ro) 0 P a w next Q := by
  unfold stepY at h
  split at h
  · exact oper_in hd (wp_step hr hc h hk)
  · rename_i g args ts _ ho
    rw [← hr.eval] at h
    exact calY_in ho h hk
  · exact oper_in hd (wp_step hr hc h hk)
theorem runY_sound {ds : List Deferred} (hc : chkOps P n ops = true) (hd : noDefer ops = true) : ∀ (l : List Nat) (a : Act) (e : Env) (w : World) (K : Env → World → Prop), Rel ds n a e → runY P ops l e w K →
    (∀ a' e' w', Rel ds n a' e' → Agree (writesOps ops l) e e' → K e' w' → Q .normal a' w') → wpOpsIn (Fw ro) 0 P ops Q l a w
  | [], a, e, w, K, hr, h, hk => hk a e w hr (Agree.refl _ _) h
  | i :: l, a, e, w, K, hr, h, hk => by
    unfold runY at h
    unfold wpOpsIn
    cases ho : ops[i]? with
    | none => rw [ho] at h; exact h.elim
    | some o =>
      rw [ho] at h
      simp only at h ⊢
      cases hg : o.guard with
      | some g => rw [hg] at h; exact h.elim
      | none =>
        rw [hg] at h
        simp only at h
        rw [if_pos (wanted_none hg)]
        obtain ⟨h1, h2, _⟩ := chkOp_spec (chkOps_spec hc ho).1
        refine stepY_in hr h2 (noDefer_spec hd ho) h fun v w' hK => ?_
        refine runY_sound hc hd l _ _ w' K (hr.put o.dst v h1) hK fun a' e' w2 hr' ha hk' => hk a' e' w2 hr' ?_ hk'
        have e1 : writesOps ops (i :: l) = (dstOf ops i).toList ++ writesOps ops l := by
          unfold writesOps
          rw [List.filterMap_cons]
          cases dstOf ops i <;> rfl
        have e2 : dstOf ops i = o.dst := by simp [dstOf, ho]
        rw [e1]
        refine (Agree.updO e o.dst v _ fun d hd => ?_).trans (ha.mono fun t ht => by simp [ht])
        rw [e2, hd]
        simp

/-! ### Rounds -/
theorem putPs_get (args : List Value) : ∀ (ps : List Nat) (i : Nat) (a : Act) (e : Env) (ds : List Deferred), Rel ds n a e → (ps.all fun p => Nat.blt p n) = true → i + ps.length = args.length →
    Rel ds n { tmps := (ps.zip (args.drop i)).foldl (fun t (x : Nat × Value) => t.setIfInBounds x.1 x.2) a.tmps, defers := a.defers } (putPs ps i args e)
  | [], i, a, e, ds, hr, _, _ => by simpa [putPs] using hr
  | p :: ps, i, a, e, ds, hr, hp, hl => by
    simp only [List.all_cons, Bool.and_eq_true] at hp
    simp only [List.length_cons] at hl
    have hlt : i < args.length := by omega
    have hput := hr.put (some p) (args.getD i undef) fun d hd => by cases hd; simpa [Nat.blt_eq] using hp.1
    have ih := putPs_get args ps (i + 1) _ _ ds hput hp.2 (by omega)
    rw [putPs]
    have e1 : args.drop i = args.getD i undef :: args.drop (i + 1) := by
      rw [List.drop_eq_getElem_cons hlt]
      simp [List.getD_eq_getElem?_getD, hlt]
    rw [e1, List.zip_cons_cons, List.foldl_cons]
    exact ih
theorem zip_toArray (ps : Array Nat) (args : List Value) (t : Array Value) : (ps.zip args.toArray).foldl (fun tmps (x : Nat × Value) => tmps.setIfInBounds x.1 x.2) t = (ps.toList.zip args).foldl (fun tmps (x : Nat × Value) => tmps.setIfInBounds x.1 x.2) t := by
  rw [← Array.foldl_toList, Array.toList_zip]
def SndY (P : Program) (n : Nat) (A : AnY) : Prop := ∀ (ro : Option Nat) (c : Code) (e : Env) (ds : List Nat) (w : World) (a : Act) (KN : KY) (KX : Nat → KY) (KR : KY), (A.noF = true ∨ ro = none) → chkY P n A c = true →
  Rel (marks ds) n a e → intpY P A c e ds w KN KX KR → c.wpIn (Fw ro) 0 P (PostY A.noF ds n (writes c) e KN KX KR) a w
theorem setBlk_put (w : World) (g : Nat) (o : Obj) : setBlk w g o = w.putObj g o := rfl
theorem rng_sound {A B : AnY} (ihA : SndY P n A) (ihB : SndY P n B) {g : Operand} {ps : Array Tmp} {assign body : Code} {e : Env} {ds : List Nat} {w : World} {a : Act} {KN : KY} {KX : Nat → KY} {KR : KY}
    (hA : A.noF = true) (hB : B.noF = true) (hcA : chkY P n A assign = true) (hcB : chkY P n B body = true) (hps : (ps.toList.all fun p => Nat.blt p n) = true) (hr : Rel (marks ds) n a e)
    (h : intpY P (.f A B) (.rangeFunc g ps assign body) e ds w KN KX KR) : (Code.rangeFunc g ps assign body).wpIn (Fw none) 0 P (PostY false ds n [] e KN KX KR) a w := by
  unfold intpY at h
  obtain ⟨gf, cap, hg, hcal, h⟩ := h
  refine wpIn_rangeFunc ?_
  intro fn _
  obtain ⟨rec, hrec⟩ : ∃ rec : LoopState → Option Code → Loop, rec = fun st pe => { state := st, pending := pe, fn, tmps := a.tmps, params := ps, assign, body, defers := w.heap.size } := ⟨_, rfl⟩
  obtain ⟨l, hl⟩ : ∃ l, l = w.heap.size + 1 := ⟨_, rfl⟩
  have hg' : a.eval g = .func (.func gf) #[] cap := by rw [hr.eval]; exact hg
  refine ⟨w.heap.size + 1, [{ target := .collected w.heap.size, args := #[] }], (w.alloc (.deferred (some []))).alloc (.loop (rec .ready none)), { target := .fn (.func gf) cap, args := #[.func (.yield (w.heap.size + 1)) #[] #[]] }, (w.alloc (.deferred (some []))).alloc (.loop (rec .ready none)), gf,
    #[.func (.yield (w.heap.size + 1)) #[] #[]] ++ cap, (w.alloc (.deferred (some []))).alloc (.loop (rec .ready none)), ?_, ?_, fun _ _ => trivial, ?_, fun hh => by simp [Fw, Fence.wide] at hh, ?_⟩
  · rw [hrec]; exact run_enterLoop_outer _ _ _ _ _
  · simp only [resolve, hg']
    simp [Deferred.ofValue, Act.eval]
  · simp only [invoke]
    exact run_callFunc hcal _ _
  refine callsIn_fw.2 ?_
  have hq := h (.func (.yield (w.heap.size + 1)) #[] #[]) (fun st pe => .loop (rec st pe)) rfl ?_
  · have e1 : (Value.func (Fn.yield (w.heap.size + 1)) #[] #[] :: cap.toList).toArray = #[Value.func (Fn.yield (w.heap.size + 1)) #[] #[]] ++ cap := by apply Array.ext'; simp
    unfold cal at hq
    rw [e1] at hq
    refine Calls.mono hq ?_
    rintro en w3 ⟨v, rfl, j, hj, hout⟩
    have hst : (rec (endSt j) j).state ≠ .busy := by rw [hrec]; cases j <;> simp [endSt]
    have hend : (Instr.endLoop (w.heap.size + 1)).run P w3 = .ok j (w3.putObj (w.heap.size + 1) (.loop (rec .exhausted j))) := by
      have := run_endLoop (P := P) hj hst
      rw [hrec] at this ⊢
      exact this
    have hr' : Rel (marks (w.heap.size :: ds)) n { a with defers := [{ target := .collected w.heap.size, args := #[] }] ++ a.defers } e := ⟨hr.size, hr.get, by rw [hr.dfr]; rfl⟩
    refine ⟨j, _, hend, ?_⟩
    simp only [outL] at hout
    rcases hout with ⟨rfl, hk⟩ | hout
    · exact ⟨e, _, hr', Agree.refl _ _, fun hf => (by cases hf), hk⟩
    · have go : ∀ (js : List Nat), outL j (setBlk w3 (w.heap.size + 1) (.loop (rec .exhausted j))) (js.map fun x => (some (jmp x), match x with | 0 => KR e (w.heap.size :: ds) | i + 1 => KX i e (w.heap.size :: ds))) →
          ∃ x, j = some (jmp x) ∧ (match x with | 0 => KR e (w.heap.size :: ds) | i + 1 => KX i e (w.heap.size :: ds)) (setBlk w3 (w.heap.size + 1) (.loop (rec .exhausted j))) := by
        intro js
        induction js with
        | nil => intro h; exact h.elim
        | cons x js ih =>
          intro h
          rcases h with ⟨h1, h2⟩ | h
          · exact ⟨x, h1, h2⟩
          · exact ih h
      obtain ⟨x, rfl, hk⟩ := go _ hout
      cases x with
      | zero => exact wpIn_ret ⟨e, _, hr', Agree.refl _ _, fun hf => (by cases hf), hk⟩
      | succ i => exact wpIn_exit ⟨e, _, hr', Agree.refl _ _, fun hf => (by cases hf), hk⟩
  · intro args w2 K hlen hready hrnd
    have hy : (Instr.yield (w.heap.size + 1) args.toArray).run P w2 = .ok (.round (w.heap.size + 1) fn ((ps.zip args.toArray).foldl (fun tmps (x : Nat × Value) => tmps.setIfInBounds x.1 x.2) a.tmps) assign body) w2 := by
      have := run_yield (P := P) (args := args.toArray) hready (by rw [hrec]; simp [hlen])
      rw [hrec] at this
      exact this
    refine ⟨w.heap.size + 1, fn, _, assign, body, rfl, hy, ?_⟩
    refine roundIn_of_wpIn trivial ?_
    have hr1 : Rel (marks []) n { tmps := a.tmps, defers := [] } e := ⟨hr.size, hr.get, rfl⟩
    have hr2 := putPs_get args ps.toList 0 _ e _ hr1 hps (by simp [hlen])
    rw [List.drop_zero, ← zip_toArray] at hr2
    refine wpIn_mono (ihA (some (w.heap.size + 1)) assign _ [] w2 _ _ _ _ (.inl hA) hcA hr2 hrnd) ?_
    intro x a1 w3 hx
    cases x with
    | normal =>
      obtain ⟨e1, ds1, hr3, _, hd1, hb, hk⟩ := hx
      obtain rfl := hd1 hA
      have hbeg : (Instr.beginRound (w.heap.size + 1)).run P w3 = .ok () (w3.putObj (w.heap.size + 1) (.loop (rec .busy none))) := by
        have := run_beginRound (P := P) hb (by rw [hrec])
        rw [hrec] at this ⊢
        exact this
      refine ⟨_, hbeg, ?_⟩
      refine wpIn_mono (ihB (some (w.heap.size + 1)) body _ [] _ _ _ _ _ (.inl hB) hcB hr3 hk) ?_
      have fin : ∀ (j : Option Code) (w5 : World), w5.heap[w.heap.size + 1]? = some (.loop (rec .busy none)) → K (.bool j.isNone) (setBlk w5 (w.heap.size + 1) (.loop (rec (endSt j) j))) →
          ∃ v w', (Instr.endRound (w.heap.size + 1) j).run P w5 = .ok v w' ∧ Ret K (.returned v) w' := fun j w5 h1 h2 => by
        have h3 : (Instr.endRound (w.heap.size + 1) j).run P w5 = .ok (.bool j.isNone) (w5.putObj (w.heap.size + 1) (.loop (rec (endSt j) j))) := by
          have := run_endRound (P := P) j h1
          rw [hrec] at this ⊢
          exact this
        exact ⟨_, _, h3, _, rfl, h2⟩
      intro x a2 w5 hx
      cases x with
      | normal => obtain ⟨_, _, _, _, _, h1, h2⟩ := hx; exact fin none w5 h1 h2
      | exit i => obtain ⟨_, _, _, _, _, h1, h2⟩ := hx; exact fin (some (.exit i)) w5 h1 h2
      | ret => obtain ⟨_, _, _, _, _, h1, h2⟩ := hx; exact fin (some .ret) w5 h1 h2
      | _ => exact hx.elim
    | exit i => obtain ⟨_, _, _, _, _, h⟩ := hx; exact h.elim
    | ret => obtain ⟨_, _, _, _, _, h⟩ := hx; exact h.elim
    | _ => exact hx.elim

/-! ### All of it -/
theorem intpY_all (hm : P.follows .mixedOrders = true) : ∀ (A : AnY), SndY P n A := by
  intro A
  induction A with
  | j slots A ih =>
    intro ro c e ds w a KN KX KR hn hc hr h
    have hc' : A.noF = true ∧ chkY P n A c = true := by cases c <;> simpa [chkY] using hc
    unfold intpY at h
    obtain ⟨k, hb, hrest⟩ := joinN_sound h
    have h1 := ih ro c e ds w a _ KX KR (.inl hc'.1) hc'.2 hr hb
    refine wpIn_mono h1 ?_
    intro x a' w' hx
    cases x with
    | normal =>
      obtain ⟨e', ds', h2, h3, h5, h4⟩ := hx
      obtain rfl := h5 hc'.1
      obtain ⟨e'', he, hk⟩ := hrest e' w' h3 h4
      exact ⟨e'', ds', h2.congr fun t => (he t).symm, fun t ht => (he t).trans (h3 t ht), fun _ => rfl, hk⟩
    | _ => exact hx
  | s A B ihA ihB =>
    intro ro c e ds w a KN KX KR hn hc hr h
    have hn1 : A.noF = true ∨ ro = none := hn.imp (fun h => by simp only [AnY.noF, Bool.and_eq_true] at h; exact h.1) id
    have hn2 : B.noF = true ∨ ro = none := hn.imp (fun h => by simp only [AnY.noF, Bool.and_eq_true] at h; exact h.2) id
    have hfA : (AnY.s A B).noF = true → A.noF = true := fun h => by simp only [AnY.noF, Bool.and_eq_true] at h; exact h.1
    have hfB : (AnY.s A B).noF = true → B.noF = true := fun h => by simp only [AnY.noF, Bool.and_eq_true] at h; exact h.2
    cases c with
    | seq x y =>
      unfold intpY at h
      simp only [chkY, Bool.and_eq_true] at hc
      refine wpIn_seq (wpIn_mono (ihA ro x e ds w a _ KX KR hn1 hc.1 hr h) ?_)
      intro z a' w' hz
      cases z with
      | normal =>
        obtain ⟨e', ds', h1, h2, h4, h3⟩ := hz
        refine wpIn_mono (ihB ro y e' ds' w' a' KN KX KR hn2 hc.2 h1 h3) ?_
        exact PostY.mono (fun t ht => by simp [writes, ht]) (h2.mono fun t ht => by simp [writes, ht]) (fun hf => ⟨hfB hf, h4 (hfA hf)⟩) (fun _ _ _ _ _ h => h) (fun _ _ _ _ h => h) (fun _ _ _ h => h)
      | exit i => obtain ⟨e', ds', h1, h2, h4, h3⟩ := hz; exact ⟨e', ds', h1, h2.mono fun t ht => by simp [writes, ht], fun hf => h4 (hfA hf), h3⟩
      | ret => obtain ⟨e', ds', h1, h2, h4, h3⟩ := hz; exact ⟨e', ds', h1, h2.mono fun t ht => by simp [writes, ht], fun hf => h4 (hfA hf), h3⟩
      | _ => exact hz
    | cond cn x y =>
      unfold intpY at h
      simp only [chkY, Bool.and_eq_true] at hc
      obtain ⟨b, hb, h1, h2⟩ := h
      refine wpIn_cond (t := b) (by rw [hr.eval]; exact hb) ?_
      cases b with
      | true => exact wpIn_mono (ihA ro x e ds w a KN KX KR hn1 hc.1 hr (h1 rfl)) (PostY.mono (fun t ht => by simp [writes, ht]) (Agree.refl _ _) (fun hf => ⟨hfA hf, rfl⟩) (fun _ _ _ _ _ h => h) (fun _ _ _ _ h => h) (fun _ _ _ h => h))
      | false => exact wpIn_mono (ihB ro y e ds w a KN KX KR hn2 hc.2 hr (h2 rfl)) (PostY.mono (fun t ht => by simp [writes, ht]) (Agree.refl _ _) (fun hf => ⟨hfB hf, rfl⟩) (fun _ _ _ _ _ h => h) (fun _ _ _ _ h => h) (fun _ _ _ h => h))
    | _ => unfold intpY at h; exact h.elim
  | b A ih =>
    intro ro c e ds w a KN KX KR hn hc hr h
    cases c with
    | block id x =>
      unfold intpY at h
      simp only [chkY] at hc
      refine wpIn_block (wpIn_mono (ih ro x e ds w a _ _ KR hn hc hr h) ?_)
      intro z a' w' hz
      cases z with
      | normal => exact hz
      | exit i =>
        obtain ⟨e', ds', h1, h2, h4, h3⟩ := hz
        cases hb : Nat.beq i id with
        | true =>
          obtain rfl := Nat.eq_of_beq_eq_true hb
          rw [hb] at h3
          simp only [Exit.inBlock, if_true]
          exact ⟨e', ds', h1, h2, h4, h3⟩
        | false =>
          rw [hb] at h3
          have hne : ¬ i = id := fun he => by rw [he, Nat.beq_refl] at hb; cases hb
          simp only [Exit.inBlock, hne, if_false]
          exact ⟨e', ds', h1, h2, h4, h3⟩
      | _ => exact hz
    | _ => unfold intpY at h; exact h.elim
  | l slots A ih =>
    intro ro c e ds w a KN KX KR hn hc hr h
    cases c with
    | loop x =>
      unfold intpY at h
      simp only [chkY, Bool.and_eq_true] at hc
      obtain ⟨I, μ, h0, hcongr, hbody⟩ := loopN_sound h
      refine wpIn_loop (fun a' w' => ∃ e', Rel (marks ds) n a' e' ∧ Agree (writes x) e e' ∧ I e' w') (fun a' w' => μ (fun t => a'.tmps.getD t undef) w') ⟨e, hr, Agree.refl _ _, h0⟩ ?_
      rintro a1 w1 ⟨e1, hr1, ha1, hI⟩
      obtain ⟨e2, he2, hb⟩ := hbody e1 w1 ha1 hI
      refine wpIn_mono (ih ro x e2 ds w1 a1 _ KX KR (.inl hc.1) hc.2 (hr1.congr fun t => (he2 t).symm) hb) ?_
      have ha2 : Agree (writes x) e e2 := fun t ht => (he2 t).trans (ha1 t ht)
      intro z a' w' hz
      cases z with
      | normal =>
        obtain ⟨e', ds', h1, h2, h5, h3, h4⟩ := hz
        obtain rfl := h5 hc.1
        refine ⟨⟨e', h1, ha2.trans h2, h3⟩, ?_⟩
        have e3 := (hcongr (fun t => a'.tmps.getD t undef) e' w' h1.get).2
        have e4 := (hcongr (fun t => a1.tmps.getD t undef) e1 w1 hr1.get).2
        show μ (fun t => a'.tmps.getD t undef) w' < μ (fun t => a1.tmps.getD t undef) w1
        rw [e3, e4]
        exact h4
      | exit i => obtain ⟨e', ds', h1, h2, h5, h3⟩ := hz; exact ⟨e', ds', h1, ha2.trans h2, fun _ => h5 hc.1, h3⟩
      | ret => obtain ⟨e', ds', h1, h2, h5, h3⟩ := hz; exact ⟨e', ds', h1, ha2.trans h2, fun _ => h5 hc.1, h3⟩
      | _ => exact hz
    | _ => unfold intpY at h; exact h.elim
  | o =>
    intro ro c e ds w a KN KX KR hn hc hr h
    cases c with
    | skip => unfold intpY at h; exact wpIn_skip ⟨e, ds, hr, Agree.refl _ _, fun _ => rfl, h⟩
    | ret => unfold intpY at h; exact wpIn_ret ⟨e, ds, hr, Agree.refl _ _, fun _ => rfl, h⟩
    | exit i => unfold intpY at h; exact wpIn_exit ⟨e, ds, hr, Agree.refl _ _, fun _ => rfl, h⟩
    | _ => unfold intpY at h; exact h.elim
  | c A =>
    intro ro c e ds w a KN KX KR hn hc hr h
    cases c with
    | region id ops draw =>
      unfold intpY at h
      simp only [chkY, Bool.and_eq_true] at hc
      obtain ⟨Q, h1, h2, h3⟩ := region_ok hc.1 hc.2.1 hr h
      refine wpIn_mono (h1.wpIn hm hc.2.2 h2) ?_
      intro x a' w' hx
      have hp := h3 x a' w' hx
      cases x with
      | normal => obtain ⟨e', h4, h5, h6⟩ := hp; exact ⟨e', ds, h4, h5, fun _ => rfl, h6⟩
      | exit i => obtain ⟨e', h4, h5, h6⟩ := hp; exact h6.elim
      | ret => obtain ⟨e', h4, h5, h6⟩ := hp; exact h6.elim
      | _ => exact hp
    | _ => unfold intpY at h; exact h.elim
  | y =>
    intro ro c e ds w a KN KX KR hn hc hr h
    cases c with
    | region id ops draw =>
      cases draw with
      | true => unfold intpY at h; exact h.elim
      | false =>
        unfold intpY at h
        simp only [chkY, Bool.and_eq_true] at hc
        exact wpIn_region (runY_sound hc.1 hc.2 _ a e w _ hr h fun a' e' w' hr' ha hk => ⟨e', ds, hr', ha, fun _ => rfl, hk⟩)
    | _ => unfold intpY at h; exact h.elim
  | f A B ihA ihB =>
    intro ro c e ds w a KN KX KR hn hc hr h
    obtain rfl : ro = none := hn.resolve_left (by simp [AnY.noF])
    cases c with
    | rangeFunc g ps assign body =>
      simp only [chkY, Bool.and_eq_true] at hc
      obtain ⟨⟨hA, hB⟩, ⟨hcA, hcB⟩, hps⟩ := hc
      exact rng_sound ihA ihB hA hB hcA hcB hps hr h
    | _ => unfold intpY at h; exact h.elim

/-! ### A call -/
def retY (P : Program) (rs : List ResultVar) (R : Value → World → Prop) : KY := fun e ds w => takeD ds w fun w' => retK P rs R e w'
theorem takeD_leaves {fn : Func} {tmps : Array Value} {R : Ending → World → Prop} : ∀ (ds : List Nat) (w : World) (K : World → Prop), takeD ds w K →
    (∀ w', K w' → ∃ v, (results fn tmps).run P w' = .ok v w' ∧ R (.returned v) w') → LeavesInM (Fw none) 0 P fn tmps R (marks ds) .returning w
  | [], w, K, h, hk => hk w h
  | D :: ds, w, K, ⟨h1, h2⟩, hk => by
    refine ⟨by simp, .inl ⟨D, _, rfl, run_takeDeferred h1, ?_⟩⟩
    exact takeD_leaves ds _ K h2 hk
theorem calls_ofY {f : FuncId} {fn : Func} {c : Code} {A : AnY} {args : List Value} {w : World} {R : Value → World → Prop} (hm : P.follows .mixedOrders = true)
    (hf : P.funcs[f]? = some fn) (hb : fn.body = some c) (hn : Nat.ble args.length fn.ntmps = true) (hc : chkY P fn.ntmps A c = true)
    (h : intpY P A c (ini args) [] w (retY P fn.results.toList R) (fun _ _ _ _ => False) (retY P fn.results.toList R)) : Calls P f args.toArray w (Ret R) := by
  refine (callsIn_fw (ro := none) (n := 0)).1 (callsIn_of_wp_marks hf hb trivial ?_)
  have hle := Nat.le_of_ble_eq_true hn
  have hr : Rel (marks []) fn.ntmps { tmps := args.toArray ++ Array.replicate (fn.ntmps - args.toArray.size) undef, defers := [] } (ini args) := by
    refine ⟨by simp; omega, fun t => ?_, rfl⟩
    rw [ini_get]
    simp only [Array.getD_eq_getD_getElem?, Array.getElem?_append, List.getD_eq_getElem?_getD]
    by_cases ht : t < args.length
    · simp [ht]
    · have h1 : args[t]? = none := List.getElem?_eq_none (by omega)
      simp [ht, Array.getElem?_replicate]
      split <;> rfl
  refine wpIn_mono (intpY_all hm A none c _ [] w _ _ _ _ (.inr rfl) hc hr h) ?_
  have fin : ∀ (a' : Act) (w' : World) (e' : Env) (ds' : List Nat), Rel (marks ds') fn.ntmps a' e' → retY P fn.results.toList R e' ds' w' → LeavesInM (Fw none) 0 P fn a'.tmps (Ret R) a'.defers .returning w' := fun a' w' e' ds' h1 h2 => by
    rw [h1.dfr]
    refine takeD_leaves ds' w' _ h2 fun w2 h3 => ?_
    obtain ⟨v, hv, hR⟩ := results_sound h1 h3
    exact ⟨v, hv, v, rfl, hR⟩
  intro z a' w' hz
  cases z with
  | normal => obtain ⟨e', ds', h1, h2, h4, h3⟩ := hz; exact fin a' w' e' ds' h1 h3
  | ret => obtain ⟨e', ds', h1, h2, h4, h3⟩ := hz; exact fin a' w' e' ds' h1 h3
  | exit i => obtain ⟨e', ds', h1, h2, h4, h3⟩ := hz; exact h3
  | _ => exact hz.elim
end
end Go.Fx
set_option linter.unusedVariables false
set_option maxRecDepth 100000
namespace Go.Fx
noncomputable abbrev P : Program := Go.Proofs.Tryd.prog
open Go.Proofs
def bodyOf (f : Func) : Code := match f.body with | some c => c | none => .skip
theorem mixed : P.follows .mixedOrders = true := by kernel_rfl
abbrev f_law09_RecTakes : FuncId := 3
abbrev f_law09_RecBack : FuncId := 4
abbrev f_law09_RecLays : FuncId := 5
abbrev f_law09_RecOn : FuncId := 6
abbrev f_law09_RecCut : FuncId := 7
abbrev f_law09_RecScans : FuncId := 8
abbrev f_law09_live : FuncId := 9
abbrev f_bytes_Clone : FuncId := 10
abbrev f_rec_Take : FuncId := 11
abbrev f_ref09_Take : FuncId := 12
abbrev f_ref03_Same : FuncId := 13
abbrev f_bytes_Equal : FuncId := 14
abbrev f_law09_few : FuncId := 15
abbrev f_rec_Bytes : FuncId := 16
abbrev f_slices_Concat_byte_byte : FuncId := 17
abbrev f_rec_Size : FuncId := 18
abbrev f_ref09_Bytes : FuncId := 19
abbrev f_rec_Lay : FuncId := 20
abbrev f_ref09_Lay : FuncId := 21
abbrev f_rec_Scan : FuncId := 22
abbrev f_ref09_SameAll : FuncId := 23
abbrev f_ref09_Scan : FuncId := 24
abbrev f_ref09_Size : FuncId := 25
abbrev f_slices_Equal_int_int : FuncId := 26
abbrev f_law09_told : FuncId := 27
abbrev f_rec_Ends : FuncId := 28
abbrev f_pack_Read : FuncId := 29
abbrev f_pack_Unpacker_Int : FuncId := 30
abbrev f_block_Parse : FuncId := 31
abbrev f_sha_Sum : FuncId := 32
abbrev f_pack_Unpacker_Long : FuncId := 33
abbrev f_ref01_Val : FuncId := 34
abbrev f_ref03_Parse : FuncId := 35
abbrev f_block_Bytes : FuncId := 36
abbrev f_pack_New : FuncId := 37
abbrev f_pack_Packer_Int : FuncId := 38
abbrev f_pack_Packer_Long : FuncId := 39
abbrev f_pack_Packer_Fixed : FuncId := 40
abbrev f_pack_Packer_Out : FuncId := 41
abbrev f_slices_Grow_byte_byte : FuncId := 42
abbrev f_block_Check : FuncId := 43
abbrev f_ref03_Bytes : FuncId := 44
abbrev f_ref01_Num : FuncId := 45
abbrev f_ref02_Sum : FuncId := 46
abbrev f_rec_scan : FuncId := 47
abbrev f_rec_Ends_1 : FuncId := 48
abbrev f_slices_Values_int_int : FuncId := 49
abbrev f_pack_value : FuncId := 50
abbrev f_pack_Unpacker_take : FuncId := 51
abbrev f_pack_Unpacker_Short : FuncId := 52
abbrev f_pack_Unpacker_Fixed : FuncId := 53
abbrev f_pack_Unpacker_Bytes : FuncId := 54
abbrev f_pack_Unpacker_End : FuncId := 55
abbrev f_block_made : FuncId := 56
abbrev f_sha_New : FuncId := 57
abbrev f_sha_State_Write : FuncId := 58
abbrev f_sha_State_Sum : FuncId := 59
abbrev f_ref03_Clone : FuncId := 60
abbrev f_pack_Packer_Short : FuncId := 61
abbrev f_pack_Packer_Bytes : FuncId := 62
abbrev f_pack_Packer_put : FuncId := 63
abbrev f_pack_number : FuncId := 64
abbrev f_pack_Packer_Err : FuncId := 65
abbrev f_ref03_Check : FuncId := 66
abbrev f_ref02_padded : FuncId := 67
abbrev f_ref02_goes : FuncId := 68
abbrev f_slices_Values_int_int_1 : FuncId := 69
abbrev f_pack_Unpacker_works : FuncId := 70
abbrev f_pack_kept_fails : FuncId := 71
abbrev f_pack_Unpacker_counted : FuncId := 72
abbrev f_pack_Unpacker_Err : FuncId := 73
abbrev f_block_Clone : FuncId := 74
abbrev f_sha_first : FuncId := 75
abbrev f_sha_State_none : FuncId := 76
abbrev f_sha_mixed : FuncId := 77
abbrev f_pack_Packer_works : FuncId := 78
abbrev f_ref02_words : FuncId := 79
abbrev f_ref02_constants : FuncId := 80
abbrev f_ref02_turned : FuncId := 81
abbrev f_sha_schedule : FuncId := 82
abbrev f_math_bits_RotateLeft32 : FuncId := 83
abbrev f_runtime_boundsError_Error : FuncId := 84
abbrev f_runtime_boundsError_RuntimeError : FuncId := 85
abbrev f_runtime_errorString_Error : FuncId := 86
abbrev f_runtime_errorString_RuntimeError : FuncId := 87
abbrev f_runtime_plainError_Error : FuncId := 88
abbrev f_runtime_plainError_RuntimeError : FuncId := 89
abbrev f_runtime_errorAddressString_Error : FuncId := 90
abbrev f_runtime_errorAddressString_RuntimeError : FuncId := 91
abbrev f_runtime_TypeAssertionError_Error : FuncId := 92
abbrev f_runtime_TypeAssertionError_RuntimeError : FuncId := 93
abbrev f_runtime_PanicNilError_Error : FuncId := 94
abbrev f_runtime_PanicNilError_RuntimeError : FuncId := 95
abbrev f_internal_abi_Type_Align : FuncId := 96
abbrev f_internal_runtime_maps_unhashableTypeError_Error : FuncId := 97
abbrev f_internal_runtime_maps_unhashableTypeError_RuntimeError : FuncId := 98
abbrev f_api_Errno_Error : FuncId := 99
abbrev f_pack_Unpacker_Byte : FuncId := 100
abbrev f_pack_Packer_Byte : FuncId := 101
abbrev f_sha_State_Len : FuncId := 102
abbrev f_internal_abi_Kind_String : FuncId := 103
abbrev f_var_s_door_sha_cubes_is_laid_by_its_own_initialiser_plain_data_look_11 : FuncId := 104
abbrev f_var_s_door_gosem_cut_vars_holds_initialisers_alone_see_the_manifest_s_row_cutvarsword_look_11_test_files_too : FuncId := 105
abbrev f_var_s_door_the_look_of_gosem_cut_vars_went_over_the_folder_that_the_caller_named_as_the_repository_s_root_look_11 : FuncId := 106
abbrev f_gosem_cut_vars : FuncId := 107
abbrev T_ : TypeId := 0
abbrev T_func : TypeId := 1
abbrev T_int64 : TypeId := 2
abbrev T_int : TypeId := 3
abbrev T_bool : TypeId := 4
abbrev T_uint8 : TypeId := 5
abbrev T_internal_abi_BoundsErrorCode : TypeId := 6
abbrev T_struct_x_int64_y_int_signed_bool_code_abi_BoundsErrorCode : TypeId := 7
abbrev T_runtime_boundsError : TypeId := 8
abbrev T_string : TypeId := 9
abbrev T_runtime_errorString : TypeId := 10
abbrev T_runtime_plainError : TypeId := 11
abbrev T_uintptr : TypeId := 12
abbrev T_struct_msg_string_addr_uintptr : TypeId := 13
abbrev T_runtime_errorAddressString : TypeId := 14
abbrev T_p_runtime_TypeAssertionError : TypeId := 15
abbrev T_p_runtime_PanicNilError : TypeId := 16
abbrev T_p_abi_Type : TypeId := 17
abbrev T_struct_typ_p_abi_Type : TypeId := 18
abbrev T_internal_runtime_maps_unhashableTypeError : TypeId := 19
abbrev T_interface : TypeId := 20
abbrev T_int32 : TypeId := 21
abbrev T_sl_uint8 : TypeId := 22
abbrev T_func_bool : TypeId := 23
abbrev T_func_sl_uint8_sl_uint8 : TypeId := 24
abbrev T_a32_uint8 : TypeId := 25
abbrev T_api_ID : TypeId := 26
abbrev T_struct_Parent_api_ID_Height_int64_Data_sl_uint8 : TypeId := 27
abbrev T_api_Block : TypeId := 28
abbrev T_api_Errno : TypeId := 29
abbrev T_api_Block_int_api_Errno : TypeId := 30
abbrev T_func_sl_uint8_int_api_Block_int_api_Errno : TypeId := 31
abbrev T_func_api_Block_api_Block_bool : TypeId := 32
abbrev T_func_sl_uint8_sl_uint8_bool : TypeId := 33
abbrev T_func_sl_uint8_int_bool : TypeId := 34
abbrev T_func_sl_api_Block_bool : TypeId := 35
abbrev T_sl_api_Block : TypeId := 36
abbrev T_sl_uint8_api_Errno : TypeId := 37
abbrev T_func_api_Block_sl_uint8_api_Errno : TypeId := 38
abbrev T_func_sl_uint8_sl_uint8_1 : TypeId := 39
abbrev T_func_api_Block_int : TypeId := 40
abbrev T_func_api_Block_sl_uint8_sl_uint8_bool : TypeId := 41
abbrev T_func_api_Block_sl_uint8_api_Errno_1 : TypeId := 42
abbrev T_func_sl_api_Block_sl_uint8_api_Errno : TypeId := 43
abbrev T_sl_api_Block_int : TypeId := 44
abbrev T_func_sl_uint8_sl_api_Block_int : TypeId := 45
abbrev T_func_sl_api_Block_sl_api_Block_bool : TypeId := 46
abbrev T_func_sl_uint8_sl_api_Block_bool : TypeId := 47
abbrev T_uint16 : TypeId := 48
abbrev T_func_sl_api_Block_uint16_bool : TypeId := 49
abbrev T_sl_int : TypeId := 50
abbrev T_func_sl_int_sl_int_bool : TypeId := 51
abbrev T_func_iter_Seq_int_int_sl_int : TypeId := 52
abbrev T_func_func_int_bool : TypeId := 53
abbrev T_iter_Seq_int : TypeId := 54
abbrev T_func_sl_uint8_iter_Seq_int : TypeId := 55
abbrev T_func_sl_uint8_uint8_bool : TypeId := 56
abbrev T_uint32 : TypeId := 57
abbrev T_p_pack_Unpacker : TypeId := 58
abbrev T_func_sl_uint8_p_pack_Unpacker : TypeId := 59
abbrev T_func_uint32 : TypeId := 60
abbrev T_api_Block_api_Errno : TypeId := 61
abbrev T_func_sl_uint8_api_Block_api_Errno : TypeId := 62
abbrev T_func_sl_uint8_api_ID : TypeId := 63
abbrev T_uint64 : TypeId := 64
abbrev T_func_uint64 : TypeId := 65
abbrev T_func_sl_uint8_uint64 : TypeId := 66
abbrev T_p_pack_Packer : TypeId := 67
abbrev T_func_int_p_pack_Packer : TypeId := 68
abbrev T_func_uint32_1 : TypeId := 69
abbrev T_func_uint64_1 : TypeId := 70
abbrev T_func_uint8 : TypeId := 71
abbrev T_func_sl_uint8_api_Errno : TypeId := 72
abbrev T_sl_sl_uint8 : TypeId := 73
abbrev T_func_sl_uint8_int_sl_uint8 : TypeId := 74
abbrev T_func_api_Block_api_Errno : TypeId := 75
abbrev T_func_int_uint64_sl_uint8 : TypeId := 76
abbrev T_sl_api_Block_sl_int : TypeId := 77
abbrev T_func_sl_uint8_sl_api_Block_sl_int : TypeId := 78
abbrev T_func_int_bool : TypeId := 79
abbrev T_func_sl_int_iter_Seq_int : TypeId := 80
abbrev T_struct_made_bool_b_sl_uint8_err_api_Errno : TypeId := 81
abbrev T_pack_kept : TypeId := 82
abbrev T_struct_pack_kept : TypeId := 83
abbrev T_pack_Unpacker : TypeId := 84
abbrev T_func_int_sl_uint8 : TypeId := 85
abbrev T_func_uint16 : TypeId := 86
abbrev T_func_api_Errno : TypeId := 87
abbrev T_func_api_Block_api_Block_api_Errno : TypeId := 88
abbrev T_p_sha_State : TypeId := 89
abbrev T_func_p_sha_State : TypeId := 90
abbrev T_func_sl_uint8_api_Errno_1 : TypeId := 91
abbrev T_func_api_ID : TypeId := 92
abbrev T_func_api_Block_api_Block : TypeId := 93
abbrev T_func_uint16_1 : TypeId := 94
abbrev T_func_sl_uint8 : TypeId := 95
abbrev T_struct_pack_kept_limit_int : TypeId := 96
abbrev T_pack_Packer : TypeId := 97
abbrev T_func_sl_uint8_sl_uint8_2 : TypeId := 98
abbrev T_a8_uint32 : TypeId := 99
abbrev T_func_a8_uint32_sl_uint8_a8_uint32 : TypeId := 100
abbrev T_uint : TypeId := 101
abbrev T_func_api_Errno_1 : TypeId := 102
abbrev T_func_int_int_sl_uint8 : TypeId := 103
abbrev T_func_a8_uint32 : TypeId := 104
abbrev T_struct_h_a8_uint32_rest_sl_uint8_n_int64_made_bool : TypeId := 105
abbrev T_sha_State : TypeId := 106
abbrev T_a64_uint32 : TypeId := 107
abbrev T_func_sl_uint8_a64_uint32 : TypeId := 108
abbrev T_func_a64_uint32 : TypeId := 109
abbrev T_func_uint32_uint_uint32 : TypeId := 110
abbrev T_p_pack_kept : TypeId := 111
abbrev T_func_uint32_int_uint32 : TypeId := 112
abbrev T_func_string : TypeId := 113
abbrev T_struct_interface_p_abi_Type_concrete_p_abi_Type_asserted_p_a : TypeId := 114
abbrev T_runtime_TypeAssertionError : TypeId := 115
abbrev T_a0_p_runtime_PanicNilError : TypeId := 116
abbrev T_struct_a0_p_runtime_PanicNilError : TypeId := 117
abbrev T_runtime_PanicNilError : TypeId := 118
abbrev T_func_int : TypeId := 119
abbrev T_internal_abi_TFlag : TypeId := 120
abbrev T_internal_abi_Kind : TypeId := 121
abbrev T_func_unsafe_Pointer_unsafe_Pointer_bool : TypeId := 122
abbrev T_p_uint8 : TypeId := 123
abbrev T_internal_abi_NameOff : TypeId := 124
abbrev T_internal_abi_TypeOff : TypeId := 125
abbrev T_struct_Size_uintptr_PtrBytes_uintptr_Hash_uint32_TFlag_abi_T : TypeId := 126
abbrev T_internal_abi_Type : TypeId := 127
abbrev T_func_uint8_1 : TypeId := 128
abbrev T_func_uint8_2 : TypeId := 129
abbrev T_func_int64 : TypeId := 130
abbrev T_unsafe_Pointer : TypeId := 131
/-- flurry/flurrylaw09.RecTakes -/
def A_law09_RecTakes : An := (An.s (An.r []) (An.s (An.s (An.r [[18]]) (An.s (An.s (An.r []) An.o) An.o)) (An.s (An.r []) (An.s (An.r []) (An.s (An.r []) (An.s (An.s (An.r [[44], [49]]) (An.s (An.s (An.r []) An.o) An.o)) (An.s (An.s (An.r []) (An.b (An.l [54] (An.s (An.r []) (An.s (An.s An.o An.o) (An.s (An.b (An.s (An.r []) (An.r []))) (An.r []))))))) (An.s (An.r []) An.o))))))))
def c_law09_RecTakes (t0 t1 : Value) (w : World) (R : Value → World → Prop) : Prop :=
  cal P f_law09_live [] w fun t13 w =>
  notB t13 fun t14 =>
  jn1 (fun k0 =>
  gif t14 false
  (lenS t0 fun t17 =>
  bi BinOp.gtr t17 (Value.int IntKind.i64 10000) fun t18 =>
  k0 t18 w)
  (k0 undef w)) fun _ t18_1 w =>
  pik t14 (Value.bool true) t18_1 fun t19 =>
  cnd t19
  (cal P f_law09_live [] w fun t20 w =>
  R t20 w)
  (cal P f_bytes_Clone [t0] w fun t22 w =>
  cal P f_rec_Take [t0, t1] w fun t26 w =>
  ext 0 t26 fun t27 =>
  ext 1 t26 fun t28 =>
  ext 2 t26 fun t29 =>
  efP P (Instr.alloc T_api_Block true (.tuple #[])) w fun t6 w =>
  stN 34 t6 t27 w fun w =>
  cal P f_ref09_Take [t0, t1] w fun t33 w =>
  ext 0 t33 fun t34 =>
  ext 1 t33 fun t35 =>
  ext 2 t33 fun t36 =>
  efP P (Instr.alloc T_api_Block true (.tuple #[])) w fun t9 w =>
  stN 34 t9 t34 w fun w =>
  ldN 34 t6 w.heap fun t37 =>
  ldN 34 t9 w.heap fun t38 =>
  cal P f_ref03_Same [t37, t38] w fun t39 w =>
  notB t39 fun t40 =>
  jn1 (fun k1 =>
  gif t40 false
  (bi BinOp.neq t28 t35 fun t44 =>
  k1 t44 w)
  (k1 undef w)) fun _ t44_1 w =>
  pik t40 (Value.bool true) t44_1 fun t45 =>
  jn1 (fun k2 =>
  gif t45 false
  (bi BinOp.neq t29 t36 fun t49 =>
  k2 t49 w)
  (k2 undef w)) fun _ t49_1 w =>
  pik t45 (Value.bool true) t49_1 fun t50 =>
  cnd t50
  (R (Value.bool false) w)
  (fad 33 t6 fun t51 =>
  ld1 t51 w.heap fun t52 =>
  lenS t52 fun t53 =>
  lp1 (Value.int IntKind.i64 0) w fun _ t54 w again3 =>
  bi BinOp.lss t54 t53 fun t55 =>
  cnd t55
  (fad 33 t6 fun t57 =>
  ld1 t57 w.heap fun t58 =>
  ixs 1 t58 t54 fun t60 =>
  ld1 t60 w.heap fun t61 =>
  bi BinOp.xor t61 (Value.int IntKind.u8 255) fun t62 =>
  ixs 1 t58 t54 fun t63 =>
  st1 t63 t62 w fun w =>
  bi BinOp.add t54 (Value.int IntKind.i64 1) fun t64 =>
  again3 t64 w)
  (cal P f_bytes_Equal [t0, t22] w fun t67 w =>
  R t67 w)))
theorem e_law09_RecTakes (t0 t1 : Value) (w : World) (R : Value → World → Prop) : intp P A_law09_RecTakes (bodyOf Tryd.f3) (ini [t0, t1]) w (retK P Tryd.f3.results.toList R) (fun _ _ _ => False) (retK P Tryd.f3.results.toList R) = c_law09_RecTakes t0 t1 w R := by kernel_rfl
theorem k_law09_RecTakes : chk P Tryd.f3.ntmps A_law09_RecTakes (bodyOf Tryd.f3) = true := by kernel_rfl
theorem l_law09_RecTakes {t0 t1 : Value} {w : World} {R : Value → World → Prop} (h : c_law09_RecTakes t0 t1 w R) : cal P f_law09_RecTakes [t0, t1] w R :=
  calls_of mixed Tryd.func3 rfl (by kernel_rfl) k_law09_RecTakes (Eq.mpr (e_law09_RecTakes t0 t1 w R) h)
theorem s_law09_RecTakes {t0 t1 : Value} {w : World} {Q : Value → World → Prop} (h : ∀ R : Value → World → Prop, (∀ v w', Q v w' → R v w') → c_law09_RecTakes t0 t1 w R) : cal P f_law09_RecTakes [t0, t1] w Q := l_law09_RecTakes (h Q fun _ _ h => h)

/-- flurry/flurrylaw09.RecBack -/
def A_law09_RecBack : An := (An.s (An.r []) (An.s (An.s (An.r [[22], [27], [32]]) (An.s (An.s (An.r []) An.o) An.o)) (An.s (An.j [] (An.s (An.r []) (An.s (An.r []) (An.s (An.s (An.r []) (An.s (An.r [[63], [69], [76]]) (An.s (An.s (An.r []) An.o) An.o))) An.o)))) (An.s (An.r []) (An.s (An.s (An.r []) (An.s (An.s (An.r []) An.o) An.o)) (An.s (An.r []) (An.s (An.r [[99], [105], [112]]) An.o)))))))
def c_law09_RecBack (t0 t1 t2 : Value) (w : World) (R : Value → World → Prop) : Prop :=
  bx T_api_Block t0 w fun t3 w =>
  cal P f_law09_live [] w fun t16 w =>
  notB t16 fun t17 =>
  jn1 (fun k0 =>
  gif t17 false
  (ldN 34 t3 w.heap fun t19 =>
  efP P (Instr.buildSlice T_sl_api_Block 1 #[(0, t19)]) w fun t20 w =>
  cal P f_law09_few [t20] w fun t21 w =>
  notB t21 fun t22 =>
  k0 t22 w)
  (k0 undef w)) fun _ t22_1 w =>
  pik t17 (Value.bool true) t22_1 fun t23 =>
  jn1 (fun k1 =>
  gif t23 false
  (lenS t1 fun t26 =>
  bi BinOp.gtr t26 (Value.int IntKind.i64 3000) fun t27 =>
  k1 t27 w)
  (k1 undef w)) fun _ t27_1 w =>
  pik t23 (Value.bool true) t27_1 fun t28 =>
  jn1 (fun k2 =>
  gif t28 false
  (lenS t2 fun t31 =>
  bi BinOp.gtr t31 (Value.int IntKind.i64 3000) fun t32 =>
  k2 t32 w)
  (k2 undef w)) fun _ t32_1 w =>
  pik t28 (Value.bool true) t32_1 fun t33 =>
  cnd t33
  (cal P f_law09_live [] w fun t34 w =>
  R t34 w)
  (jn0 (fun k3 =>
  ldN 34 t3 w.heap fun t36 =>
  cal P f_rec_Bytes [t36] w fun t37 w =>
  ext 0 t37 fun t38 =>
  ext 1 t37 fun t39 =>
  bi BinOp.eql t39 (Value.int IntKind.i64 0) fun t41 =>
  cnd t41
  (efP P (Instr.buildSlice T_sl_sl_uint8 3 #[(0, t1), (1, t38), (2, t2)]) w fun t46 w =>
  cal P f_slices_Concat_byte_byte [t46] w fun t47 w =>
  lenS t1 fun t49 =>
  cal P f_rec_Take [t47, t49] w fun t50 w =>
  ext 0 t50 fun t51 =>
  ext 1 t50 fun t52 =>
  ext 2 t50 fun t53 =>
  efP P (Instr.alloc T_api_Block true (.tuple #[])) w fun t9 w =>
  stN 34 t9 t51 w fun w =>
  bi BinOp.neq t53 (Value.int IntKind.i64 0) fun t55 =>
  jn1 (fun k4 =>
  gif t55 false
  (lenS t1 fun t59 =>
  lenS t38 fun t61 =>
  bi BinOp.add t59 t61 fun t62 =>
  bi BinOp.neq t52 t62 fun t63 =>
  k4 t63 w)
  (k4 undef w)) fun _ t63_1 w =>
  pik t55 (Value.bool true) t63_1 fun t64 =>
  jn1 (fun k5 =>
  gif t64 false
  (ldN 34 t9 w.heap fun t66 =>
  ldN 34 t3 w.heap fun t67 =>
  cal P f_ref03_Same [t66, t67] w fun t68 w =>
  notB t68 fun t69 =>
  k5 t69 w)
  (k5 undef w)) fun _ t69_1 w =>
  pik t64 (Value.bool true) t69_1 fun t70 =>
  jn1 (fun k6 =>
  gif t70 false
  (lenS t38 fun t73 =>
  ldN 34 t3 w.heap fun t74 =>
  cal P f_rec_Size [t74] w fun t75 w =>
  bi BinOp.neq t73 t75 fun t76 =>
  k6 t76 w)
  (k6 undef w)) fun _ t76_1 w =>
  pik t70 (Value.bool true) t76_1 fun t77 =>
  cnd t77
  (R (Value.bool false) w)
  (k3 w))
  (k3 w)) fun _ w =>
  cal P f_rec_Take [t2, (Value.int IntKind.i64 0)] w fun t80 w =>
  ext 0 t80 fun t81 =>
  ext 1 t80 fun t82 =>
  ext 2 t80 fun t83 =>
  efP P (Instr.alloc T_api_Block true (.tuple #[])) w fun t12 w =>
  stN 34 t12 t81 w fun w =>
  bi BinOp.neq t83 (Value.int IntKind.i64 0) fun t85 =>
  cnd t85
  (bi BinOp.eql t82 (Value.int IntKind.i64 0) fun t87 =>
  R t87 w)
  (ldN 34 t12 w.heap fun t89 =>
  cal P f_rec_Bytes [t89] w fun t90 w =>
  ext 0 t90 fun t91 =>
  ext 1 t90 fun t92 =>
  bi BinOp.eql t92 (Value.int IntKind.i64 0) fun t94 =>
  jn1 (fun k7 =>
  gif t94 true
  (lenS t91 fun t98 =>
  bi BinOp.eql t82 t98 fun t99 =>
  k7 t99 w)
  (k7 undef w)) fun _ t99_1 w =>
  pik t94 t99_1 (Value.bool false) fun t100 =>
  jn1 (fun k8 =>
  gif t100 true
  (lenS t2 fun t104 =>
  bi BinOp.leq t82 t104 fun t105 =>
  k8 t105 w)
  (k8 undef w)) fun _ t105_1 w =>
  pik t100 t105_1 (Value.bool false) fun t106 =>
  jn1 (fun k9 =>
  gif t106 true
  (slc 1 t2 none (some t82) fun t111 =>
  cal P f_bytes_Equal [t91, t111] w fun t112 w =>
  k9 t112 w)
  (k9 undef w)) fun _ t112_1 w =>
  pik t106 t112_1 (Value.bool false) fun t113 =>
  R t113 w))
theorem e_law09_RecBack (t0 t1 t2 : Value) (w : World) (R : Value → World → Prop) : intp P A_law09_RecBack (bodyOf Tryd.f4) (ini [t0, t1, t2]) w (retK P Tryd.f4.results.toList R) (fun _ _ _ => False) (retK P Tryd.f4.results.toList R) = c_law09_RecBack t0 t1 t2 w R := by kernel_rfl
theorem k_law09_RecBack : chk P Tryd.f4.ntmps A_law09_RecBack (bodyOf Tryd.f4) = true := by kernel_rfl
theorem l_law09_RecBack {t0 t1 t2 : Value} {w : World} {R : Value → World → Prop} (h : c_law09_RecBack t0 t1 t2 w R) : cal P f_law09_RecBack [t0, t1, t2] w R :=
  calls_of mixed Tryd.func4 rfl (by kernel_rfl) k_law09_RecBack (Eq.mpr (e_law09_RecBack t0 t1 t2 w R) h)
theorem s_law09_RecBack {t0 t1 t2 : Value} {w : World} {Q : Value → World → Prop} (h : ∀ R : Value → World → Prop, (∀ v w', Q v w' → R v w') → c_law09_RecBack t0 t1 t2 w R) : cal P f_law09_RecBack [t0, t1, t2] w Q := l_law09_RecBack (h Q fun _ _ h => h)

/-- flurry/flurrylaw09.RecLays -/
def A_law09_RecLays : An := (An.s (An.r []) (An.s (An.s (An.r [[18]]) (An.s (An.s (An.r []) An.o) An.o)) (An.s (An.s (An.r []) (An.b (An.l [23] (An.s (An.r []) (An.s (An.s An.o An.o) (An.s (An.b (An.s (An.r []) (An.s (An.r []) (An.s (An.r []) (An.s (An.r [[44], [51]]) (An.s (An.s (An.r []) An.o) An.o)))))) (An.r []))))))) (An.s (An.r []) (An.s (An.r []) (An.s (An.r [[70]]) An.o))))))
def c_law09_RecLays (t0 : Value) (w : World) (R : Value → World → Prop) : Prop :=
  cal P f_law09_live [] w fun t13 w =>
  notB t13 fun t14 =>
  jn1 (fun k0 =>
  gif t14 false
  (cal P f_law09_few [t0] w fun t17 w =>
  notB t17 fun t18 =>
  k0 t18 w)
  (k0 undef w)) fun _ t18_1 w =>
  pik t14 (Value.bool true) t18_1 fun t19 =>
  cnd t19
  (cal P f_law09_live [] w fun t20 w =>
  R t20 w)
  (lenS t0 fun t22 =>
  lp1 (Value.int IntKind.i64 0) w fun _ t23 w again1 =>
  bi BinOp.lss t23 t22 fun t24 =>
  cnd t24
  (ixs 34 t0 t23 fun t25 =>
  ldN 34 t25 w.heap fun t26 =>
  efP P (Instr.alloc T_api_Block true (.tuple #[])) w fun t4 w =>
  stN 34 t4 t26 w fun w =>
  ldN 34 t4 w.heap fun t28 =>
  cal P f_rec_Bytes [t28] w fun t29 w =>
  ext 0 t29 fun t30 =>
  ext 1 t29 fun t31 =>
  ldN 34 t4 w.heap fun t33 =>
  cal P f_ref09_Bytes [t33] w fun t34 w =>
  ext 0 t34 fun t35 =>
  ext 1 t34 fun t36 =>
  cal P f_bytes_Equal [t30, t35] w fun t39 w =>
  notB t39 fun t40 =>
  jn1 (fun k2 =>
  gif t40 false
  (bi BinOp.neq t31 t36 fun t44 =>
  k2 t44 w)
  (k2 undef w)) fun _ t44_1 w =>
  pik t40 (Value.bool true) t44_1 fun t45 =>
  jn1 (fun k3 =>
  gif t45 false
  (ldN 34 t4 w.heap fun t47 =>
  cal P f_rec_Size [t47] w fun t48 w =>
  lenS t35 fun t50 =>
  bi BinOp.neq t48 t50 fun t51 =>
  k3 t51 w)
  (k3 undef w)) fun _ t51_1 w =>
  pik t45 (Value.bool true) t51_1 fun t52 =>
  cnd t52
  (R (Value.bool false) w)
  (bi BinOp.add t23 (Value.int IntKind.i64 1) fun t53 =>
  again1 t53 w))
  (cal P f_rec_Lay [t0] w fun t56 w =>
  ext 0 t56 fun t57 =>
  ext 1 t56 fun t58 =>
  cal P f_ref09_Lay [t0] w fun t61 w =>
  ext 0 t61 fun t62 =>
  ext 1 t61 fun t63 =>
  cal P f_bytes_Equal [t57, t62] w fun t66 w =>
  jn1 (fun k4 =>
  gif t66 true
  (bi BinOp.eql t58 t63 fun t70 =>
  k4 t70 w)
  (k4 undef w)) fun _ t70_1 w =>
  pik t66 t70_1 (Value.bool false) fun t71 =>
  R t71 w))
theorem e_law09_RecLays (t0 : Value) (w : World) (R : Value → World → Prop) : intp P A_law09_RecLays (bodyOf Tryd.f5) (ini [t0]) w (retK P Tryd.f5.results.toList R) (fun _ _ _ => False) (retK P Tryd.f5.results.toList R) = c_law09_RecLays t0 w R := by kernel_rfl
theorem k_law09_RecLays : chk P Tryd.f5.ntmps A_law09_RecLays (bodyOf Tryd.f5) = true := by kernel_rfl
theorem l_law09_RecLays {t0 : Value} {w : World} {R : Value → World → Prop} (h : c_law09_RecLays t0 w R) : cal P f_law09_RecLays [t0] w R :=
  calls_of mixed Tryd.func5 rfl (by kernel_rfl) k_law09_RecLays (Eq.mpr (e_law09_RecLays t0 w R) h)
theorem s_law09_RecLays {t0 : Value} {w : World} {Q : Value → World → Prop} (h : ∀ R : Value → World → Prop, (∀ v w', Q v w' → R v w') → c_law09_RecLays t0 w R) : cal P f_law09_RecLays [t0] w Q := l_law09_RecLays (h Q fun _ _ h => h)

/-- flurry/flurrylaw09.RecOn -/
def A_law09_RecOn : An := (An.s (An.r []) (An.s (An.s (An.r [[16], [21]]) (An.s (An.s (An.r []) An.o) An.o)) (An.s (An.r []) (An.s (An.r []) (An.s (An.s (An.r [[38], [44]]) (An.s (An.s (An.r []) An.o) An.o)) (An.s (An.r []) (An.s (An.r [[72], [83], [94]]) An.o)))))))
def c_law09_RecOn (t0 t1 : Value) (w : World) (R : Value → World → Prop) : Prop :=
  cal P f_law09_live [] w fun t11 w =>
  notB t11 fun t12 =>
  jn1 (fun k0 =>
  gif t12 false
  (cal P f_law09_few [t1] w fun t15 w =>
  notB t15 fun t16 =>
  k0 t16 w)
  (k0 undef w)) fun _ t16_1 w =>
  pik t12 (Value.bool true) t16_1 fun t17 =>
  jn1 (fun k1 =>
  gif t17 false
  (lenS t0 fun t20 =>
  bi BinOp.gtr t20 (Value.int IntKind.i64 10000) fun t21 =>
  k1 t21 w)
  (k1 undef w)) fun _ t21_1 w =>
  pik t17 (Value.bool true) t21_1 fun t22 =>
  cnd t22
  (cal P f_law09_live [] w fun t23 w =>
  R t23 w)
  (cal P f_rec_Scan [t0] w fun t26 w =>
  ext 0 t26 fun t27 =>
  ext 1 t26 fun t28 =>
  cal P f_rec_Lay [t1] w fun t31 w =>
  ext 0 t31 fun t32 =>
  ext 1 t31 fun t33 =>
  bi BinOp.neq t33 (Value.int IntKind.i64 0) fun t35 =>
  jn1 (fun k2 =>
  gif t35 false
  (bi BinOp.lss t28 (Value.int IntKind.i64 0) fun t38 =>
  k2 t38 w)
  (k2 undef w)) fun _ t38_1 w =>
  pik t35 (Value.bool true) t38_1 fun t39 =>
  jn1 (fun k3 =>
  gif t39 false
  (lenS t0 fun t43 =>
  bi BinOp.gtr t28 t43 fun t44 =>
  k3 t44 w)
  (k3 undef w)) fun _ t44_1 w =>
  pik t39 (Value.bool true) t44_1 fun t45 =>
  cnd t45
  (bi BinOp.neq t33 (Value.int IntKind.i64 0) fun t47 =>
  R t47 w)
  (slc 1 t0 none (some t28) fun t51 =>
  cal P f_bytes_Clone [t51] w fun t52 w =>
  efP P (Builtin.append_ #[T_sl_uint8, T_sl_uint8] T_sl_uint8 #[t52, t32]) w fun t54 w =>
  cal P f_rec_Scan [t54] w fun t55 w =>
  ext 0 t55 fun t56 =>
  ext 1 t55 fun t57 =>
  lenS t32 fun t61 =>
  bi BinOp.add t28 t61 fun t62 =>
  bi BinOp.eql t57 t62 fun t63 =>
  jn1 (fun k4 =>
  gif t63 true
  (lenS t56 fun t66 =>
  lenS t27 fun t68 =>
  lenS t1 fun t70 =>
  bi BinOp.add t68 t70 fun t71 =>
  bi BinOp.eql t66 t71 fun t72 =>
  k4 t72 w)
  (k4 undef w)) fun _ t72_1 w =>
  pik t63 t72_1 (Value.bool false) fun t73 =>
  jn1 (fun k5 =>
  gif t73 true
  (lenS t56 fun t77 =>
  lenS t27 fun t79 =>
  rdP P (Builtin.min_ #[T_int, T_int] T_int #[t77, t79]) w fun t80 =>
  slc 34 t56 none (some t80) fun t81 =>
  cal P f_ref09_SameAll [t81, t27] w fun t83 w =>
  k5 t83 w)
  (k5 undef w)) fun _ t83_1 w =>
  pik t73 t83_1 (Value.bool false) fun t84 =>
  jn1 (fun k6 =>
  gif t84 true
  (lenS t56 fun t88 =>
  lenS t27 fun t90 =>
  rdP P (Builtin.min_ #[T_int, T_int] T_int #[t88, t90]) w fun t91 =>
  slc 34 t56 (some t91) none fun t92 =>
  cal P f_ref09_SameAll [t92, t1] w fun t94 w =>
  k6 t94 w)
  (k6 undef w)) fun _ t94_1 w =>
  pik t84 t94_1 (Value.bool false) fun t95 =>
  R t95 w))
theorem e_law09_RecOn (t0 t1 : Value) (w : World) (R : Value → World → Prop) : intp P A_law09_RecOn (bodyOf Tryd.f6) (ini [t0, t1]) w (retK P Tryd.f6.results.toList R) (fun _ _ _ => False) (retK P Tryd.f6.results.toList R) = c_law09_RecOn t0 t1 w R := by kernel_rfl
theorem k_law09_RecOn : chk P Tryd.f6.ntmps A_law09_RecOn (bodyOf Tryd.f6) = true := by kernel_rfl
theorem l_law09_RecOn {t0 t1 : Value} {w : World} {R : Value → World → Prop} (h : c_law09_RecOn t0 t1 w R) : cal P f_law09_RecOn [t0, t1] w R :=
  calls_of mixed Tryd.func6 rfl (by kernel_rfl) k_law09_RecOn (Eq.mpr (e_law09_RecOn t0 t1 w R) h)
theorem s_law09_RecOn {t0 t1 : Value} {w : World} {Q : Value → World → Prop} (h : ∀ R : Value → World → Prop, (∀ v w', Q v w' → R v w') → c_law09_RecOn t0 t1 w R) : cal P f_law09_RecOn [t0, t1] w Q := l_law09_RecOn (h Q fun _ _ h => h)

/-- flurry/flurrylaw09.RecCut -/
def A_law09_RecCut : An := (An.s (An.r []) (An.s (An.s (An.r [[17]]) (An.s (An.s (An.r []) An.o) An.o)) (An.s (An.r []) (An.s (An.s (An.r []) (An.s (An.s (An.r []) An.o) An.o)) (An.s (An.r []) (An.s (An.r []) (An.s (An.b (An.l [8, 9] (An.s (An.s (An.r [[49]]) (An.s An.o An.o)) (An.b (An.s (An.r []) (An.r [])))))) (An.s (An.r []) (An.s (An.r []) (An.s (An.r [[84], [88]]) An.o))))))))))
def c_law09_RecCut (t0 t1 : Value) (w : World) (R : Value → World → Prop) : Prop :=
  cal P f_law09_live [] w fun t12 w =>
  notB t12 fun t13 =>
  jn1 (fun k0 =>
  gif t13 false
  (cal P f_law09_few [t0] w fun t16 w =>
  notB t16 fun t17 =>
  k0 t17 w)
  (k0 undef w)) fun _ t17_1 w =>
  pik t13 (Value.bool true) t17_1 fun t18 =>
  cnd t18
  (cal P f_law09_live [] w fun t19 w =>
  R t19 w)
  (cal P f_rec_Lay [t0] w fun t22 w =>
  ext 0 t22 fun t23 =>
  ext 1 t22 fun t24 =>
  bi BinOp.neq t24 (Value.int IntKind.i64 0) fun t26 =>
  cnd t26
  (lenS t23 fun t28 =>
  bi BinOp.eql t28 (Value.int IntKind.i64 0) fun t29 =>
  R t29 w)
  (cvi IntKind.i64 t1 fun t31 =>
  lenS t23 fun t33 =>
  bi BinOp.add t33 (Value.int IntKind.i64 1) fun t34 =>
  bi BinOp.rem t31 t34 fun t35 =>
  lp2 (Value.int IntKind.i64 0) (Value.int IntKind.i64 0) w fun _ t8 t9 w again1 =>
  lenS t0 fun t38 =>
  bi BinOp.lss t8 t38 fun t39 =>
  jn1 (fun k2 =>
  gif t39 true
  (ixs 34 t0 t8 fun t43 =>
  ldN 34 t43 w.heap fun t44 =>
  cal P f_rec_Size [t44] w fun t45 w =>
  bi BinOp.sub t35 t9 fun t48 =>
  bi BinOp.leq t45 t48 fun t49 =>
  k2 t49 w)
  (k2 undef w)) fun _ t49_1 w =>
  pik t39 t49_1 (Value.bool false) fun t50 =>
  cnd t50
  (ixs 34 t0 t8 fun t54 =>
  ldN 34 t54 w.heap fun t55 =>
  cal P f_rec_Size [t55] w fun t56 w =>
  bi BinOp.add t9 t56 fun t57 =>
  bi BinOp.add t8 (Value.int IntKind.i64 1) fun t59 =>
  again1 t59 t57 w)
  (slc 1 t23 none (some t35) fun t63 =>
  cal P f_rec_Scan [t63] w fun t64 w =>
  ext 0 t64 fun t65 =>
  ext 1 t64 fun t66 =>
  slc 1 t23 none (some t35) fun t70 =>
  cal P f_rec_Take [t70, t66] w fun t72 w =>
  ext 0 t72 fun t73 =>
  ext 1 t72 fun t74 =>
  ext 2 t72 fun t75 =>
  slc 34 t0 none (some t8) fun t79 =>
  cal P f_ref09_SameAll [t65, t79] w fun t80 w =>
  jn1 (fun k3 =>
  gif t80 true
  (bi BinOp.eql t66 t9 fun t84 =>
  k3 t84 w)
  (k3 undef w)) fun _ t84_1 w =>
  pik t80 t84_1 (Value.bool false) fun t85 =>
  jn1 (fun k4 =>
  gif t85 true
  (bi BinOp.eql t75 (Value.int IntKind.i64 11) fun t88 =>
  k4 t88 w)
  (k4 undef w)) fun _ t88_1 w =>
  pik t85 t88_1 (Value.bool false) fun t89 =>
  R t89 w)))
theorem e_law09_RecCut (t0 t1 : Value) (w : World) (R : Value → World → Prop) : intp P A_law09_RecCut (bodyOf Tryd.f7) (ini [t0, t1]) w (retK P Tryd.f7.results.toList R) (fun _ _ _ => False) (retK P Tryd.f7.results.toList R) = c_law09_RecCut t0 t1 w R := by kernel_rfl
theorem k_law09_RecCut : chk P Tryd.f7.ntmps A_law09_RecCut (bodyOf Tryd.f7) = true := by kernel_rfl
theorem l_law09_RecCut {t0 t1 : Value} {w : World} {R : Value → World → Prop} (h : c_law09_RecCut t0 t1 w R) : cal P f_law09_RecCut [t0, t1] w R :=
  calls_of mixed Tryd.func7 rfl (by kernel_rfl) k_law09_RecCut (Eq.mpr (e_law09_RecCut t0 t1 w R) h)
theorem s_law09_RecCut {t0 t1 : Value} {w : World} {Q : Value → World → Prop} (h : ∀ R : Value → World → Prop, (∀ v w', Q v w' → R v w') → c_law09_RecCut t0 t1 w R) : cal P f_law09_RecCut [t0, t1] w Q := l_law09_RecCut (h Q fun _ _ h => h)

/-- flurry/flurrylaw09.RecScans -/
def A_law09_RecScans : An := (An.s (An.r []) (An.s (An.s (An.r [[18]]) (An.s (An.s (An.r []) An.o) An.o)) (An.s (An.r []) (An.s (An.r []) (An.s (An.r []) (An.s (An.r []) (An.s (An.s (An.r []) (An.b (An.l [9, 10, 33] (An.s (An.r []) (An.s (An.s An.o An.o) (An.s (An.b (An.s (An.r []) (An.s (An.r []) (An.r [])))) (An.r []))))))) (An.s (An.dc [0, 1, 2, 3, 4, 5, 6, 7, 8, 9, 12, 10, 11, 13, 14, 15, 16, 18, 19, 21, 22, 23, 24, 25, 26, 27, 17, 20, 28, 29, 30] [2] [[52], [59], [74]]) An.o))))))))
def c_law09_RecScans (t0 t1 : Value) (w : World) (R : Value → World → Prop) : Prop :=
  cal P f_law09_live [] w fun t13 w =>
  notB t13 fun t14 =>
  jn1 (fun k0 =>
  gif t14 false
  (lenS t0 fun t17 =>
  bi BinOp.gtr t17 (Value.int IntKind.i64 10000) fun t18 =>
  k0 t18 w)
  (k0 undef w)) fun _ t18_1 w =>
  pik t14 (Value.bool true) t18_1 fun t19 =>
  cnd t19
  (cal P f_law09_live [] w fun t20 w =>
  R t20 w)
  (cal P f_rec_Scan [t0] w fun t23 w =>
  ext 0 t23 fun t24 =>
  ext 1 t23 fun t25 =>
  cal P f_ref09_Scan [t0] w fun t28 w =>
  ext 0 t28 fun t29 =>
  ext 1 t28 fun t30 =>
  lenS t29 fun t32 =>
  lp3 (Value.slice none 0 0) (Value.int IntKind.i64 0) (Value.int IntKind.i64 0) w fun _ t9 t10 t33 w again1 =>
  bi BinOp.lss t33 t32 fun t34 =>
  cnd t34
  (ixs 34 t29 t33 fun t35 =>
  ldN 34 t35 w.heap fun t36 =>
  efP P (Instr.alloc T_api_Block true (.tuple #[])) w fun t12 w =>
  stN 34 t12 t36 w fun w =>
  ldN 34 t12 w.heap fun t38 =>
  cal P f_ref09_Size [t38] w fun t39 w =>
  bi BinOp.add t10 t39 fun t40 =>
  efP P (Instr.buildSlice T_sl_int 1 #[(0, t40)]) w fun t43 w =>
  efP P (Builtin.append_ #[T_sl_int, T_sl_int] T_sl_int #[t9, t43]) w fun t44 w =>
  bi BinOp.add t33 (Value.int IntKind.i64 1) fun t45 =>
  again1 t44 t40 t45 w)
  (drH w fun S w =>
  efC (cal P f_ref09_SameAll [t24, t29]) w fun S t48 w =>
  jn1 (fun k2 =>
  gif t48 true
  (bi BinOp.eql t25 t30 fun t52 =>
  k2 t52 w)
  (k2 undef w)) fun _ t52_1 w =>
  pik t48 t52_1 (Value.bool false) fun t53 =>
  jn1 (fun k3 =>
  gif t53 true
  (efS S (cal P f_rec_Ends [t0]) w fun t56 w =>
  efS S (cal P f_law09_told [t56, (Value.int IntKind.i64 1048576)]) w fun t57 w =>
  efS S (cal P f_slices_Equal_int_int [t57, t9]) w fun t59 w =>
  k3 t59 w)
  (k3 undef w)) fun _ t59_1 w =>
  pik t53 t59_1 (Value.bool false) fun t60 =>
  jn1 (fun k4 =>
  gif t60 true
  (cvi IntKind.i64 t1 fun t65 =>
  lenS t9 fun t69 =>
  cvi IntKind.i64 t1 fun t71 =>
  rdS S (rdP P (Builtin.min_ #[T_int, T_int] T_int #[t69, t71])) fun t72 =>
  slc 1 t9 none (some t72) fun t73 =>
  efS S (cal P f_rec_Ends [t0]) w fun t63 w =>
  efS S (cal P f_law09_told [t63, t65]) w fun t66 w =>
  efS S (cal P f_slices_Equal_int_int [t66, t73]) w fun t74 w =>
  k4 t74 w)
  (k4 undef w)) fun _ t74_1 w =>
  pik t60 t74_1 (Value.bool false) fun t75 =>
  R t75 w))
theorem e_law09_RecScans (t0 t1 : Value) (w : World) (R : Value → World → Prop) : intp P A_law09_RecScans (bodyOf Tryd.f8) (ini [t0, t1]) w (retK P Tryd.f8.results.toList R) (fun _ _ _ => False) (retK P Tryd.f8.results.toList R) = c_law09_RecScans t0 t1 w R := by kernel_rfl
theorem k_law09_RecScans : chk P Tryd.f8.ntmps A_law09_RecScans (bodyOf Tryd.f8) = true := by kernel_rfl
theorem l_law09_RecScans {t0 t1 : Value} {w : World} {R : Value → World → Prop} (h : c_law09_RecScans t0 t1 w R) : cal P f_law09_RecScans [t0, t1] w R :=
  calls_of mixed Tryd.func8 rfl (by kernel_rfl) k_law09_RecScans (Eq.mpr (e_law09_RecScans t0 t1 w R) h)
theorem s_law09_RecScans {t0 t1 : Value} {w : World} {Q : Value → World → Prop} (h : ∀ R : Value → World → Prop, (∀ v w', Q v w' → R v w') → c_law09_RecScans t0 t1 w R) : cal P f_law09_RecScans [t0, t1] w Q := l_law09_RecScans (h Q fun _ _ h => h)

/-- flurry/flurrylaw09.live -/
def A_law09_live : An := (An.s (An.r []) (An.s (An.r []) (An.s (An.r []) (An.s (An.r [[21], [26], [32], [36], [41]]) An.o))))
def c_law09_live (w : World) (R : Value → World → Prop) : Prop :=
  rdP P (Instr.build T_api_Block #[]) w fun t7 =>
  cal P f_rec_Bytes [t7] w fun t8 w =>
  ext 0 t8 fun t9 =>
  ext 1 t8 fun t10 =>
  cal P f_rec_Take [t9, (Value.int IntKind.i64 0)] w fun t13 w =>
  ext 0 t13 fun t14 =>
  ext 1 t13 fun t15 =>
  ext 2 t13 fun t16 =>
  efP P (Instr.alloc T_api_Block true (.tuple #[])) w fun t3 w =>
  stN 34 t3 t14 w fun w =>
  bi BinOp.eql t10 (Value.int IntKind.i64 0) fun t18 =>
  jn1 (fun k0 =>
  gif t18 true
  (bi BinOp.eql t16 (Value.int IntKind.i64 0) fun t21 =>
  k0 t21 w)
  (k0 undef w)) fun _ t21_1 w =>
  pik t18 t21_1 (Value.bool false) fun t22 =>
  jn1 (fun k1 =>
  gif t22 true
  (lenS t9 fun t25 =>
  bi BinOp.eql t25 (Value.int IntKind.i64 66) fun t26 =>
  k1 t26 w)
  (k1 undef w)) fun _ t26_1 w =>
  pik t22 t26_1 (Value.bool false) fun t27 =>
  jn1 (fun k2 =>
  gif t27 true
  (slc 1 t9 none (some (Value.int IntKind.i64 4)) fun t30 =>
  efP P (Instr.buildSlice T_sl_uint8 4 #[(0, (Value.int IntKind.u8 0)), (1, (Value.int IntKind.u8 0)), (2, (Value.int IntKind.u8 0)), (3, (Value.int IntKind.u8 46))]) w fun t31 w =>
  cal P f_bytes_Equal [t30, t31] w fun t32 w =>
  k2 t32 w)
  (k2 undef w)) fun _ t32_1 w =>
  pik t27 t32_1 (Value.bool false) fun t33 =>
  jn1 (fun k3 =>
  gif t33 true
  (bi BinOp.eql t15 (Value.int IntKind.i64 66) fun t36 =>
  k3 t36 w)
  (k3 undef w)) fun _ t36_1 w =>
  pik t33 t36_1 (Value.bool false) fun t37 =>
  jn1 (fun k4 =>
  gif t37 true
  (ldN 34 t3 w.heap fun t39 =>
  rdP P (Instr.build T_api_Block #[]) w fun t40 =>
  cal P f_ref03_Same [t39, t40] w fun t41 w =>
  k4 t41 w)
  (k4 undef w)) fun _ t41_1 w =>
  pik t37 t41_1 (Value.bool false) fun t42 =>
  R t42 w
theorem e_law09_live (w : World) (R : Value → World → Prop) : intp P A_law09_live (bodyOf Tryd.f9) (ini []) w (retK P Tryd.f9.results.toList R) (fun _ _ _ => False) (retK P Tryd.f9.results.toList R) = c_law09_live  w R := by kernel_rfl
theorem k_law09_live : chk P Tryd.f9.ntmps A_law09_live (bodyOf Tryd.f9) = true := by kernel_rfl
theorem l_law09_live {w : World} {R : Value → World → Prop} (h : c_law09_live w R) : cal P f_law09_live [] w R :=
  calls_of mixed Tryd.func9 rfl (by kernel_rfl) k_law09_live (Eq.mpr (e_law09_live w R) h)
theorem s_law09_live {w : World} {Q : Value → World → Prop} (h : ∀ R : Value → World → Prop, (∀ v w', Q v w' → R v w') → c_law09_live w R) : cal P f_law09_live [] w Q := l_law09_live (h Q fun _ _ h => h)

/-- bytes.Clone -/
def A_bytes_Clone : An := (An.s (An.r []) (An.s (An.s (An.r []) (An.s (An.s (An.r []) An.o) An.o)) (An.s (An.r []) An.o)))
def c_bytes_Clone (t0 : Value) (w : World) (R : Value → World → Prop) : Prop :=
  nilS false t0 fun t4 =>
  cnd t4
  (R (Value.slice none 0 0) w)
  (efP P (Instr.buildSlice T_sl_uint8 0 #[]) w fun t5 w =>
  efP P (Builtin.append_ #[T_sl_uint8, T_sl_uint8] T_sl_uint8 #[t5, t0]) w fun t7 w =>
  R t7 w)
theorem e_bytes_Clone (t0 : Value) (w : World) (R : Value → World → Prop) : intp P A_bytes_Clone (bodyOf Tryd.f10) (ini [t0]) w (retK P Tryd.f10.results.toList R) (fun _ _ _ => False) (retK P Tryd.f10.results.toList R) = c_bytes_Clone t0 w R := by kernel_rfl
theorem k_bytes_Clone : chk P Tryd.f10.ntmps A_bytes_Clone (bodyOf Tryd.f10) = true := by kernel_rfl
theorem l_bytes_Clone {t0 : Value} {w : World} {R : Value → World → Prop} (h : c_bytes_Clone t0 w R) : cal P f_bytes_Clone [t0] w R :=
  calls_of mixed Tryd.func10 rfl (by kernel_rfl) k_bytes_Clone (Eq.mpr (e_bytes_Clone t0 w R) h)
theorem s_bytes_Clone {t0 : Value} {w : World} {Q : Value → World → Prop} (h : ∀ R : Value → World → Prop, (∀ v w', Q v w' → R v w') → c_bytes_Clone t0 w R) : cal P f_bytes_Clone [t0] w Q := l_bytes_Clone (h Q fun _ _ h => h)

/-- flurry/rec.Take -/
def A_rec_Take : An := (An.s (An.r []) (An.s (An.s (An.r [[19]]) (An.s (An.s (An.r []) An.o) An.o)) (An.s (An.r []) (An.s (An.s (An.r []) (An.s (An.s (An.r []) An.o) An.o)) (An.s (An.r []) (An.s (An.s (An.r []) (An.s (An.s (An.r []) An.o) An.o)) (An.s (An.r []) (An.s (An.s (An.r []) (An.s (An.s (An.r []) An.o) An.o)) (An.s (An.r []) (An.s (An.r []) (An.s (An.s (An.d [0, 1, 2, 3, 4, 5, 6, 7, 8, 9, 10, 11, 12, 13, 14, 15, 16, 17, 18, 19, 20, 21] [[66], [76]]) (An.s (An.s (An.r []) An.o) An.o)) (An.s (An.r []) An.o))))))))))))
def c_rec_Take (t0 t1 : Value) (w : World) (R : Value → World → Prop) : Prop :=
  efP P (Instr.alloc T_api_Block true (.tuple #[])) w fun t4 w =>
  bi BinOp.lss t1 (Value.int IntKind.i64 0) fun t14 =>
  jn1 (fun k0 =>
  gif t14 false
  (lenS t0 fun t18 =>
  bi BinOp.gtr t1 t18 fun t19 =>
  k0 t19 w)
  (k0 undef w)) fun _ t19_1 w =>
  pik t14 (Value.bool true) t19_1 fun t20 =>
  cnd t20
  (rdP P (Instr.build T_api_Block #[]) w fun t21 =>
  stN 34 t4 t21 w fun w =>
  ldN 34 t4 w.heap fun r1 =>
  R (Value.tuple #[r1, (Value.int IntKind.i64 0), (Value.int IntKind.i64 1)]) w)
  (slc 1 t0 (some t1) none fun t24 =>
  lenS t24 fun t26 =>
  bi BinOp.lss t26 (Value.int IntKind.i64 12) fun t27 =>
  cnd t27
  (rdP P (Instr.build T_api_Block #[]) w fun t28 =>
  stN 34 t4 t28 w fun w =>
  ldN 34 t4 w.heap fun r2 =>
  R (Value.tuple #[r2, (Value.int IntKind.i64 0), (Value.int IntKind.i64 11)]) w)
  (slc 1 t24 none (some (Value.int IntKind.i64 4)) fun t30 =>
  cal P f_pack_Read [t30] w fun t31 w =>
  cal P f_pack_Unpacker_Int [t31] w fun t32 w =>
  bi BinOp.gtr t32 (Value.int IntKind.u32 246) fun t34 =>
  cnd t34
  (rdP P (Instr.build T_api_Block #[]) w fun t35 =>
  stN 34 t4 t35 w fun w =>
  ldN 34 t4 w.heap fun r3 =>
  R (Value.tuple #[r3, (Value.int IntKind.i64 0), (Value.int IntKind.i64 90)]) w)
  (cvi IntKind.i64 t32 fun t37 =>
  bi BinOp.add (Value.int IntKind.i64 12) t37 fun t38 =>
  lenS t24 fun t40 =>
  bi BinOp.add t38 (Value.int IntKind.i64 8) fun t42 =>
  bi BinOp.lss t40 t42 fun t43 =>
  cnd t43
  (rdP P (Instr.build T_api_Block #[]) w fun t44 =>
  stN 34 t4 t44 w fun w =>
  ldN 34 t4 w.heap fun r4 =>
  R (Value.tuple #[r4, (Value.int IntKind.i64 0), (Value.int IntKind.i64 11)]) w)
  (slc 1 t24 (some (Value.int IntKind.i64 12)) (some t38) fun t48 =>
  cal P f_block_Parse [t48] w fun t49 w =>
  ext 0 t49 fun t50 =>
  ext 1 t49 fun t51 =>
  efP P (Instr.alloc T_api_Block true (.tuple #[])) w fun t10 w =>
  stN 34 t10 t50 w fun w =>
  slc 1 t24 none (some t38) fun t54 =>
  cal P f_sha_Sum [t54] w fun t55 w =>
  efP P (Instr.alloc T_api_ID true (.tuple #[])) w fun t12 w =>
  stN 32 t12 t55 w fun w =>
  drH w fun S w =>
  bi BinOp.neq t51 (Value.int IntKind.i64 0) fun t57 =>
  jn1 (fun k5 =>
  gif t57 false
  (fad 32 t10 fun t59 =>
  rdS S (fun w => ld1 t59 w.heap) fun t60 =>
  cvi IntKind.u64 t60 fun t61 =>
  slc 1 t24 (some (Value.int IntKind.i64 4)) (some (Value.int IntKind.i64 12)) fun t63 =>
  efS S (cal P f_pack_Read [t63]) w fun t64 w =>
  efS S (cal P f_pack_Unpacker_Long [t64]) w fun t65 w =>
  bi BinOp.neq t61 t65 fun t66 =>
  k5 t66 w)
  (k5 undef w)) fun _ t66_1 w =>
  pik t57 (Value.bool true) t66_1 fun t67 =>
  jn1 (fun k6 =>
  gif t67 false
  (sla 32 1 t12 none (some (Value.int IntKind.i64 8)) fun t69 =>
  bi BinOp.add t38 (Value.int IntKind.i64 8) fun t73 =>
  slc 1 t24 (some t38) (some t73) fun t74 =>
  efS S (cal P f_bytes_Equal [t69, t74]) w fun t75 w =>
  notB t75 fun t76 =>
  k6 t76 w)
  (k6 undef w)) fun _ t76_1 w =>
  pik t67 (Value.bool true) t76_1 fun t77 =>
  cnd t77
  (rdP P (Instr.build T_api_Block #[]) w fun t78 =>
  stN 34 t4 t78 w fun w =>
  ldN 34 t4 w.heap fun r7 =>
  R (Value.tuple #[r7, (Value.int IntKind.i64 0), (Value.int IntKind.i64 90)]) w)
  (ldN 34 t10 w.heap fun t79 =>
  bi BinOp.add t1 t38 fun t82 =>
  bi BinOp.add t82 (Value.int IntKind.i64 8) fun t83 =>
  stN 34 t4 t79 w fun w =>
  ldN 34 t4 w.heap fun r8 =>
  R (Value.tuple #[r8, t83, (Value.int IntKind.i64 0)]) w)))))
theorem e_rec_Take (t0 t1 : Value) (w : World) (R : Value → World → Prop) : intp P A_rec_Take (bodyOf Tryd.f11) (ini [t0, t1]) w (retK P Tryd.f11.results.toList R) (fun _ _ _ => False) (retK P Tryd.f11.results.toList R) = c_rec_Take t0 t1 w R := by kernel_rfl
theorem k_rec_Take : chk P Tryd.f11.ntmps A_rec_Take (bodyOf Tryd.f11) = true := by kernel_rfl
theorem l_rec_Take {t0 t1 : Value} {w : World} {R : Value → World → Prop} (h : c_rec_Take t0 t1 w R) : cal P f_rec_Take [t0, t1] w R :=
  calls_of mixed Tryd.func11 rfl (by kernel_rfl) k_rec_Take (Eq.mpr (e_rec_Take t0 t1 w R) h)
theorem s_rec_Take {t0 t1 : Value} {w : World} {Q : Value → World → Prop} (h : ∀ R : Value → World → Prop, (∀ v w', Q v w' → R v w') → c_rec_Take t0 t1 w R) : cal P f_rec_Take [t0, t1] w Q := l_rec_Take (h Q fun _ _ h => h)

/-- flurry/flurryref09.Take -/
def A_ref09_Take : An := (An.s (An.r []) (An.s (An.s (An.r [[20]]) (An.s (An.s (An.r []) An.o) An.o)) (An.s (An.r []) (An.s (An.s (An.r []) (An.s (An.s (An.r []) An.o) An.o)) (An.s (An.r []) (An.s (An.s (An.r []) (An.s (An.s (An.r []) An.o) An.o)) (An.s (An.r []) (An.s (An.s (An.r []) (An.s (An.s (An.r []) An.o) An.o)) (An.s (An.r []) (An.s (An.s (An.r []) (An.s (An.s (An.r []) An.o) An.o)) (An.s (An.r []) (An.s (An.s (An.r []) (An.s (An.s (An.r []) An.o) An.o)) (An.s (An.r []) An.o)))))))))))))
def c_ref09_Take (t0 t1 : Value) (w : World) (R : Value → World → Prop) : Prop :=
  efP P (Instr.alloc T_api_Block true (.tuple #[])) w fun t4 w =>
  bi BinOp.lss t1 (Value.int IntKind.i64 0) fun t15 =>
  jn1 (fun k0 =>
  gif t15 false
  (lenS t0 fun t19 =>
  bi BinOp.gtr t1 t19 fun t20 =>
  k0 t20 w)
  (k0 undef w)) fun _ t20_1 w =>
  pik t15 (Value.bool true) t20_1 fun t21 =>
  cnd t21
  (rdP P (Instr.build T_api_Block #[]) w fun t22 =>
  stN 34 t4 t22 w fun w =>
  ldN 34 t4 w.heap fun r1 =>
  R (Value.tuple #[r1, (Value.int IntKind.i64 0), (Value.int IntKind.i64 1)]) w)
  (slc 1 t0 (some t1) none fun t25 =>
  lenS t25 fun t27 =>
  bi BinOp.lss t27 (Value.int IntKind.i64 12) fun t28 =>
  cnd t28
  (rdP P (Instr.build T_api_Block #[]) w fun t29 =>
  stN 34 t4 t29 w fun w =>
  ldN 34 t4 w.heap fun r2 =>
  R (Value.tuple #[r2, (Value.int IntKind.i64 0), (Value.int IntKind.i64 11)]) w)
  (slc 1 t25 none (some (Value.int IntKind.i64 4)) fun t31 =>
  cal P f_ref01_Val [t31] w fun t32 w =>
  bi BinOp.gtr t32 (Value.int IntKind.u64 246) fun t34 =>
  cnd t34
  (rdP P (Instr.build T_api_Block #[]) w fun t35 =>
  stN 34 t4 t35 w fun w =>
  ldN 34 t4 w.heap fun r3 =>
  R (Value.tuple #[r3, (Value.int IntKind.i64 0), (Value.int IntKind.i64 90)]) w)
  (cvi IntKind.i64 t32 fun t37 =>
  bi BinOp.add (Value.int IntKind.i64 12) t37 fun t38 =>
  bi BinOp.add t38 (Value.int IntKind.i64 8) fun t39 =>
  lenS t25 fun t41 =>
  bi BinOp.lss t41 t39 fun t43 =>
  cnd t43
  (rdP P (Instr.build T_api_Block #[]) w fun t44 =>
  stN 34 t4 t44 w fun w =>
  ldN 34 t4 w.heap fun r4 =>
  R (Value.tuple #[r4, (Value.int IntKind.i64 0), (Value.int IntKind.i64 11)]) w)
  (cvi IntKind.i64 t32 fun t48 =>
  bi BinOp.add (Value.int IntKind.i64 12) t48 fun t49 =>
  slc 1 t25 (some (Value.int IntKind.i64 12)) (some t49) fun t50 =>
  cal P f_ref03_Parse [t50] w fun t51 w =>
  ext 0 t51 fun t52 =>
  ext 1 t51 fun t53 =>
  efP P (Instr.alloc T_api_Block true (.tuple #[])) w fun t10 w =>
  stN 34 t10 t52 w fun w =>
  bi BinOp.neq t53 (Value.int IntKind.i64 0) fun t55 =>
  cnd t55
  (rdP P (Instr.build T_api_Block #[]) w fun t56 =>
  stN 34 t4 t56 w fun w =>
  ldN 34 t4 w.heap fun r5 =>
  R (Value.tuple #[r5, (Value.int IntKind.i64 0), (Value.int IntKind.i64 90)]) w)
  (ldN 34 t10 w.heap fun t58 =>
  cal P f_ref09_Bytes [t58] w fun t59 w =>
  ext 0 t59 fun t60 =>
  ext 1 t59 fun t61 =>
  drw w fun w =>
  rdP P (convert T_sl_uint8 T_string t60) w fun t63 =>
  slc 1 t25 none (some t39) fun t66 =>
  rdP P (convert T_sl_uint8 T_string t66) w fun t67 =>
  rdP P (eqS BinOp.neq T_string (Operand.tmp 63) (Operand.tmp 67) t63 t67) w fun t68 =>
  cnd t68
  (rdP P (Instr.build T_api_Block #[]) w fun t69 =>
  stN 34 t4 t69 w fun w =>
  ldN 34 t4 w.heap fun r6 =>
  R (Value.tuple #[r6, (Value.int IntKind.i64 0), (Value.int IntKind.i64 90)]) w)
  (ldN 34 t10 w.heap fun t70 =>
  bi BinOp.add t1 t39 fun t73 =>
  stN 34 t4 t70 w fun w =>
  ldN 34 t4 w.heap fun r7 =>
  R (Value.tuple #[r7, t73, (Value.int IntKind.i64 0)]) w))))))
theorem e_ref09_Take (t0 t1 : Value) (w : World) (R : Value → World → Prop) : intp P A_ref09_Take (bodyOf Tryd.f12) (ini [t0, t1]) w (retK P Tryd.f12.results.toList R) (fun _ _ _ => False) (retK P Tryd.f12.results.toList R) = c_ref09_Take t0 t1 w R := by kernel_rfl
theorem k_ref09_Take : chk P Tryd.f12.ntmps A_ref09_Take (bodyOf Tryd.f12) = true := by kernel_rfl
theorem l_ref09_Take {t0 t1 : Value} {w : World} {R : Value → World → Prop} (h : c_ref09_Take t0 t1 w R) : cal P f_ref09_Take [t0, t1] w R :=
  calls_of mixed Tryd.func12 rfl (by kernel_rfl) k_ref09_Take (Eq.mpr (e_ref09_Take t0 t1 w R) h)
theorem s_ref09_Take {t0 t1 : Value} {w : World} {Q : Value → World → Prop} (h : ∀ R : Value → World → Prop, (∀ v w', Q v w' → R v w') → c_ref09_Take t0 t1 w R) : cal P f_ref09_Take [t0, t1] w Q := l_ref09_Take (h Q fun _ _ h => h)

/-- flurry/flurryref03.Same -/
def A_ref03_Same : An := (An.s (An.r []) (An.s (An.r [[15], [24]]) An.o))
def c_ref03_Same (t0 t1 : Value) (w : World) (R : Value → World → Prop) : Prop :=
  bx T_api_Block t0 w fun t2 w =>
  bx T_api_Block t1 w fun t3 w =>
  fad 0 t2 fun t5 =>
  ldN 32 t5 w.heap fun t6 =>
  fad 0 t3 fun t7 =>
  ldN 32 t7 w.heap fun t8 =>
  rdP P (eqS BinOp.eql T_api_ID (Operand.tmp 6) (Operand.tmp 8) t6 t8) w fun t9 =>
  jn1 (fun k0 =>
  gif t9 true
  (fad 32 t2 fun t11 =>
  ld1 t11 w.heap fun t12 =>
  fad 32 t3 fun t13 =>
  ld1 t13 w.heap fun t14 =>
  bi BinOp.eql t12 t14 fun t15 =>
  k0 t15 w)
  (k0 undef w)) fun _ t15_1 w =>
  pik t9 t15_1 (Value.bool false) fun t16 =>
  jn1 (fun k1 =>
  gif t16 true
  (fad 33 t2 fun t18 =>
  ld1 t18 w.heap fun t19 =>
  rdP P (convert T_sl_uint8 T_string t19) w fun t20 =>
  fad 33 t3 fun t21 =>
  ld1 t21 w.heap fun t22 =>
  rdP P (convert T_sl_uint8 T_string t22) w fun t23 =>
  rdP P (eqS BinOp.eql T_string (Operand.tmp 20) (Operand.tmp 23) t20 t23) w fun t24 =>
  k1 t24 w)
  (k1 undef w)) fun _ t24_1 w =>
  pik t16 t24_1 (Value.bool false) fun t25 =>
  R t25 w
theorem e_ref03_Same (t0 t1 : Value) (w : World) (R : Value → World → Prop) : intp P A_ref03_Same (bodyOf Tryd.f13) (ini [t0, t1]) w (retK P Tryd.f13.results.toList R) (fun _ _ _ => False) (retK P Tryd.f13.results.toList R) = c_ref03_Same t0 t1 w R := by kernel_rfl
theorem k_ref03_Same : chk P Tryd.f13.ntmps A_ref03_Same (bodyOf Tryd.f13) = true := by kernel_rfl
theorem l_ref03_Same {t0 t1 : Value} {w : World} {R : Value → World → Prop} (h : c_ref03_Same t0 t1 w R) : cal P f_ref03_Same [t0, t1] w R :=
  calls_of mixed Tryd.func13 rfl (by kernel_rfl) k_ref03_Same (Eq.mpr (e_ref03_Same t0 t1 w R) h)
theorem s_ref03_Same {t0 t1 : Value} {w : World} {Q : Value → World → Prop} (h : ∀ R : Value → World → Prop, (∀ v w', Q v w' → R v w') → c_ref03_Same t0 t1 w R) : cal P f_ref03_Same [t0, t1] w Q := l_ref03_Same (h Q fun _ _ h => h)

/-- bytes.Equal -/
def A_bytes_Equal : An := (An.s (An.r []) (An.s (An.r []) An.o))
def c_bytes_Equal (t0 t1 : Value) (w : World) (R : Value → World → Prop) : Prop :=
  rdP P (convert T_sl_uint8 T_string t0) w fun t6 =>
  rdP P (convert T_sl_uint8 T_string t1) w fun t8 =>
  rdP P (eqS BinOp.eql T_string (Operand.tmp 6) (Operand.tmp 8) t6 t8) w fun t9 =>
  R t9 w
theorem e_bytes_Equal (t0 t1 : Value) (w : World) (R : Value → World → Prop) : intp P A_bytes_Equal (bodyOf Tryd.f14) (ini [t0, t1]) w (retK P Tryd.f14.results.toList R) (fun _ _ _ => False) (retK P Tryd.f14.results.toList R) = c_bytes_Equal t0 t1 w R := by kernel_rfl
theorem k_bytes_Equal : chk P Tryd.f14.ntmps A_bytes_Equal (bodyOf Tryd.f14) = true := by kernel_rfl
theorem l_bytes_Equal {t0 t1 : Value} {w : World} {R : Value → World → Prop} (h : c_bytes_Equal t0 t1 w R) : cal P f_bytes_Equal [t0, t1] w R :=
  calls_of mixed Tryd.func14 rfl (by kernel_rfl) k_bytes_Equal (Eq.mpr (e_bytes_Equal t0 t1 w R) h)
theorem s_bytes_Equal {t0 t1 : Value} {w : World} {Q : Value → World → Prop} (h : ∀ R : Value → World → Prop, (∀ v w', Q v w' → R v w') → c_bytes_Equal t0 t1 w R) : cal P f_bytes_Equal [t0, t1] w Q := l_bytes_Equal (h Q fun _ _ h => h)

/-- flurry/flurrylaw09.few -/
def A_law09_few : An := (An.s (An.r []) (An.s (An.s (An.r []) (An.b (An.l [11] (An.s (An.r []) (An.s (An.s An.o An.o) (An.s (An.b (An.s (An.r []) (An.s (An.r []) (An.s (An.s (An.r []) An.o) An.o)))) (An.r []))))))) (An.s (An.r []) An.o)))
def c_law09_few (t0 : Value) (w : World) (R : Value → World → Prop) : Prop :=
  lenS t0 fun t7 =>
  rdP P (Builtin.min_ #[T_int, T_int] T_int #[t7, (Value.int IntKind.i64 60)]) w fun t8 =>
  slc 34 t0 none (some t8) fun t9 =>
  lenS t9 fun t10 =>
  lp1 (Value.int IntKind.i64 0) w fun _ t11 w again0 =>
  bi BinOp.lss t11 t10 fun t12 =>
  cnd t12
  (ixs 34 t9 t11 fun t13 =>
  ldN 34 t13 w.heap fun t14 =>
  efP P (Instr.alloc T_api_Block true (.tuple #[])) w fun t4 w =>
  stN 34 t4 t14 w fun w =>
  fad 33 t4 fun t15 =>
  ld1 t15 w.heap fun t16 =>
  lenS t16 fun t17 =>
  bi BinOp.gtr t17 (Value.int IntKind.i64 3000) fun t18 =>
  cnd t18
  (R (Value.bool false) w)
  (bi BinOp.add t11 (Value.int IntKind.i64 1) fun t19 =>
  again0 t19 w))
  (lenS t0 fun t21 =>
  bi BinOp.leq t21 (Value.int IntKind.i64 30) fun t22 =>
  R t22 w)
theorem e_law09_few (t0 : Value) (w : World) (R : Value → World → Prop) : intp P A_law09_few (bodyOf Tryd.f15) (ini [t0]) w (retK P Tryd.f15.results.toList R) (fun _ _ _ => False) (retK P Tryd.f15.results.toList R) = c_law09_few t0 w R := by kernel_rfl
theorem k_law09_few : chk P Tryd.f15.ntmps A_law09_few (bodyOf Tryd.f15) = true := by kernel_rfl
theorem l_law09_few {t0 : Value} {w : World} {R : Value → World → Prop} (h : c_law09_few t0 w R) : cal P f_law09_few [t0] w R :=
  calls_of mixed Tryd.func15 rfl (by kernel_rfl) k_law09_few (Eq.mpr (e_law09_few t0 w R) h)
theorem s_law09_few {t0 : Value} {w : World} {Q : Value → World → Prop} (h : ∀ R : Value → World → Prop, (∀ v w', Q v w' → R v w') → c_law09_few t0 w R) : cal P f_law09_few [t0] w Q := l_law09_few (h Q fun _ _ h => h)

/-- flurry/rec.Bytes -/
def A_rec_Bytes : An := (An.s (An.r []) (An.s (An.r []) (An.s (An.s (An.r []) (An.s (An.s (An.r []) An.o) An.o)) (An.s (An.r []) (An.s (An.r []) (An.s (An.r []) (An.s (An.r []) (An.s (An.r []) (An.s (An.s (An.r []) (An.s (An.s (An.r []) An.o) An.o)) (An.s (An.r []) (An.s (An.r []) An.o)))))))))))
def c_rec_Bytes (t0 : Value) (w : World) (R : Value → World → Prop) : Prop :=
  bx T_api_Block t0 w fun t1 w =>
  ldN 34 t1 w.heap fun t10 =>
  cal P f_block_Bytes [t10] w fun t11 w =>
  ext 0 t11 fun t12 =>
  ext 1 t11 fun t13 =>
  bi BinOp.neq t13 (Value.int IntKind.i64 0) fun t15 =>
  cnd t15
  (R (Value.tuple #[(Value.slice none 0 0), t13]) w)
  (cal P f_pack_New [(Value.int IntKind.i64 258)] w fun t17 w =>
  lenS t12 fun t20 =>
  cvi IntKind.u32 t20 fun t21 =>
  cal P f_pack_Packer_Int [t17, t21] w fun t22 w =>
  fad 32 t1 fun t24 =>
  ld1 t24 w.heap fun t25 =>
  cvi IntKind.u64 t25 fun t26 =>
  cal P f_pack_Packer_Long [t17, t26] w fun t27 w =>
  cal P f_pack_Packer_Fixed [t17, t12] w fun t30 w =>
  cal P f_pack_Packer_Out [t17] w fun t33 w =>
  ext 0 t33 fun t34 =>
  ext 1 t33 fun t35 =>
  bi BinOp.neq t35 (Value.int IntKind.i64 0) fun t37 =>
  cnd t37
  (R (Value.tuple #[(Value.slice none 0 0), t35]) w)
  (cal P f_sha_Sum [t34] w fun t40 w =>
  efP P (Instr.alloc T_api_ID true (.tuple #[])) w fun t8 w =>
  stN 32 t8 t40 w fun w =>
  sla 32 1 t8 none (some (Value.int IntKind.i64 8)) fun t42 =>
  efP P (Builtin.append_ #[T_sl_uint8, T_sl_uint8] T_sl_uint8 #[t34, t42]) w fun t43 w =>
  R (Value.tuple #[t43, (Value.int IntKind.i64 0)]) w))
theorem e_rec_Bytes (t0 : Value) (w : World) (R : Value → World → Prop) : intp P A_rec_Bytes (bodyOf Tryd.f16) (ini [t0]) w (retK P Tryd.f16.results.toList R) (fun _ _ _ => False) (retK P Tryd.f16.results.toList R) = c_rec_Bytes t0 w R := by kernel_rfl
theorem k_rec_Bytes : chk P Tryd.f16.ntmps A_rec_Bytes (bodyOf Tryd.f16) = true := by kernel_rfl
theorem l_rec_Bytes {t0 : Value} {w : World} {R : Value → World → Prop} (h : c_rec_Bytes t0 w R) : cal P f_rec_Bytes [t0] w R :=
  calls_of mixed Tryd.func16 rfl (by kernel_rfl) k_rec_Bytes (Eq.mpr (e_rec_Bytes t0 w R) h)
theorem s_rec_Bytes {t0 : Value} {w : World} {Q : Value → World → Prop} (h : ∀ R : Value → World → Prop, (∀ v w', Q v w' → R v w') → c_rec_Bytes t0 w R) : cal P f_rec_Bytes [t0] w Q := l_rec_Bytes (h Q fun _ _ h => h)

/-- slices.Concat[[]byte,byte] -/
def A_slices_Concat_byte_byte : An := (An.s (An.r []) (An.s (An.r []) (An.s (An.s (An.r []) (An.b (An.l [3, 11] (An.s (An.r []) (An.s (An.s An.o An.o) (An.s (An.j [3] (An.b (An.s (An.r []) (An.s (An.r []) (An.s (An.r []) (An.s (An.r []) An.o)))))) (An.r []))))))) (An.s (An.r []) (An.s (An.s (An.r []) (An.b (An.l [6, 27] (An.s (An.r []) (An.s (An.s An.o An.o) (An.s (An.b (An.s (An.r []) (An.r []))) (An.r []))))))) (An.s (An.r []) An.o))))))
def c_slices_Concat_byte_byte (t0 : Value) (w : World) (R : Value → World → Prop) : Prop :=
  lenS t0 fun t10 =>
  lp2 (Value.int IntKind.i64 0) (Value.int IntKind.i64 0) w fun _ t3 t11 w again0 =>
  bi BinOp.lss t11 t10 fun t12 =>
  cnd t12
  (jn1 (fun k1 =>
  ixs 1 t0 t11 fun t13 =>
  ld1 t13 w.heap fun t14 =>
  lenS t14 fun t17 =>
  bi BinOp.add t3 t17 fun t18 =>
  bi BinOp.lss t18 (Value.int IntKind.i64 0) fun t20 =>
  cnd t20
  (rdP P (Instr.makeInterface T_string (Value.string { data := #[108, 101, 110, 32, 111, 117, 116, 32, 111, 102, 32, 114, 97, 110, 103, 101] })) w fun t21 =>
  False)
  (k1 t18 w)) fun _ t3_1 w =>
  bi BinOp.add t11 (Value.int IntKind.i64 1) fun t22 =>
  again0 t3_1 t22 w)
  (cal P f_slices_Grow_byte_byte [(Value.slice none 0 0), t3] w fun t24 w =>
  lenS t0 fun t26 =>
  lp2 t24 (Value.int IntKind.i64 0) w fun _ t6 t27 w again2 =>
  bi BinOp.lss t27 t26 fun t28 =>
  cnd t28
  (ixs 1 t0 t27 fun t29 =>
  ld1 t29 w.heap fun t30 =>
  efP P (Builtin.append_ #[T_sl_uint8, T_sl_uint8] T_sl_uint8 #[t6, t30]) w fun t33 w =>
  bi BinOp.add t27 (Value.int IntKind.i64 1) fun t34 =>
  again2 t33 t34 w)
  (R t6 w))
theorem e_slices_Concat_byte_byte (t0 : Value) (w : World) (R : Value → World → Prop) : intp P A_slices_Concat_byte_byte (bodyOf Tryd.f17) (ini [t0]) w (retK P Tryd.f17.results.toList R) (fun _ _ _ => False) (retK P Tryd.f17.results.toList R) = c_slices_Concat_byte_byte t0 w R := by kernel_rfl
theorem k_slices_Concat_byte_byte : chk P Tryd.f17.ntmps A_slices_Concat_byte_byte (bodyOf Tryd.f17) = true := by kernel_rfl
theorem l_slices_Concat_byte_byte {t0 : Value} {w : World} {R : Value → World → Prop} (h : c_slices_Concat_byte_byte t0 w R) : cal P f_slices_Concat_byte_byte [t0] w R :=
  calls_of mixed Tryd.func17 rfl (by kernel_rfl) k_slices_Concat_byte_byte (Eq.mpr (e_slices_Concat_byte_byte t0 w R) h)
theorem s_slices_Concat_byte_byte {t0 : Value} {w : World} {Q : Value → World → Prop} (h : ∀ R : Value → World → Prop, (∀ v w', Q v w' → R v w') → c_slices_Concat_byte_byte t0 w R) : cal P f_slices_Concat_byte_byte [t0] w Q := l_slices_Concat_byte_byte (h Q fun _ _ h => h)

/-- flurry/rec.Size -/
def A_rec_Size : An := (An.s (An.r []) (An.s (An.s (An.r []) (An.s (An.s (An.r []) An.o) An.o)) (An.s (An.r []) An.o)))
def c_rec_Size (t0 : Value) (w : World) (R : Value → World → Prop) : Prop :=
  bx T_api_Block t0 w fun t1 w =>
  ldN 34 t1 w.heap fun t3 =>
  cal P f_block_Check [t3] w fun t4 w =>
  bi BinOp.neq t4 (Value.int IntKind.i64 0) fun t5 =>
  cnd t5
  (R (Value.int IntKind.i64 0) w)
  (fad 33 t1 fun t6 =>
  ld1 t6 w.heap fun t7 =>
  lenS t7 fun t8 =>
  bi BinOp.add (Value.int IntKind.i64 58) t8 fun t9 =>
  bi BinOp.add t9 (Value.int IntKind.i64 8) fun t10 =>
  R t10 w)
theorem e_rec_Size (t0 : Value) (w : World) (R : Value → World → Prop) : intp P A_rec_Size (bodyOf Tryd.f18) (ini [t0]) w (retK P Tryd.f18.results.toList R) (fun _ _ _ => False) (retK P Tryd.f18.results.toList R) = c_rec_Size t0 w R := by kernel_rfl
theorem k_rec_Size : chk P Tryd.f18.ntmps A_rec_Size (bodyOf Tryd.f18) = true := by kernel_rfl
theorem l_rec_Size {t0 : Value} {w : World} {R : Value → World → Prop} (h : c_rec_Size t0 w R) : cal P f_rec_Size [t0] w R :=
  calls_of mixed Tryd.func18 rfl (by kernel_rfl) k_rec_Size (Eq.mpr (e_rec_Size t0 w R) h)
theorem s_rec_Size {t0 : Value} {w : World} {Q : Value → World → Prop} (h : ∀ R : Value → World → Prop, (∀ v w', Q v w' → R v w') → c_rec_Size t0 w R) : cal P f_rec_Size [t0] w Q := l_rec_Size (h Q fun _ _ h => h)

/-- flurry/flurryref09.Bytes -/
def A_ref09_Bytes : An := (An.s (An.r []) (An.s (An.r []) (An.s (An.s (An.r []) (An.s (An.s (An.r []) An.o) An.o)) (An.s (An.dc [0, 1, 2, 4, 5, 6, 3, 7, 8, 9] [7, 8] []) (An.s (An.r []) (An.s (An.r []) (An.s (An.s (An.r []) (An.b (An.l [6, 8] (An.s (An.s (An.r []) (An.s An.o An.o)) (An.s (An.b (An.r [])) (An.r [])))))) (An.s (An.r []) An.o))))))))
def c_ref09_Bytes (t0 : Value) (w : World) (R : Value → World → Prop) : Prop :=
  bx T_api_Block t0 w fun t1 w =>
  ldN 34 t1 w.heap fun t10 =>
  cal P f_ref03_Bytes [t10] w fun t11 w =>
  ext 0 t11 fun t12 =>
  ext 1 t11 fun t13 =>
  bi BinOp.neq t13 (Value.int IntKind.i64 0) fun t15 =>
  cnd t15
  (R (Value.tuple #[(Value.slice none 0 0), t13]) w)
  (drH w fun S w =>
  lenS t12 fun t18 =>
  cvi IntKind.u64 t18 fun t19 =>
  fad 32 t1 fun t21 =>
  rdS S (fun w => ld1 t21 w.heap) fun t22 =>
  cvi IntKind.u64 t22 fun t23 =>
  efS S (cal P f_ref01_Num [(Value.int IntKind.i64 4), t19]) w fun t20 w =>
  efC (cal P f_ref01_Num [(Value.int IntKind.i64 8), t23]) w fun S t24 w =>
  efC (efP P (Builtin.append_ #[T_sl_uint8, T_sl_uint8] T_sl_uint8 #[t20, t24])) w fun S t25 w =>
  efP P (Builtin.append_ #[T_sl_uint8, T_sl_uint8] T_sl_uint8 #[t25, t12]) w fun t28 w =>
  cal P f_ref02_Sum [t28] w fun t30 w =>
  efP P (Instr.alloc T_api_ID true (.tuple #[])) w fun t7 w =>
  stN 32 t7 t30 w fun w =>
  lp2 t28 (Value.int IntKind.i64 0) w fun _ t6 t8 w again0 =>
  bi BinOp.lss t8 (Value.int IntKind.i64 8) fun t32 =>
  cnd t32
  (ixa 32 1 t7 t8 fun t37 =>
  ld1 t37 w.heap fun t38 =>
  efP P (Instr.buildSlice T_sl_uint8 1 #[(0, t38)]) w fun t39 w =>
  efP P (Builtin.append_ #[T_sl_uint8, T_sl_uint8] T_sl_uint8 #[t6, t39]) w fun t40 w =>
  bi BinOp.add t8 (Value.int IntKind.i64 1) fun t34 =>
  again0 t40 t34 w)
  (R (Value.tuple #[t6, (Value.int IntKind.i64 0)]) w))
theorem e_ref09_Bytes (t0 : Value) (w : World) (R : Value → World → Prop) : intp P A_ref09_Bytes (bodyOf Tryd.f19) (ini [t0]) w (retK P Tryd.f19.results.toList R) (fun _ _ _ => False) (retK P Tryd.f19.results.toList R) = c_ref09_Bytes t0 w R := by kernel_rfl
theorem k_ref09_Bytes : chk P Tryd.f19.ntmps A_ref09_Bytes (bodyOf Tryd.f19) = true := by kernel_rfl
theorem l_ref09_Bytes {t0 : Value} {w : World} {R : Value → World → Prop} (h : c_ref09_Bytes t0 w R) : cal P f_ref09_Bytes [t0] w R :=
  calls_of mixed Tryd.func19 rfl (by kernel_rfl) k_ref09_Bytes (Eq.mpr (e_ref09_Bytes t0 w R) h)
theorem s_ref09_Bytes {t0 : Value} {w : World} {Q : Value → World → Prop} (h : ∀ R : Value → World → Prop, (∀ v w', Q v w' → R v w') → c_ref09_Bytes t0 w R) : cal P f_ref09_Bytes [t0] w Q := l_ref09_Bytes (h Q fun _ _ h => h)

/-- flurry/rec.Lay -/
def A_rec_Lay : An := (An.s (An.r []) (An.s (An.r []) (An.s (An.s (An.r []) (An.b (An.l [4, 11] (An.s (An.r []) (An.s (An.s An.o An.o) (An.s (An.b (An.s (An.r []) (An.s (An.r []) (An.s (An.s (An.r []) (An.s (An.s (An.r []) An.o) An.o)) (An.r []))))) (An.r []))))))) (An.s (An.r []) An.o))))
def c_rec_Lay (t0 : Value) (w : World) (R : Value → World → Prop) : Prop :=
  lenS t0 fun t10 =>
  lp2 (Value.slice none 0 0) (Value.int IntKind.i64 0) w fun _ t4 t11 w again0 =>
  bi BinOp.lss t11 t10 fun t12 =>
  cnd t12
  (ixs 34 t0 t11 fun t13 =>
  ldN 34 t13 w.heap fun t14 =>
  efP P (Instr.alloc T_api_Block true (.tuple #[])) w fun t6 w =>
  stN 34 t6 t14 w fun w =>
  ldN 34 t6 w.heap fun t16 =>
  cal P f_rec_Bytes [t16] w fun t17 w =>
  ext 0 t17 fun t18 =>
  ext 1 t17 fun t19 =>
  bi BinOp.neq t19 (Value.int IntKind.i64 0) fun t21 =>
  cnd t21
  (R (Value.tuple #[(Value.slice none 0 0), t19]) w)
  (efP P (Builtin.append_ #[T_sl_uint8, T_sl_uint8] T_sl_uint8 #[t4, t18]) w fun t25 w =>
  bi BinOp.add t11 (Value.int IntKind.i64 1) fun t26 =>
  again0 t25 t26 w))
  (R (Value.tuple #[t4, (Value.int IntKind.i64 0)]) w)
theorem e_rec_Lay (t0 : Value) (w : World) (R : Value → World → Prop) : intp P A_rec_Lay (bodyOf Tryd.f20) (ini [t0]) w (retK P Tryd.f20.results.toList R) (fun _ _ _ => False) (retK P Tryd.f20.results.toList R) = c_rec_Lay t0 w R := by kernel_rfl
theorem k_rec_Lay : chk P Tryd.f20.ntmps A_rec_Lay (bodyOf Tryd.f20) = true := by kernel_rfl
theorem l_rec_Lay {t0 : Value} {w : World} {R : Value → World → Prop} (h : c_rec_Lay t0 w R) : cal P f_rec_Lay [t0] w R :=
  calls_of mixed Tryd.func20 rfl (by kernel_rfl) k_rec_Lay (Eq.mpr (e_rec_Lay t0 w R) h)
theorem s_rec_Lay {t0 : Value} {w : World} {Q : Value → World → Prop} (h : ∀ R : Value → World → Prop, (∀ v w', Q v w' → R v w') → c_rec_Lay t0 w R) : cal P f_rec_Lay [t0] w Q := l_rec_Lay (h Q fun _ _ h => h)

/-- flurry/flurryref09.Lay -/
def A_ref09_Lay : An := (An.s (An.r []) (An.s (An.r []) (An.s (An.s (An.r []) (An.b (An.l [4, 5] (An.s (An.s (An.r []) (An.s An.o An.o)) (An.s (An.b (An.s (An.r []) (An.s (An.s (An.r []) (An.s (An.s (An.r []) An.o) An.o)) (An.r [])))) (An.r [])))))) (An.s (An.r []) An.o))))
def c_ref09_Lay (t0 : Value) (w : World) (R : Value → World → Prop) : Prop :=
  lp2 (Value.slice none 0 0) (Value.int IntKind.i64 0) w fun _ t4 t5 w again0 =>
  lenS t0 fun t10 =>
  bi BinOp.lss t5 t10 fun t11 =>
  cnd t11
  (ixs 34 t0 t5 fun t17 =>
  ldN 34 t17 w.heap fun t18 =>
  cal P f_ref09_Bytes [t18] w fun t19 w =>
  ext 0 t19 fun t20 =>
  ext 1 t19 fun t21 =>
  bi BinOp.neq t21 (Value.int IntKind.i64 0) fun t23 =>
  cnd t23
  (R (Value.tuple #[(Value.slice none 0 0), t21]) w)
  (efP P (Builtin.append_ #[T_sl_uint8, T_sl_uint8] T_sl_uint8 #[t4, t20]) w fun t27 w =>
  bi BinOp.add t5 (Value.int IntKind.i64 1) fun t13 =>
  again0 t27 t13 w))
  (R (Value.tuple #[t4, (Value.int IntKind.i64 0)]) w)
theorem e_ref09_Lay (t0 : Value) (w : World) (R : Value → World → Prop) : intp P A_ref09_Lay (bodyOf Tryd.f21) (ini [t0]) w (retK P Tryd.f21.results.toList R) (fun _ _ _ => False) (retK P Tryd.f21.results.toList R) = c_ref09_Lay t0 w R := by kernel_rfl
theorem k_ref09_Lay : chk P Tryd.f21.ntmps A_ref09_Lay (bodyOf Tryd.f21) = true := by kernel_rfl
theorem l_ref09_Lay {t0 : Value} {w : World} {R : Value → World → Prop} (h : c_ref09_Lay t0 w R) : cal P f_ref09_Lay [t0] w R :=
  calls_of mixed Tryd.func21 rfl (by kernel_rfl) k_ref09_Lay (Eq.mpr (e_ref09_Lay t0 w R) h)
theorem s_ref09_Lay {t0 : Value} {w : World} {Q : Value → World → Prop} (h : ∀ R : Value → World → Prop, (∀ v w', Q v w' → R v w') → c_ref09_Lay t0 w R) : cal P f_ref09_Lay [t0] w Q := l_ref09_Lay (h Q fun _ _ h => h)

/-- flurry/rec.Scan -/
def A_rec_Scan : An := (An.s (An.r []) (An.s (An.r []) (An.s (An.s (An.r []) (An.s (An.s (An.r []) An.o) An.o)) (An.s (An.r []) An.o))))
def c_rec_Scan (t0 : Value) (w : World) (R : Value → World → Prop) : Prop :=
  cal P f_rec_scan [t0] w fun t8 w =>
  ext 0 t8 fun t9 =>
  ext 1 t8 fun t10 =>
  lenS t10 fun t12 =>
  bi BinOp.eql t12 (Value.int IntKind.i64 0) fun t13 =>
  cnd t13
  (R (Value.tuple #[(Value.slice none 0 0), (Value.int IntKind.i64 0)]) w)
  (drw w fun w =>
  lenS t10 fun t17 =>
  bi BinOp.sub t17 (Value.int IntKind.i64 1) fun t18 =>
  ixs 1 t10 t18 fun t19 =>
  ld1 t19 w.heap fun t20 =>
  R (Value.tuple #[t9, t20]) w)
theorem e_rec_Scan (t0 : Value) (w : World) (R : Value → World → Prop) : intp P A_rec_Scan (bodyOf Tryd.f22) (ini [t0]) w (retK P Tryd.f22.results.toList R) (fun _ _ _ => False) (retK P Tryd.f22.results.toList R) = c_rec_Scan t0 w R := by kernel_rfl
theorem k_rec_Scan : chk P Tryd.f22.ntmps A_rec_Scan (bodyOf Tryd.f22) = true := by kernel_rfl
theorem l_rec_Scan {t0 : Value} {w : World} {R : Value → World → Prop} (h : c_rec_Scan t0 w R) : cal P f_rec_Scan [t0] w R :=
  calls_of mixed Tryd.func22 rfl (by kernel_rfl) k_rec_Scan (Eq.mpr (e_rec_Scan t0 w R) h)
theorem s_rec_Scan {t0 : Value} {w : World} {Q : Value → World → Prop} (h : ∀ R : Value → World → Prop, (∀ v w', Q v w' → R v w') → c_rec_Scan t0 w R) : cal P f_rec_Scan [t0] w Q := l_rec_Scan (h Q fun _ _ h => h)

/-- flurry/flurryref09.SameAll -/
def A_ref09_SameAll : An := (An.s (An.r []) (An.s (An.s (An.r []) (An.s (An.s (An.r []) An.o) An.o)) (An.s (An.s (An.r []) (An.b (An.l [5] (An.s (An.s (An.r []) (An.s An.o An.o)) (An.s (An.b (An.s (An.dc [0, 1, 2, 3, 4, 5, 6, 7, 8, 9] [8] []) (An.s (An.s (An.r []) An.o) An.o))) (An.r [])))))) (An.s (An.r []) An.o))))
def c_ref09_SameAll (t0 t1 : Value) (w : World) (R : Value → World → Prop) : Prop :=
  lenS t0 fun t7 =>
  lenS t1 fun t9 =>
  bi BinOp.neq t7 t9 fun t10 =>
  cnd t10
  (R (Value.bool false) w)
  (lp1 (Value.int IntKind.i64 0) w fun _ t5 w again0 =>
  lenS t0 fun t13 =>
  bi BinOp.lss t5 t13 fun t14 =>
  cnd t14
  (drH w fun S w =>
  ixs 34 t0 t5 fun t19 =>
  rdS S (fun w => ldN 34 t19 w.heap) fun t20 =>
  ixs 34 t1 t5 fun t23 =>
  rdS S (fun w => ldN 34 t23 w.heap) fun t24 =>
  efC (cal P f_ref03_Same [t20, t24]) w fun S t25 w =>
  notB t25 fun t26 =>
  cnd t26
  (R (Value.bool false) w)
  (bi BinOp.add t5 (Value.int IntKind.i64 1) fun t16 =>
  again0 t16 w))
  (R (Value.bool true) w))
theorem e_ref09_SameAll (t0 t1 : Value) (w : World) (R : Value → World → Prop) : intp P A_ref09_SameAll (bodyOf Tryd.f23) (ini [t0, t1]) w (retK P Tryd.f23.results.toList R) (fun _ _ _ => False) (retK P Tryd.f23.results.toList R) = c_ref09_SameAll t0 t1 w R := by kernel_rfl
theorem k_ref09_SameAll : chk P Tryd.f23.ntmps A_ref09_SameAll (bodyOf Tryd.f23) = true := by kernel_rfl
theorem l_ref09_SameAll {t0 t1 : Value} {w : World} {R : Value → World → Prop} (h : c_ref09_SameAll t0 t1 w R) : cal P f_ref09_SameAll [t0, t1] w R :=
  calls_of mixed Tryd.func23 rfl (by kernel_rfl) k_ref09_SameAll (Eq.mpr (e_ref09_SameAll t0 t1 w R) h)
theorem s_ref09_SameAll {t0 t1 : Value} {w : World} {Q : Value → World → Prop} (h : ∀ R : Value → World → Prop, (∀ v w', Q v w' → R v w') → c_ref09_SameAll t0 t1 w R) : cal P f_ref09_SameAll [t0, t1] w Q := l_ref09_SameAll (h Q fun _ _ h => h)

/-- flurry/flurryref09.Scan -/
def A_ref09_Scan : An := (An.s (An.r []) (An.s (An.r []) (An.s (An.r []) (An.b (An.l [4, 5] (An.b (An.s (An.r []) (An.s (An.s (An.r []) (An.s (An.s (An.r []) An.o) An.o)) (An.s (An.r []) (An.r []))))))))))
def c_ref09_Scan (t0 : Value) (w : World) (R : Value → World → Prop) : Prop :=
  lp2 (Value.slice none 0 0) (Value.int IntKind.i64 0) w fun _ t4 t5 w again0 =>
  cal P f_ref09_Take [t0, t5] w fun t12 w =>
  ext 0 t12 fun t13 =>
  ext 1 t12 fun t14 =>
  ext 2 t12 fun t15 =>
  efP P (Instr.alloc T_api_Block true (.tuple #[])) w fun t6 w =>
  stN 34 t6 t13 w fun w =>
  bi BinOp.neq t15 (Value.int IntKind.i64 0) fun t17 =>
  cnd t17
  (R (Value.tuple #[t4, t5]) w)
  (ldN 34 t6 w.heap fun t21 =>
  efP P (Instr.buildSlice T_sl_api_Block 1 #[(0, t21)]) w fun t22 w =>
  efP P (Builtin.append_ #[T_sl_api_Block, T_sl_api_Block] T_sl_api_Block #[t4, t22]) w fun t23 w =>
  again0 t23 t14 w)
theorem e_ref09_Scan (t0 : Value) (w : World) (R : Value → World → Prop) : intp P A_ref09_Scan (bodyOf Tryd.f24) (ini [t0]) w (retK P Tryd.f24.results.toList R) (fun _ _ _ => False) (retK P Tryd.f24.results.toList R) = c_ref09_Scan t0 w R := by kernel_rfl
theorem k_ref09_Scan : chk P Tryd.f24.ntmps A_ref09_Scan (bodyOf Tryd.f24) = true := by kernel_rfl
theorem l_ref09_Scan {t0 : Value} {w : World} {R : Value → World → Prop} (h : c_ref09_Scan t0 w R) : cal P f_ref09_Scan [t0] w R :=
  calls_of mixed Tryd.func24 rfl (by kernel_rfl) k_ref09_Scan (Eq.mpr (e_ref09_Scan t0 w R) h)
theorem s_ref09_Scan {t0 : Value} {w : World} {Q : Value → World → Prop} (h : ∀ R : Value → World → Prop, (∀ v w', Q v w' → R v w') → c_ref09_Scan t0 w R) : cal P f_ref09_Scan [t0] w Q := l_ref09_Scan (h Q fun _ _ h => h)

/-- flurry/flurryref09.Size -/
def A_ref09_Size : An := (An.s (An.r []) (An.s (An.r []) (An.s (An.r []) An.o)))
def c_ref09_Size (t0 : Value) (w : World) (R : Value → World → Prop) : Prop :=
  bx T_api_Block t0 w fun t1 w =>
  ldN 34 t1 w.heap fun t6 =>
  cal P f_ref09_Bytes [t6] w fun t7 w =>
  ext 0 t7 fun t8 =>
  ext 1 t7 fun t9 =>
  lenS t8 fun t11 =>
  R t11 w
theorem e_ref09_Size (t0 : Value) (w : World) (R : Value → World → Prop) : intp P A_ref09_Size (bodyOf Tryd.f25) (ini [t0]) w (retK P Tryd.f25.results.toList R) (fun _ _ _ => False) (retK P Tryd.f25.results.toList R) = c_ref09_Size t0 w R := by kernel_rfl
theorem k_ref09_Size : chk P Tryd.f25.ntmps A_ref09_Size (bodyOf Tryd.f25) = true := by kernel_rfl
theorem l_ref09_Size {t0 : Value} {w : World} {R : Value → World → Prop} (h : c_ref09_Size t0 w R) : cal P f_ref09_Size [t0] w R :=
  calls_of mixed Tryd.func25 rfl (by kernel_rfl) k_ref09_Size (Eq.mpr (e_ref09_Size t0 w R) h)
theorem s_ref09_Size {t0 : Value} {w : World} {Q : Value → World → Prop} (h : ∀ R : Value → World → Prop, (∀ v w', Q v w' → R v w') → c_ref09_Size t0 w R) : cal P f_ref09_Size [t0] w Q := l_ref09_Size (h Q fun _ _ h => h)

/-- slices.Equal[[]int,int] -/
def A_slices_Equal_int_int : An := (An.s (An.r []) (An.s (An.s (An.r []) (An.s (An.s (An.r []) An.o) An.o)) (An.s (An.s (An.r []) (An.b (An.l [13] (An.s (An.r []) (An.s (An.s An.o An.o) (An.s (An.b (An.s (An.r []) (An.s (An.r []) (An.s (An.s (An.r []) An.o) An.o)))) (An.r []))))))) (An.s (An.r []) An.o))))
def c_slices_Equal_int_int (t0 t1 : Value) (w : World) (R : Value → World → Prop) : Prop :=
  lenS t0 fun t7 =>
  lenS t1 fun t9 =>
  bi BinOp.neq t7 t9 fun t10 =>
  cnd t10
  (R (Value.bool false) w)
  (lenS t0 fun t12 =>
  lp1 (Value.int IntKind.i64 0) w fun _ t13 w again0 =>
  bi BinOp.lss t13 t12 fun t14 =>
  cnd t14
  (drw w fun w =>
  ixs 1 t0 t13 fun t18 =>
  ld1 t18 w.heap fun t19 =>
  ixs 1 t1 t13 fun t22 =>
  ld1 t22 w.heap fun t23 =>
  bi BinOp.neq t19 t23 fun t24 =>
  cnd t24
  (R (Value.bool false) w)
  (bi BinOp.add t13 (Value.int IntKind.i64 1) fun t25 =>
  again0 t25 w))
  (R (Value.bool true) w))
theorem e_slices_Equal_int_int (t0 t1 : Value) (w : World) (R : Value → World → Prop) : intp P A_slices_Equal_int_int (bodyOf Tryd.f26) (ini [t0, t1]) w (retK P Tryd.f26.results.toList R) (fun _ _ _ => False) (retK P Tryd.f26.results.toList R) = c_slices_Equal_int_int t0 t1 w R := by kernel_rfl
theorem k_slices_Equal_int_int : chk P Tryd.f26.ntmps A_slices_Equal_int_int (bodyOf Tryd.f26) = true := by kernel_rfl
theorem l_slices_Equal_int_int {t0 t1 : Value} {w : World} {R : Value → World → Prop} (h : c_slices_Equal_int_int t0 t1 w R) : cal P f_slices_Equal_int_int [t0, t1] w R :=
  calls_of mixed Tryd.func26 rfl (by kernel_rfl) k_slices_Equal_int_int (Eq.mpr (e_slices_Equal_int_int t0 t1 w R) h)
theorem s_slices_Equal_int_int {t0 t1 : Value} {w : World} {Q : Value → World → Prop} (h : ∀ R : Value → World → Prop, (∀ v w', Q v w' → R v w') → c_slices_Equal_int_int t0 t1 w R) : cal P f_slices_Equal_int_int [t0, t1] w Q := l_slices_Equal_int_int (h Q fun _ _ h => h)

/-- flurry/flurrylaw09.told -/
def A_law09_told : AnY := (AnY.s (AnY.c (An.r [])) (AnY.s (AnY.c (An.r [])) (AnY.s (AnY.s (AnY.c (An.r [])) (AnY.s (AnY.s (AnY.c (An.r [])) AnY.o) AnY.o)) (AnY.s (AnY.s (AnY.c (An.r [])) (AnY.b (AnY.f (AnY.c (An.r [])) (AnY.b (AnY.s (AnY.s (AnY.c (An.r [])) (AnY.s AnY.o AnY.o)) (AnY.c (An.r []))))))) (AnY.s (AnY.c (An.r [])) AnY.o)))))
def c_law09_told (t0 t1 : Value) (w : World) (R : Value → World → Prop) : Prop :=
  bx T_int t1 w fun t3 w =>
  efP P (Instr.alloc T_sl_int true (.tuple #[])) w fun t5 w =>
  rdP P (eqS BinOp.eql T_iter_Seq_int (Operand.tmp 7) (Operand.const Value.nilFunc) t0 Value.nilFunc) w fun t8 =>
  cnd t8
  (R (Value.slice none 0 0) w)
  (rng P t0 1 w (fun args0 w beg0 fin0 =>
  beg0 w fun w =>
  ld1 t5 w.heap fun t11 =>
  lenS t11 fun t12 =>
  ld1 t3 w.heap fun t13 =>
  bi BinOp.geq t12 t13 fun t14 =>
  cnd t14
  (fin0 (some (.exit 0)) w)
  (ld1 t5 w.heap fun t15 =>
  efP P (Instr.buildSlice T_sl_int 1 #[(0, (args0.getD 0 undef))]) w fun t17 w =>
  efP P (Builtin.append_ #[T_sl_int, T_sl_int] T_sl_int #[t15, t17]) w fun t18 w =>
  st1 t5 t18 w fun w =>
  fin0 none w)) fun D0 => [(none, fun w =>
  ld1 t5 w.heap fun t19 =>
  takeD [D0] w fun w =>
  R t19 w), (some (.exit 0), fun w =>
  ld1 t5 w.heap fun t19_1 =>
  takeD [D0] w fun w =>
  R t19_1 w)])
theorem e_law09_told (t0 t1 : Value) (w : World) (R : Value → World → Prop) : intpY P A_law09_told (bodyOf Tryd.f27) (ini [t0, t1]) [] w (retY P Tryd.f27.results.toList R) (fun _ _ _ _ => False) (retY P Tryd.f27.results.toList R) = c_law09_told t0 t1 w R := by kernel_rfl
theorem k_law09_told : chkY P Tryd.f27.ntmps A_law09_told (bodyOf Tryd.f27) = true := by kernel_rfl
theorem l_law09_told {t0 t1 : Value} {w : World} {R : Value → World → Prop} (h : c_law09_told t0 t1 w R) : cal P f_law09_told [t0, t1] w R :=
  calls_ofY mixed Tryd.func27 rfl (by kernel_rfl) k_law09_told (Eq.mpr (e_law09_told t0 t1 w R) h)
theorem s_law09_told {t0 t1 : Value} {w : World} {Q : Value → World → Prop} (h : ∀ R : Value → World → Prop, (∀ v w', Q v w' → R v w') → c_law09_told t0 t1 w R) : cal P f_law09_told [t0, t1] w Q := l_law09_told (h Q fun _ _ h => h)

/-- flurry/rec.Ends -/
def A_rec_Ends : An := (An.s (An.r []) (An.s (An.r []) (An.s (An.r []) An.o)))
def c_rec_Ends (t0 : Value) (w : World) (R : Value → World → Prop) : Prop :=
  cal P f_rec_scan [t0] w fun t7 w =>
  ext 0 t7 fun t8 =>
  ext 1 t7 fun t9 =>
  efP P (Instr.alloc T_sl_int true (.tuple #[])) w fun t4 w =>
  st1 t4 t9 w fun w =>
  R (Value.func (Fn.func f_rec_Ends_1) #[] #[t4]) w
theorem e_rec_Ends (t0 : Value) (w : World) (R : Value → World → Prop) : intp P A_rec_Ends (bodyOf Tryd.f28) (ini [t0]) w (retK P Tryd.f28.results.toList R) (fun _ _ _ => False) (retK P Tryd.f28.results.toList R) = c_rec_Ends t0 w R := by kernel_rfl
theorem k_rec_Ends : chk P Tryd.f28.ntmps A_rec_Ends (bodyOf Tryd.f28) = true := by kernel_rfl
theorem l_rec_Ends {t0 : Value} {w : World} {R : Value → World → Prop} (h : c_rec_Ends t0 w R) : cal P f_rec_Ends [t0] w R :=
  calls_of mixed Tryd.func28 rfl (by kernel_rfl) k_rec_Ends (Eq.mpr (e_rec_Ends t0 w R) h)
theorem s_rec_Ends {t0 : Value} {w : World} {Q : Value → World → Prop} (h : ∀ R : Value → World → Prop, (∀ v w', Q v w' → R v w') → c_rec_Ends t0 w R) : cal P f_rec_Ends [t0] w Q := l_rec_Ends (h Q fun _ _ h => h)

/-- flurry/pack.Read -/
def A_pack_Read : An := (An.s (An.r []) (An.s (An.r []) (An.s (An.r []) (An.s (An.r []) (An.s (An.r []) (An.s (An.r []) An.o))))))
def c_pack_Read (t0 : Value) (w : World) (R : Value → World → Prop) : Prop :=
  rdP P (Instr.build T_pack_Unpacker #[]) w fun t4 =>
  bx T_pack_Unpacker t4 w fun t5 w =>
  nilc t5 fun t7 =>
  fad 0 t7 fun t8 =>
  fad 0 t8 fun t9 =>
  st1 t9 (Value.bool true) w fun w =>
  lenS t0 fun t12 =>
  efP P (Instr.makeSlice T_sl_uint8 t12 t12) w fun t13 w =>
  nilc t5 fun t14 =>
  fad 0 t14 fun t15 =>
  fad 1 t15 fun t16 =>
  st1 t16 t13 w fun w =>
  nilc t5 fun t18 =>
  fad 0 t18 fun t19 =>
  fad 1 t19 fun t20 =>
  ld1 t20 w.heap fun t21 =>
  efP P (Builtin.copy_ #[T_sl_uint8, T_sl_uint8] T_int #[t21, t0]) w fun t23 w =>
  R t5 w
theorem e_pack_Read (t0 : Value) (w : World) (R : Value → World → Prop) : intp P A_pack_Read (bodyOf Tryd.f29) (ini [t0]) w (retK P Tryd.f29.results.toList R) (fun _ _ _ => False) (retK P Tryd.f29.results.toList R) = c_pack_Read t0 w R := by kernel_rfl
theorem k_pack_Read : chk P Tryd.f29.ntmps A_pack_Read (bodyOf Tryd.f29) = true := by kernel_rfl
theorem l_pack_Read {t0 : Value} {w : World} {R : Value → World → Prop} (h : c_pack_Read t0 w R) : cal P f_pack_Read [t0] w R :=
  calls_of mixed Tryd.func29 rfl (by kernel_rfl) k_pack_Read (Eq.mpr (e_pack_Read t0 w R) h)
theorem s_pack_Read {t0 : Value} {w : World} {Q : Value → World → Prop} (h : ∀ R : Value → World → Prop, (∀ v w', Q v w' → R v w') → c_pack_Read t0 w R) : cal P f_pack_Read [t0] w Q := l_pack_Read (h Q fun _ _ h => h)

/-- (*flurry/pack.Unpacker).Int -/
def A_pack_Unpacker_Int : An := (An.s (An.r []) (An.s (An.r []) An.o))
def c_pack_Unpacker_Int (t0 : Value) (w : World) (R : Value → World → Prop) : Prop :=
  cal P f_pack_Unpacker_take [t0, (Value.int IntKind.i64 4)] w fun t4 w =>
  cal P f_pack_value [t4] w fun t5 w =>
  cvi IntKind.u32 t5 fun t6 =>
  R t6 w
theorem e_pack_Unpacker_Int (t0 : Value) (w : World) (R : Value → World → Prop) : intp P A_pack_Unpacker_Int (bodyOf Tryd.f30) (ini [t0]) w (retK P Tryd.f30.results.toList R) (fun _ _ _ => False) (retK P Tryd.f30.results.toList R) = c_pack_Unpacker_Int t0 w R := by kernel_rfl
theorem k_pack_Unpacker_Int : chk P Tryd.f30.ntmps A_pack_Unpacker_Int (bodyOf Tryd.f30) = true := by kernel_rfl
theorem l_pack_Unpacker_Int {t0 : Value} {w : World} {R : Value → World → Prop} (h : c_pack_Unpacker_Int t0 w R) : cal P f_pack_Unpacker_Int [t0] w R :=
  calls_of mixed Tryd.func30 rfl (by kernel_rfl) k_pack_Unpacker_Int (Eq.mpr (e_pack_Unpacker_Int t0 w R) h)
theorem s_pack_Unpacker_Int {t0 : Value} {w : World} {Q : Value → World → Prop} (h : ∀ R : Value → World → Prop, (∀ v w', Q v w' → R v w') → c_pack_Unpacker_Int t0 w R) : cal P f_pack_Unpacker_Int [t0] w Q := l_pack_Unpacker_Int (h Q fun _ _ h => h)

/-- flurry/block.Parse -/
def A_block_Parse : An := (An.s (An.r []) (An.s (An.s (An.r []) (An.s (An.s (An.r []) An.o) An.o)) (An.s (An.r []) (An.s (An.r []) (An.s (An.r []) (An.s (An.r []) (An.s (An.r []) (An.s (An.s (An.r [[29], [33]]) (An.s (An.s (An.r []) An.o) An.o)) (An.s (An.r []) (An.s (An.r []) (An.s (An.r []) An.o)))))))))))
def c_block_Parse (t0 : Value) (w : World) (R : Value → World → Prop) : Prop :=
  efP P (Instr.alloc T_api_Block true (.tuple #[])) w fun t2 w =>
  lenS t0 fun t11 =>
  bi BinOp.gtr t11 (Value.int IntKind.i64 246) fun t12 =>
  cnd t12
  (rdP P (Instr.build T_api_Block #[]) w fun t13 =>
  stN 34 t2 t13 w fun w =>
  ldN 34 t2 w.heap fun r0 =>
  R (Value.tuple #[r0, (Value.int IntKind.i64 30)]) w)
  (cal P f_pack_Read [t0] w fun t15 w =>
  cal P f_pack_Unpacker_Short [t15] w fun t17 w =>
  cal P f_pack_Unpacker_Fixed [t15, (Value.int IntKind.i64 32)] w fun t19 w =>
  cal P f_pack_Unpacker_Long [t15] w fun t21 w =>
  cal P f_pack_Unpacker_Bytes [t15, (Value.int IntKind.i64 200)] w fun t23 w =>
  cal P f_pack_Unpacker_End [t15] w fun t25 w =>
  bi BinOp.neq t25 (Value.int IntKind.i64 0) fun t26 =>
  jn1 (fun k1 =>
  gif t26 false
  (bi BinOp.neq t17 (Value.int IntKind.u16 0) fun t29 =>
  k1 t29 w)
  (k1 undef w)) fun _ t29_1 w =>
  pik t26 (Value.bool true) t29_1 fun t30 =>
  jn1 (fun k2 =>
  gif t30 false
  (bi BinOp.gtr t21 (Value.int IntKind.u64 9223372036854775807) fun t33 =>
  k2 t33 w)
  (k2 undef w)) fun _ t33_1 w =>
  pik t30 (Value.bool true) t33_1 fun t34 =>
  cnd t34
  (rdP P (Instr.build T_api_Block #[]) w fun t35 =>
  stN 34 t2 t35 w fun w =>
  ldN 34 t2 w.heap fun r3 =>
  R (Value.tuple #[r3, (Value.int IntKind.i64 30)]) w)
  (cvi IntKind.i64 t21 fun t37 =>
  rdP P (Instr.build T_api_Block #[(1, t37), (2, t23)]) w fun t39 =>
  efP P (Instr.alloc T_api_Block true (.tuple #[])) w fun t9 w =>
  stN 34 t9 t39 w fun w =>
  fad 0 t9 fun t40 =>
  sla 32 1 t40 none none fun t41 =>
  efP P (Builtin.copy_ #[T_sl_uint8, T_sl_uint8] T_int #[t41, t19]) w fun t43 w =>
  ldN 34 t9 w.heap fun t44 =>
  cal P f_block_made [t44] w fun t45 w =>
  ext 0 t45 fun t46 =>
  ext 1 t45 fun t47 =>
  stN 34 t2 t46 w fun w =>
  ldN 34 t2 w.heap fun r4 =>
  R (Value.tuple #[r4, t47]) w))
theorem e_block_Parse (t0 : Value) (w : World) (R : Value → World → Prop) : intp P A_block_Parse (bodyOf Tryd.f31) (ini [t0]) w (retK P Tryd.f31.results.toList R) (fun _ _ _ => False) (retK P Tryd.f31.results.toList R) = c_block_Parse t0 w R := by kernel_rfl
theorem k_block_Parse : chk P Tryd.f31.ntmps A_block_Parse (bodyOf Tryd.f31) = true := by kernel_rfl
theorem l_block_Parse {t0 : Value} {w : World} {R : Value → World → Prop} (h : c_block_Parse t0 w R) : cal P f_block_Parse [t0] w R :=
  calls_of mixed Tryd.func31 rfl (by kernel_rfl) k_block_Parse (Eq.mpr (e_block_Parse t0 w R) h)
theorem s_block_Parse {t0 : Value} {w : World} {Q : Value → World → Prop} (h : ∀ R : Value → World → Prop, (∀ v w', Q v w' → R v w') → c_block_Parse t0 w R) : cal P f_block_Parse [t0] w Q := l_block_Parse (h Q fun _ _ h => h)

/-- flurry/sha.Sum -/
def A_sha_Sum : An := (An.s (An.r []) (An.s (An.r []) (An.s (An.r []) (An.s (An.r []) An.o))))
def c_sha_Sum (t0 : Value) (w : World) (R : Value → World → Prop) : Prop :=
  efP P (Instr.alloc T_api_ID true (.tuple #[])) w fun t2 w =>
  cal P f_sha_New [] w fun t4 w =>
  efP P (Instr.buildSlice T_sl_sl_uint8 1 #[(0, t0)]) w fun t7 w =>
  cal P f_sha_State_Write [t4, t7] w fun t8 w =>
  cal P f_sha_State_Sum [t4] w fun t10 w =>
  stN 32 t2 t10 w fun w =>
  ldN 32 t2 w.heap fun r0 =>
  R r0 w
theorem e_sha_Sum (t0 : Value) (w : World) (R : Value → World → Prop) : intp P A_sha_Sum (bodyOf Tryd.f32) (ini [t0]) w (retK P Tryd.f32.results.toList R) (fun _ _ _ => False) (retK P Tryd.f32.results.toList R) = c_sha_Sum t0 w R := by kernel_rfl
theorem k_sha_Sum : chk P Tryd.f32.ntmps A_sha_Sum (bodyOf Tryd.f32) = true := by kernel_rfl
theorem l_sha_Sum {t0 : Value} {w : World} {R : Value → World → Prop} (h : c_sha_Sum t0 w R) : cal P f_sha_Sum [t0] w R :=
  calls_of mixed Tryd.func32 rfl (by kernel_rfl) k_sha_Sum (Eq.mpr (e_sha_Sum t0 w R) h)
theorem s_sha_Sum {t0 : Value} {w : World} {Q : Value → World → Prop} (h : ∀ R : Value → World → Prop, (∀ v w', Q v w' → R v w') → c_sha_Sum t0 w R) : cal P f_sha_Sum [t0] w Q := l_sha_Sum (h Q fun _ _ h => h)

/-- (*flurry/pack.Unpacker).Long -/
def A_pack_Unpacker_Long : An := (An.s (An.r []) (An.s (An.r []) An.o))
def c_pack_Unpacker_Long (t0 : Value) (w : World) (R : Value → World → Prop) : Prop :=
  cal P f_pack_Unpacker_take [t0, (Value.int IntKind.i64 8)] w fun t4 w =>
  cal P f_pack_value [t4] w fun t5 w =>
  R t5 w
theorem e_pack_Unpacker_Long (t0 : Value) (w : World) (R : Value → World → Prop) : intp P A_pack_Unpacker_Long (bodyOf Tryd.f33) (ini [t0]) w (retK P Tryd.f33.results.toList R) (fun _ _ _ => False) (retK P Tryd.f33.results.toList R) = c_pack_Unpacker_Long t0 w R := by kernel_rfl
theorem k_pack_Unpacker_Long : chk P Tryd.f33.ntmps A_pack_Unpacker_Long (bodyOf Tryd.f33) = true := by kernel_rfl
theorem l_pack_Unpacker_Long {t0 : Value} {w : World} {R : Value → World → Prop} (h : c_pack_Unpacker_Long t0 w R) : cal P f_pack_Unpacker_Long [t0] w R :=
  calls_of mixed Tryd.func33 rfl (by kernel_rfl) k_pack_Unpacker_Long (Eq.mpr (e_pack_Unpacker_Long t0 w R) h)
theorem s_pack_Unpacker_Long {t0 : Value} {w : World} {Q : Value → World → Prop} (h : ∀ R : Value → World → Prop, (∀ v w', Q v w' → R v w') → c_pack_Unpacker_Long t0 w R) : cal P f_pack_Unpacker_Long [t0] w Q := l_pack_Unpacker_Long (h Q fun _ _ h => h)

/-- flurry/flurryref01.Val -/
def A_ref01_Val : An := (An.s (An.r []) (An.s (An.r []) (An.s (An.s (An.r []) (An.b (An.l [3, 4] (An.s (An.s (An.r []) (An.s An.o An.o)) (An.s (An.b (An.r [])) (An.r [])))))) (An.s (An.r []) An.o))))
def c_ref01_Val (t0 : Value) (w : World) (R : Value → World → Prop) : Prop :=
  lp2 (Value.int IntKind.u64 0) (Value.int IntKind.i64 0) w fun _ t3 t4 w again0 =>
  lenS t0 fun t7 =>
  bi BinOp.lss t4 t7 fun t8 =>
  cnd t8
  (bi BinOp.mul (Value.int IntKind.u64 256) t3 fun t12 =>
  ixs 1 t0 t4 fun t15 =>
  ld1 t15 w.heap fun t16 =>
  cvi IntKind.u64 t16 fun t17 =>
  bi BinOp.add t12 t17 fun t18 =>
  bi BinOp.add t4 (Value.int IntKind.i64 1) fun t10 =>
  again0 t18 t10 w)
  (R t3 w)
theorem e_ref01_Val (t0 : Value) (w : World) (R : Value → World → Prop) : intp P A_ref01_Val (bodyOf Tryd.f34) (ini [t0]) w (retK P Tryd.f34.results.toList R) (fun _ _ _ => False) (retK P Tryd.f34.results.toList R) = c_ref01_Val t0 w R := by kernel_rfl
theorem k_ref01_Val : chk P Tryd.f34.ntmps A_ref01_Val (bodyOf Tryd.f34) = true := by kernel_rfl
theorem l_ref01_Val {t0 : Value} {w : World} {R : Value → World → Prop} (h : c_ref01_Val t0 w R) : cal P f_ref01_Val [t0] w R :=
  calls_of mixed Tryd.func34 rfl (by kernel_rfl) k_ref01_Val (Eq.mpr (e_ref01_Val t0 w R) h)
theorem s_ref01_Val {t0 : Value} {w : World} {Q : Value → World → Prop} (h : ∀ R : Value → World → Prop, (∀ v w', Q v w' → R v w') → c_ref01_Val t0 w R) : cal P f_ref01_Val [t0] w Q := l_ref01_Val (h Q fun _ _ h => h)

/-- flurry/flurryref03.Parse -/
def A_ref03_Parse : An := (An.s (An.r []) (An.s (An.s (An.r []) (An.s (An.s (An.r []) An.o) An.o)) (An.s (An.dt (Pl.step 0 (Pl.step 1 (Pl.step 4 (Pl.step 5 (Pl.br (Pl.alt 2 (Pl.step 3 (Pl.step 6 (Pl.step 7 (Pl.step 8 Pl.nil)))) (Pl.alt 7 (Pl.step 2 (Pl.step 3 (Pl.step 6 (Pl.step 8 Pl.nil)))) Pl.non))))))) [2, 8] [4]) (An.s (An.s (An.r []) (An.b (An.l [5] (An.s (An.s (An.r []) (An.s An.o An.o)) (An.s (An.b (An.r [])) (An.r [])))))) (An.s (An.r []) (An.s (An.s (An.r [[43]]) (An.s (An.s (An.r []) An.o) An.o)) (An.s (An.r []) An.o)))))))
def c_ref03_Parse (t0 : Value) (w : World) (R : Value → World → Prop) : Prop :=
  efP P (Instr.alloc T_api_Block true (.tuple #[])) w fun t2 w =>
  lenS t0 fun t9 =>
  bi BinOp.lss t9 (Value.int IntKind.i64 46) fun t10 =>
  cnd t10
  (rdP P (Instr.build T_api_Block #[]) w fun t11 =>
  stN 34 t2 t11 w fun w =>
  ldN 34 t2 w.heap fun r0 =>
  R (Value.tuple #[r0, (Value.int IntKind.i64 30)]) w)
  (drH w fun S w =>
  jn1 (fun k1 =>
  slc 1 t0 (some (Value.int IntKind.i64 34)) (some (Value.int IntKind.i64 42)) fun t13 =>
  slc 1 t0 (some (Value.int IntKind.i64 46)) none fun t17 =>
  (efC (cal P f_ref01_Val [t13]) w fun S t14_1 w =>
  cvi IntKind.i64 t14_1 fun t15_1 =>
  rdS S (rdP P (Instr.build T_api_Block #[(1, t15_1), (2, t17)])) fun t18_1 =>
  efS S (efP P (Instr.alloc T_api_Block true (.tuple #[]))) w fun t4_1 w =>
  efC (fun w K => stN 34 t4_1 t18_1 w (K undef)) w fun S _ w =>
  k1 t4_1 w) ∧
  ((efS S (efP P (Instr.alloc T_api_Block true (.tuple #[]))) w fun t4 w =>
  efC (cal P f_ref01_Val [t13]) w fun S t14 w =>
  cvi IntKind.i64 t14 fun t15 =>
  rdS S (rdP P (Instr.build T_api_Block #[(1, t15), (2, t17)])) fun t18 =>
  efC (fun w K => stN 34 t4 t18 w (K undef)) w fun S _ w =>
  k1 t4 w) ∧
  (True))) fun _ t4_2 w =>
  lp1 (Value.int IntKind.i64 0) w fun _ t5 w again2 =>
  bi BinOp.lss t5 (Value.int IntKind.i64 32) fun t20 =>
  cnd t20
  (bi BinOp.add (Value.int IntKind.i64 2) t5 fun t26 =>
  ixs 1 t0 t26 fun t27 =>
  ld1 t27 w.heap fun t28 =>
  fad 0 t4_2 fun t29 =>
  ixa 32 1 t29 t5 fun t30 =>
  st1 t30 t28 w fun w =>
  bi BinOp.add t5 (Value.int IntKind.i64 1) fun t22 =>
  again2 t22 w)
  (ldN 34 t4_2 w.heap fun t32 =>
  cal P f_ref03_Bytes [t32] w fun t33 w =>
  ext 0 t33 fun t34 =>
  ext 1 t33 fun t35 =>
  bi BinOp.neq t35 (Value.int IntKind.i64 0) fun t37 =>
  jn1 (fun k3 =>
  gif t37 false
  (rdP P (convert T_sl_uint8 T_string t34) w fun t40 =>
  rdP P (convert T_sl_uint8 T_string t0) w fun t42 =>
  rdP P (eqS BinOp.neq T_string (Operand.tmp 40) (Operand.tmp 42) t40 t42) w fun t43 =>
  k3 t43 w)
  (k3 undef w)) fun _ t43_1 w =>
  pik t37 (Value.bool true) t43_1 fun t44 =>
  cnd t44
  (rdP P (Instr.build T_api_Block #[]) w fun t45 =>
  stN 34 t2 t45 w fun w =>
  ldN 34 t2 w.heap fun r4 =>
  R (Value.tuple #[r4, (Value.int IntKind.i64 30)]) w)
  (ldN 34 t4_2 w.heap fun t46 =>
  cal P f_ref03_Clone [t46] w fun t47 w =>
  stN 34 t2 t47 w fun w =>
  ldN 34 t2 w.heap fun r5 =>
  R (Value.tuple #[r5, (Value.int IntKind.i64 0)]) w)))
theorem e_ref03_Parse (t0 : Value) (w : World) (R : Value → World → Prop) : intp P A_ref03_Parse (bodyOf Tryd.f35) (ini [t0]) w (retK P Tryd.f35.results.toList R) (fun _ _ _ => False) (retK P Tryd.f35.results.toList R) = c_ref03_Parse t0 w R := by kernel_rfl
theorem k_ref03_Parse : chk P Tryd.f35.ntmps A_ref03_Parse (bodyOf Tryd.f35) = true := by kernel_rfl
theorem l_ref03_Parse {t0 : Value} {w : World} {R : Value → World → Prop} (h : c_ref03_Parse t0 w R) : cal P f_ref03_Parse [t0] w R :=
  calls_of mixed Tryd.func35 rfl (by kernel_rfl) k_ref03_Parse (Eq.mpr (e_ref03_Parse t0 w R) h)
theorem s_ref03_Parse {t0 : Value} {w : World} {Q : Value → World → Prop} (h : ∀ R : Value → World → Prop, (∀ v w', Q v w' → R v w') → c_ref03_Parse t0 w R) : cal P f_ref03_Parse [t0] w Q := l_ref03_Parse (h Q fun _ _ h => h)

/-- flurry/block.Bytes -/
def A_block_Bytes : An := (An.s (An.r []) (An.s (An.s (An.r []) (An.s (An.r []) (An.s (An.s (An.r []) An.o) An.o))) (An.s (An.r []) (An.s (An.r []) (An.s (An.r []) (An.s (An.r []) (An.s (An.r []) (An.s (An.r []) An.o))))))))
def c_block_Bytes (t0 : Value) (w : World) (R : Value → World → Prop) : Prop :=
  bx T_api_Block t0 w fun t1 w =>
  ldN 34 t1 w.heap fun t6 =>
  cal P f_block_Check [t6] w fun t7 w =>
  bi BinOp.neq t7 (Value.int IntKind.i64 0) fun t9 =>
  cnd t9
  (R (Value.tuple #[(Value.slice none 0 0), t7]) w)
  (cal P f_pack_New [(Value.int IntKind.i64 246)] w fun t11 w =>
  cal P f_pack_Packer_Short [t11, (Value.int IntKind.u16 0)] w fun t13 w =>
  fad 0 t1 fun t15 =>
  sla 32 1 t15 none none fun t16 =>
  cal P f_pack_Packer_Fixed [t11, t16] w fun t17 w =>
  fad 32 t1 fun t19 =>
  ld1 t19 w.heap fun t20 =>
  cvi IntKind.u64 t20 fun t21 =>
  cal P f_pack_Packer_Long [t11, t21] w fun t22 w =>
  fad 33 t1 fun t24 =>
  ld1 t24 w.heap fun t25 =>
  cal P f_pack_Packer_Bytes [t11, t25] w fun t26 w =>
  cal P f_pack_Packer_Out [t11] w fun t28 w =>
  ext 0 t28 fun t29 =>
  ext 1 t28 fun t30 =>
  R (Value.tuple #[t29, t30]) w)
theorem e_block_Bytes (t0 : Value) (w : World) (R : Value → World → Prop) : intp P A_block_Bytes (bodyOf Tryd.f36) (ini [t0]) w (retK P Tryd.f36.results.toList R) (fun _ _ _ => False) (retK P Tryd.f36.results.toList R) = c_block_Bytes t0 w R := by kernel_rfl
theorem k_block_Bytes : chk P Tryd.f36.ntmps A_block_Bytes (bodyOf Tryd.f36) = true := by kernel_rfl
theorem l_block_Bytes {t0 : Value} {w : World} {R : Value → World → Prop} (h : c_block_Bytes t0 w R) : cal P f_block_Bytes [t0] w R :=
  calls_of mixed Tryd.func36 rfl (by kernel_rfl) k_block_Bytes (Eq.mpr (e_block_Bytes t0 w R) h)
theorem s_block_Bytes {t0 : Value} {w : World} {Q : Value → World → Prop} (h : ∀ R : Value → World → Prop, (∀ v w', Q v w' → R v w') → c_block_Bytes t0 w R) : cal P f_block_Bytes [t0] w Q := l_block_Bytes (h Q fun _ _ h => h)

/-- flurry/pack.New -/
def A_pack_New : An := (An.s (An.r []) (An.s (An.r []) (An.s (An.r []) (An.s (An.s (An.r [[15]]) (An.s (An.r []) An.o)) (An.s (An.r []) An.o)))))
def c_pack_New (t0 : Value) (w : World) (R : Value → World → Prop) : Prop :=
  rdP P (Instr.build T_pack_Packer #[(1, t0)]) w fun t5 =>
  bx T_pack_Packer t5 w fun t6 w =>
  nilc t6 fun t8 =>
  fad 0 t8 fun t9 =>
  fad 0 t9 fun t10 =>
  st1 t10 (Value.bool true) w fun w =>
  bi BinOp.lss t0 (Value.int IntKind.i64 0) fun t12 =>
  jn1 (fun k0 =>
  gif t12 false
  (bi BinOp.gtr t0 (Value.int IntKind.i64 8192) fun t15 =>
  k0 t15 w)
  (k0 undef w)) fun _ t15_1 w =>
  pik t12 (Value.bool true) t15_1 fun t16 =>
  cnd t16
  (nilc t6 fun t18 =>
  fad 0 t18 fun t19 =>
  fad 2 t19 fun t20 =>
  st1 t20 (Value.int IntKind.i64 1) w fun w =>
  R t6 w)
  (R t6 w)
theorem e_pack_New (t0 : Value) (w : World) (R : Value → World → Prop) : intp P A_pack_New (bodyOf Tryd.f37) (ini [t0]) w (retK P Tryd.f37.results.toList R) (fun _ _ _ => False) (retK P Tryd.f37.results.toList R) = c_pack_New t0 w R := by kernel_rfl
theorem k_pack_New : chk P Tryd.f37.ntmps A_pack_New (bodyOf Tryd.f37) = true := by kernel_rfl
theorem l_pack_New {t0 : Value} {w : World} {R : Value → World → Prop} (h : c_pack_New t0 w R) : cal P f_pack_New [t0] w R :=
  calls_of mixed Tryd.func37 rfl (by kernel_rfl) k_pack_New (Eq.mpr (e_pack_New t0 w R) h)
theorem s_pack_New {t0 : Value} {w : World} {Q : Value → World → Prop} (h : ∀ R : Value → World → Prop, (∀ v w', Q v w' → R v w') → c_pack_New t0 w R) : cal P f_pack_New [t0] w Q := l_pack_New (h Q fun _ _ h => h)

/-- (*flurry/pack.Packer).Int -/
def A_pack_Packer_Int : An := (An.r [])
def c_pack_Packer_Int (t0 t1 : Value) (w : World) (R : Value → World → Prop) : Prop :=
  cvi IntKind.u64 t1 fun t6 =>
  cal P f_pack_number [(Value.int IntKind.i64 4), t6] w fun t7 w =>
  cal P f_pack_Packer_put [t0, t7, (Value.slice none 0 0)] w fun t8 w =>
  R (Value.tuple #[]) w
theorem e_pack_Packer_Int (t0 t1 : Value) (w : World) (R : Value → World → Prop) : intp P A_pack_Packer_Int (bodyOf Tryd.f38) (ini [t0, t1]) w (retK P Tryd.f38.results.toList R) (fun _ _ _ => False) (retK P Tryd.f38.results.toList R) = c_pack_Packer_Int t0 t1 w R := by kernel_rfl
theorem k_pack_Packer_Int : chk P Tryd.f38.ntmps A_pack_Packer_Int (bodyOf Tryd.f38) = true := by kernel_rfl
theorem l_pack_Packer_Int {t0 t1 : Value} {w : World} {R : Value → World → Prop} (h : c_pack_Packer_Int t0 t1 w R) : cal P f_pack_Packer_Int [t0, t1] w R :=
  calls_of mixed Tryd.func38 rfl (by kernel_rfl) k_pack_Packer_Int (Eq.mpr (e_pack_Packer_Int t0 t1 w R) h)
theorem s_pack_Packer_Int {t0 t1 : Value} {w : World} {Q : Value → World → Prop} (h : ∀ R : Value → World → Prop, (∀ v w', Q v w' → R v w') → c_pack_Packer_Int t0 t1 w R) : cal P f_pack_Packer_Int [t0, t1] w Q := l_pack_Packer_Int (h Q fun _ _ h => h)

/-- (*flurry/pack.Packer).Long -/
def A_pack_Packer_Long : An := (An.r [])
def c_pack_Packer_Long (t0 t1 : Value) (w : World) (R : Value → World → Prop) : Prop :=
  cal P f_pack_number [(Value.int IntKind.i64 8), t1] w fun t6 w =>
  cal P f_pack_Packer_put [t0, t6, (Value.slice none 0 0)] w fun t7 w =>
  R (Value.tuple #[]) w
theorem e_pack_Packer_Long (t0 t1 : Value) (w : World) (R : Value → World → Prop) : intp P A_pack_Packer_Long (bodyOf Tryd.f39) (ini [t0, t1]) w (retK P Tryd.f39.results.toList R) (fun _ _ _ => False) (retK P Tryd.f39.results.toList R) = c_pack_Packer_Long t0 t1 w R := by kernel_rfl
theorem k_pack_Packer_Long : chk P Tryd.f39.ntmps A_pack_Packer_Long (bodyOf Tryd.f39) = true := by kernel_rfl
theorem l_pack_Packer_Long {t0 t1 : Value} {w : World} {R : Value → World → Prop} (h : c_pack_Packer_Long t0 t1 w R) : cal P f_pack_Packer_Long [t0, t1] w R :=
  calls_of mixed Tryd.func39 rfl (by kernel_rfl) k_pack_Packer_Long (Eq.mpr (e_pack_Packer_Long t0 t1 w R) h)
theorem s_pack_Packer_Long {t0 t1 : Value} {w : World} {Q : Value → World → Prop} (h : ∀ R : Value → World → Prop, (∀ v w', Q v w' → R v w') → c_pack_Packer_Long t0 t1 w R) : cal P f_pack_Packer_Long [t0, t1] w Q := l_pack_Packer_Long (h Q fun _ _ h => h)

/-- (*flurry/pack.Packer).Fixed -/
def A_pack_Packer_Fixed : An := (An.r [])
def c_pack_Packer_Fixed (t0 t1 : Value) (w : World) (R : Value → World → Prop) : Prop :=
  cal P f_pack_Packer_put [t0, (Value.slice none 0 0), t1] w fun t6 w =>
  R (Value.tuple #[]) w
theorem e_pack_Packer_Fixed (t0 t1 : Value) (w : World) (R : Value → World → Prop) : intp P A_pack_Packer_Fixed (bodyOf Tryd.f40) (ini [t0, t1]) w (retK P Tryd.f40.results.toList R) (fun _ _ _ => False) (retK P Tryd.f40.results.toList R) = c_pack_Packer_Fixed t0 t1 w R := by kernel_rfl
theorem k_pack_Packer_Fixed : chk P Tryd.f40.ntmps A_pack_Packer_Fixed (bodyOf Tryd.f40) = true := by kernel_rfl
theorem l_pack_Packer_Fixed {t0 t1 : Value} {w : World} {R : Value → World → Prop} (h : c_pack_Packer_Fixed t0 t1 w R) : cal P f_pack_Packer_Fixed [t0, t1] w R :=
  calls_of mixed Tryd.func40 rfl (by kernel_rfl) k_pack_Packer_Fixed (Eq.mpr (e_pack_Packer_Fixed t0 t1 w R) h)
theorem s_pack_Packer_Fixed {t0 t1 : Value} {w : World} {Q : Value → World → Prop} (h : ∀ R : Value → World → Prop, (∀ v w', Q v w' → R v w') → c_pack_Packer_Fixed t0 t1 w R) : cal P f_pack_Packer_Fixed [t0, t1] w Q := l_pack_Packer_Fixed (h Q fun _ _ h => h)

/-- (*flurry/pack.Packer).Out -/
def A_pack_Packer_Out : An := (An.s (An.r []) (An.s (An.s (An.r []) (An.s (An.r []) (An.s (An.s (An.r []) An.o) An.o))) (An.s (An.r []) (An.s (An.r []) (An.s (An.r []) An.o)))))
def c_pack_Packer_Out (t0 : Value) (w : World) (R : Value → World → Prop) : Prop :=
  cal P f_pack_Packer_Err [t0] w fun t7 w =>
  bi BinOp.neq t7 (Value.int IntKind.i64 0) fun t9 =>
  cnd t9
  (R (Value.tuple #[(Value.slice none 0 0), t7]) w)
  (nilc t0 fun t12 =>
  fad 0 t12 fun t13 =>
  fad 1 t13 fun t14 =>
  ld1 t14 w.heap fun t15 =>
  lenS t15 fun t16 =>
  efP P (Instr.makeSlice T_sl_uint8 t16 t16) w fun t17 w =>
  nilc t0 fun t20 =>
  fad 0 t20 fun t21 =>
  fad 1 t21 fun t22 =>
  ld1 t22 w.heap fun t23 =>
  efP P (Builtin.copy_ #[T_sl_uint8, T_sl_uint8] T_int #[t17, t23]) w fun t24 w =>
  R (Value.tuple #[t17, (Value.int IntKind.i64 0)]) w)
theorem e_pack_Packer_Out (t0 : Value) (w : World) (R : Value → World → Prop) : intp P A_pack_Packer_Out (bodyOf Tryd.f41) (ini [t0]) w (retK P Tryd.f41.results.toList R) (fun _ _ _ => False) (retK P Tryd.f41.results.toList R) = c_pack_Packer_Out t0 w R := by kernel_rfl
theorem k_pack_Packer_Out : chk P Tryd.f41.ntmps A_pack_Packer_Out (bodyOf Tryd.f41) = true := by kernel_rfl
theorem l_pack_Packer_Out {t0 : Value} {w : World} {R : Value → World → Prop} (h : c_pack_Packer_Out t0 w R) : cal P f_pack_Packer_Out [t0] w R :=
  calls_of mixed Tryd.func41 rfl (by kernel_rfl) k_pack_Packer_Out (Eq.mpr (e_pack_Packer_Out t0 w R) h)
theorem s_pack_Packer_Out {t0 : Value} {w : World} {Q : Value → World → Prop} (h : ∀ R : Value → World → Prop, (∀ v w', Q v w' → R v w') → c_pack_Packer_Out t0 w R) : cal P f_pack_Packer_Out [t0] w Q := l_pack_Packer_Out (h Q fun _ _ h => h)

/-- slices.Grow[[]byte,byte] -/
def A_slices_Grow_byte_byte : An := (An.s (An.r []) (An.s (An.j [] (An.s (An.r []) (An.s (An.r []) An.o))) (An.s (An.s (An.r []) (An.s (An.r []) (An.s (An.r []) An.o))) (An.s (An.r []) An.o))))
def c_slices_Grow_byte_byte (t0 t1 : Value) (w : World) (R : Value → World → Prop) : Prop :=
  jn0 (fun k0 =>
  bi BinOp.lss t1 (Value.int IntKind.i64 0) fun t6 =>
  cnd t6
  (rdP P (Instr.makeInterface T_string (Value.string { data := #[99, 97, 110, 110, 111, 116, 32, 98, 101, 32, 110, 101, 103, 97, 116, 105, 118, 101] })) w fun t7 =>
  False)
  (k0 w)) fun _ w =>
  rdP P (Builtin.cap_ #[T_sl_uint8] T_int #[t0]) w fun t10 =>
  lenS t0 fun t12 =>
  bi BinOp.sub t10 t12 fun t13 =>
  bi BinOp.sub t1 t13 fun t14 =>
  bi BinOp.gtr t14 (Value.int IntKind.i64 0) fun t16 =>
  cnd t16
  (rdP P (Builtin.cap_ #[T_sl_uint8] T_int #[t0]) w fun t19 =>
  slc 1 t0 none (some t19) fun t20 =>
  efP P (Builtin.append_ #[T_sl_uint8, T_int] T_sl_uint8 #[t20, t14]) w fun t22 w =>
  lenS t0 fun t24 =>
  slc 1 t22 none (some t24) fun t25 =>
  R t25 w)
  (R t0 w)
theorem e_slices_Grow_byte_byte (t0 t1 : Value) (w : World) (R : Value → World → Prop) : intp P A_slices_Grow_byte_byte (bodyOf Tryd.f42) (ini [t0, t1]) w (retK P Tryd.f42.results.toList R) (fun _ _ _ => False) (retK P Tryd.f42.results.toList R) = c_slices_Grow_byte_byte t0 t1 w R := by kernel_rfl
theorem k_slices_Grow_byte_byte : chk P Tryd.f42.ntmps A_slices_Grow_byte_byte (bodyOf Tryd.f42) = true := by kernel_rfl
theorem l_slices_Grow_byte_byte {t0 t1 : Value} {w : World} {R : Value → World → Prop} (h : c_slices_Grow_byte_byte t0 t1 w R) : cal P f_slices_Grow_byte_byte [t0, t1] w R :=
  calls_of mixed Tryd.func42 rfl (by kernel_rfl) k_slices_Grow_byte_byte (Eq.mpr (e_slices_Grow_byte_byte t0 t1 w R) h)
theorem s_slices_Grow_byte_byte {t0 t1 : Value} {w : World} {Q : Value → World → Prop} (h : ∀ R : Value → World → Prop, (∀ v w', Q v w' → R v w') → c_slices_Grow_byte_byte t0 t1 w R) : cal P f_slices_Grow_byte_byte [t0, t1] w Q := l_slices_Grow_byte_byte (h Q fun _ _ h => h)

/-- flurry/block.Check -/
def A_block_Check : An := (An.s (An.r []) (An.s (An.b (An.s (An.j [3] (An.s (An.r []) (An.s An.o (An.r [])))) (An.s (An.s (An.r []) An.o) (An.s (An.r [[19]]) (An.s (An.s (An.r []) An.o) An.o))))) (An.s (An.r []) An.o)))
def c_block_Check (t0 : Value) (w : World) (R : Value → World → Prop) : Prop :=
  bx T_api_Block t0 w fun t1 w =>
  jn1 (fun k0 =>
  fad 32 t1 fun t4 =>
  ld1 t4 w.heap fun t5 =>
  bi BinOp.lss t5 (Value.int IntKind.i64 0) fun t6 =>
  cnd t6
  (k0 t6 w)
  (fad 33 t1 fun t7 =>
  ld1 t7 w.heap fun t8 =>
  lenS t8 fun t9 =>
  bi BinOp.gtr t9 (Value.int IntKind.i64 200) fun t10 =>
  k0 t10 w)) fun _ t3 w =>
  cnd t3
  (R (Value.int IntKind.i64 30) w)
  (fad 32 t1 fun t12 =>
  ld1 t12 w.heap fun t13 =>
  bi BinOp.eql t13 (Value.int IntKind.i64 0) fun t14 =>
  jn1 (fun k1 =>
  gif t14 true
  (fad 0 t1 fun t16 =>
  ldN 32 t16 w.heap fun t17 =>
  rdP P (Instr.build T_api_ID #[]) w fun t18 =>
  rdP P (eqS BinOp.neq T_api_ID (Operand.tmp 17) (Operand.tmp 18) t17 t18) w fun t19 =>
  k1 t19 w)
  (k1 undef w)) fun _ t19_1 w =>
  pik t14 t19_1 (Value.bool false) fun t20 =>
  cnd t20
  (R (Value.int IntKind.i64 30) w)
  (R (Value.int IntKind.i64 0) w))
theorem e_block_Check (t0 : Value) (w : World) (R : Value → World → Prop) : intp P A_block_Check (bodyOf Tryd.f43) (ini [t0]) w (retK P Tryd.f43.results.toList R) (fun _ _ _ => False) (retK P Tryd.f43.results.toList R) = c_block_Check t0 w R := by kernel_rfl
theorem k_block_Check : chk P Tryd.f43.ntmps A_block_Check (bodyOf Tryd.f43) = true := by kernel_rfl
theorem l_block_Check {t0 : Value} {w : World} {R : Value → World → Prop} (h : c_block_Check t0 w R) : cal P f_block_Check [t0] w R :=
  calls_of mixed Tryd.func43 rfl (by kernel_rfl) k_block_Check (Eq.mpr (e_block_Check t0 w R) h)
theorem s_block_Check {t0 : Value} {w : World} {Q : Value → World → Prop} (h : ∀ R : Value → World → Prop, (∀ v w', Q v w' → R v w') → c_block_Check t0 w R) : cal P f_block_Check [t0] w Q := l_block_Check (h Q fun _ _ h => h)

/-- flurry/flurryref03.Bytes -/
def A_ref03_Bytes : An := (An.s (An.r []) (An.s (An.s (An.r []) (An.s (An.r []) (An.s (An.s (An.r []) An.o) An.o))) (An.s (An.r []) (An.s (An.s (An.r []) (An.b (An.l [5, 6] (An.s (An.s (An.r []) (An.s An.o An.o)) (An.s (An.b (An.r [])) (An.r [])))))) (An.s (An.r []) (An.s (An.r []) (An.s (An.r []) An.o)))))))
def c_ref03_Bytes (t0 : Value) (w : World) (R : Value → World → Prop) : Prop :=
  bx T_api_Block t0 w fun t1 w =>
  ldN 34 t1 w.heap fun t7 =>
  cal P f_ref03_Check [t7] w fun t8 w =>
  bi BinOp.neq t8 (Value.int IntKind.i64 0) fun t10 =>
  cnd t10
  (R (Value.tuple #[(Value.slice none 0 0), t8]) w)
  (efP P (Instr.buildSlice T_sl_uint8 2 #[(0, (Value.int IntKind.u8 0)), (1, (Value.int IntKind.u8 0))]) w fun t12 w =>
  lp2 t12 (Value.int IntKind.i64 0) w fun _ t5 t6 w again0 =>
  bi BinOp.lss t6 (Value.int IntKind.i64 32) fun t14 =>
  cnd t14
  (fad 0 t1 fun t19 =>
  ixa 32 1 t19 t6 fun t20 =>
  ld1 t20 w.heap fun t21 =>
  efP P (Instr.buildSlice T_sl_uint8 1 #[(0, t21)]) w fun t22 w =>
  efP P (Builtin.append_ #[T_sl_uint8, T_sl_uint8] T_sl_uint8 #[t5, t22]) w fun t23 w =>
  bi BinOp.add t6 (Value.int IntKind.i64 1) fun t16 =>
  again0 t23 t16 w)
  (fad 32 t1 fun t25 =>
  ld1 t25 w.heap fun t26 =>
  cvi IntKind.u64 t26 fun t27 =>
  cal P f_ref01_Num [(Value.int IntKind.i64 8), t27] w fun t28 w =>
  efP P (Builtin.append_ #[T_sl_uint8, T_sl_uint8] T_sl_uint8 #[t5, t28]) w fun t29 w =>
  fad 33 t1 fun t31 =>
  ld1 t31 w.heap fun t32 =>
  lenS t32 fun t33 =>
  cvi IntKind.u64 t33 fun t34 =>
  cal P f_ref01_Num [(Value.int IntKind.i64 4), t34] w fun t35 w =>
  efP P (Builtin.append_ #[T_sl_uint8, T_sl_uint8] T_sl_uint8 #[t29, t35]) w fun t36 w =>
  fad 33 t1 fun t38 =>
  ld1 t38 w.heap fun t39 =>
  efP P (Builtin.append_ #[T_sl_uint8, T_sl_uint8] T_sl_uint8 #[t36, t39]) w fun t40 w =>
  R (Value.tuple #[t40, (Value.int IntKind.i64 0)]) w))
theorem e_ref03_Bytes (t0 : Value) (w : World) (R : Value → World → Prop) : intp P A_ref03_Bytes (bodyOf Tryd.f44) (ini [t0]) w (retK P Tryd.f44.results.toList R) (fun _ _ _ => False) (retK P Tryd.f44.results.toList R) = c_ref03_Bytes t0 w R := by kernel_rfl
theorem k_ref03_Bytes : chk P Tryd.f44.ntmps A_ref03_Bytes (bodyOf Tryd.f44) = true := by kernel_rfl
theorem l_ref03_Bytes {t0 : Value} {w : World} {R : Value → World → Prop} (h : c_ref03_Bytes t0 w R) : cal P f_ref03_Bytes [t0] w R :=
  calls_of mixed Tryd.func44 rfl (by kernel_rfl) k_ref03_Bytes (Eq.mpr (e_ref03_Bytes t0 w R) h)
theorem s_ref03_Bytes {t0 : Value} {w : World} {Q : Value → World → Prop} (h : ∀ R : Value → World → Prop, (∀ v w', Q v w' → R v w') → c_ref03_Bytes t0 w R) : cal P f_ref03_Bytes [t0] w Q := l_ref03_Bytes (h Q fun _ _ h => h)

/-- flurry/flurryref01.Num -/
def A_ref01_Num : An := (An.s (An.r []) (An.s (An.r []) (An.s (An.s (An.r []) (An.b (An.l [1, 6] (An.s (An.s (An.r []) (An.s An.o An.o)) (An.s (An.b (An.s (An.r []) (An.r []))) (An.r [])))))) (An.s (An.r []) An.o))))
def c_ref01_Num (t0 t1 : Value) (w : World) (R : Value → World → Prop) : Prop :=
  efP P (Instr.makeSlice T_sl_uint8 t0 t0) w fun t8 w =>
  bi BinOp.sub t0 (Value.int IntKind.i64 1) fun t10 =>
  lp2 t1 t10 w fun _ t1_1 t6 w again0 =>
  bi BinOp.geq t6 (Value.int IntKind.i64 0) fun t12 =>
  cnd t12
  (bi BinOp.rem t1_1 (Value.int IntKind.u64 256) fun t18 =>
  cvi IntKind.u8 t18 fun t19 =>
  ixs 1 t8 t6 fun t20 =>
  st1 t20 t19 w fun w =>
  bi BinOp.quo t1_1 (Value.int IntKind.u64 256) fun t22 =>
  bi BinOp.sub t6 (Value.int IntKind.i64 1) fun t14 =>
  again0 t22 t14 w)
  (R t8 w)
theorem e_ref01_Num (t0 t1 : Value) (w : World) (R : Value → World → Prop) : intp P A_ref01_Num (bodyOf Tryd.f45) (ini [t0, t1]) w (retK P Tryd.f45.results.toList R) (fun _ _ _ => False) (retK P Tryd.f45.results.toList R) = c_ref01_Num t0 t1 w R := by kernel_rfl
theorem k_ref01_Num : chk P Tryd.f45.ntmps A_ref01_Num (bodyOf Tryd.f45) = true := by kernel_rfl
theorem l_ref01_Num {t0 t1 : Value} {w : World} {R : Value → World → Prop} (h : c_ref01_Num t0 t1 w R) : cal P f_ref01_Num [t0, t1] w R :=
  calls_of mixed Tryd.func45 rfl (by kernel_rfl) k_ref01_Num (Eq.mpr (e_ref01_Num t0 t1 w R) h)
theorem s_ref01_Num {t0 t1 : Value} {w : World} {Q : Value → World → Prop} (h : ∀ R : Value → World → Prop, (∀ v w', Q v w' → R v w') → c_ref01_Num t0 t1 w R) : cal P f_ref01_Num [t0, t1] w Q := l_ref01_Num (h Q fun _ _ h => h)

/-- flurry/flurryref02.Sum -/
def A_ref02_Sum : An := (An.s (An.r []) (An.s (An.r []) (An.s (An.r []) (An.s (An.s (An.r []) (An.b (An.l [5] (An.s (An.s (An.r []) (An.s An.o An.o)) (An.s (An.b (An.dc [0, 1, 2, 3, 4, 5, 6, 7] [6, 7] [])) (An.r [])))))) (An.s (An.r []) (An.s (An.s (An.r []) (An.b (An.l [7] (An.s (An.s (An.r []) (An.s An.o An.o)) (An.s (An.b (An.r [])) (An.r [])))))) (An.s (An.r []) An.o)))))))
def c_ref02_Sum (t0 : Value) (w : World) (R : Value → World → Prop) : Prop :=
  efP P (Instr.alloc T_api_ID true (.tuple #[])) w fun t2 w =>
  cal P f_ref02_padded [t0] w fun t9 w =>
  rdP P (Instr.build T_a8_uint32 #[(0, (Value.int IntKind.u32 1779033703)), (1, (Value.int IntKind.u32 3144134277)), (2, (Value.int IntKind.u32 1013904242)), (3, (Value.int IntKind.u32 2773480762)), (4, (Value.int IntKind.u32 1359893119)), (5, (Value.int IntKind.u32 2600822924)), (6, (Value.int IntKind.u32 528734635)), (7, (Value.int IntKind.u32 1541459225))]) w fun t10 =>
  efP P (Instr.alloc T_a8_uint32 true (.tuple #[])) w fun t4 w =>
  stN 8 t4 t10 w fun w =>
  lp1 (Value.int IntKind.i64 0) w fun _ t5 w again0 =>
  lenS t9 fun t13 =>
  bi BinOp.lss t5 t13 fun t14 =>
  cnd t14
  (drH w fun S w =>
  rdS S (fun w => ldN 8 t4 w.heap) fun t17 =>
  bi BinOp.add t5 (Value.int IntKind.i64 64) fun t21 =>
  slc 1 t9 (some t5) (some t21) fun t22 =>
  efC (cal P f_ref02_goes [t17, t22]) w fun S t23 w =>
  efC (fun w K => stN 8 t4 t23 w (K undef)) w fun S _ w =>
  bi BinOp.add t5 (Value.int IntKind.i64 64) fun t16 =>
  again0 t16 w)
  (efP P (Instr.alloc T_api_ID true (.tuple #[])) w fun t6 w =>
  lp1 (Value.int IntKind.i64 0) w fun _ t7 w again1 =>
  bi BinOp.lss t7 (Value.int IntKind.i64 32) fun t25 =>
  cnd t25
  (bi BinOp.quo t7 (Value.int IntKind.i64 4) fun t30 =>
  ixa 8 1 t4 t30 fun t31 =>
  ld1 t31 w.heap fun t32 =>
  bi BinOp.rem t7 (Value.int IntKind.i64 4) fun t34 =>
  bi BinOp.mul (Value.int IntKind.i64 8) t34 fun t35 =>
  bi BinOp.sub (Value.int IntKind.i64 24) t35 fun t36 =>
  cvi IntKind.u64 t36 fun t37 =>
  sh BinOp.shr t32 t37 fun t38 =>
  cvi IntKind.u8 t38 fun t39 =>
  ixa 32 1 t6 t7 fun t40 =>
  st1 t40 t39 w fun w =>
  bi BinOp.add t7 (Value.int IntKind.i64 1) fun t27 =>
  again1 t27 w)
  (ldN 32 t6 w.heap fun t41 =>
  stN 32 t2 t41 w fun w =>
  ldN 32 t2 w.heap fun r2 =>
  R r2 w))
theorem e_ref02_Sum (t0 : Value) (w : World) (R : Value → World → Prop) : intp P A_ref02_Sum (bodyOf Tryd.f46) (ini [t0]) w (retK P Tryd.f46.results.toList R) (fun _ _ _ => False) (retK P Tryd.f46.results.toList R) = c_ref02_Sum t0 w R := by kernel_rfl
theorem k_ref02_Sum : chk P Tryd.f46.ntmps A_ref02_Sum (bodyOf Tryd.f46) = true := by kernel_rfl
theorem l_ref02_Sum {t0 : Value} {w : World} {R : Value → World → Prop} (h : c_ref02_Sum t0 w R) : cal P f_ref02_Sum [t0] w R :=
  calls_of mixed Tryd.func46 rfl (by kernel_rfl) k_ref02_Sum (Eq.mpr (e_ref02_Sum t0 w R) h)
theorem s_ref02_Sum {t0 : Value} {w : World} {Q : Value → World → Prop} (h : ∀ R : Value → World → Prop, (∀ v w', Q v w' → R v w') → c_ref02_Sum t0 w R) : cal P f_ref02_Sum [t0] w Q := l_ref02_Sum (h Q fun _ _ h => h)

/-- flurry/rec.scan -/
def A_rec_scan : An := (An.s (An.r []) (An.g 0 [4, 5, 6] (An.s (An.r []) (An.s (An.r []) (An.s (An.r []) An.o))) (An.s (An.r []) (An.s (An.s (An.r []) (An.s (An.s (An.r []) An.o) An.o)) (An.s (An.r []) (An.s (An.r []) (An.s (An.r []) An.o)))))))
def c_rec_scan (t0 : Value) (w : World) (R : Value → World → Prop) : Prop :=
  lp3 (Value.slice none 0 0) (Value.slice none 0 0) (Value.int IntKind.i64 0) w fun _ t4 t5 t6 w again0 =>
  cal P f_rec_Take [t0, t6] w fun t13 w =>
  ext 0 t13 fun t14 =>
  ext 1 t13 fun t15 =>
  ext 2 t13 fun t16 =>
  efP P (Instr.alloc T_api_Block true (.tuple #[])) w fun t7 w =>
  stN 34 t7 t14 w fun w =>
  bi BinOp.neq t16 (Value.int IntKind.i64 0) fun t18 =>
  cnd t18
  (R (Value.tuple #[t4, t5]) w)
  (ldN 34 t7 w.heap fun t22 =>
  efP P (Instr.buildSlice T_sl_api_Block 1 #[(0, t22)]) w fun t23 w =>
  efP P (Builtin.append_ #[T_sl_api_Block, T_sl_api_Block] T_sl_api_Block #[t4, t23]) w fun t24 w =>
  efP P (Instr.buildSlice T_sl_int 1 #[(0, t15)]) w fun t27 w =>
  efP P (Builtin.append_ #[T_sl_int, T_sl_int] T_sl_int #[t5, t27]) w fun t28 w =>
  again0 t24 t28 t15 w)
theorem e_rec_scan (t0 : Value) (w : World) (R : Value → World → Prop) : intp P A_rec_scan (bodyOf Tryd.f47) (ini [t0]) w (retK P Tryd.f47.results.toList R) (fun _ _ _ => False) (retK P Tryd.f47.results.toList R) = c_rec_scan t0 w R := by kernel_rfl
theorem k_rec_scan : chk P Tryd.f47.ntmps A_rec_scan (bodyOf Tryd.f47) = true := by kernel_rfl
theorem l_rec_scan {t0 : Value} {w : World} {R : Value → World → Prop} (h : c_rec_scan t0 w R) : cal P f_rec_scan [t0] w R :=
  calls_of mixed Tryd.func47 rfl (by kernel_rfl) k_rec_scan (Eq.mpr (e_rec_scan t0 w R) h)
theorem s_rec_scan {t0 : Value} {w : World} {Q : Value → World → Prop} (h : ∀ R : Value → World → Prop, (∀ v w', Q v w' → R v w') → c_rec_scan t0 w R) : cal P f_rec_scan [t0] w Q := l_rec_scan (h Q fun _ _ h => h)

/-- flurry/rec.Ends$1 -/
def A_rec_Ends_1 : AnY := (AnY.s (AnY.c (An.r [])) (AnY.s (AnY.c (An.r [])) (AnY.b (AnY.f (AnY.c (An.r [])) (AnY.b (AnY.s AnY.y (AnY.s AnY.o AnY.o)))))))
def c_rec_Ends_1 (t0 t1 : Value) (w : World) (R : Value → World → Prop) : Prop :=
  bx T_func_int_bool t0 w fun t2 w =>
  ld1 t1 w.heap fun t4 =>
  cal P f_slices_Values_int_int [t4] w fun t5 w =>
  rng P t5 1 w (fun args0 w beg0 fin0 =>
  beg0 w fun w =>
  ld1 t2 w.heap fun t7 =>
  calY P t7 [(args0.getD 0 undef)] w fun t9 w =>
  notB t9 fun t10 =>
  cnd t10
  (fin0 (some .ret) w)
  (fin0 none w)) fun D0 => [(none, fun w =>
  takeD [D0] w fun w =>
  R (Value.tuple #[]) w), (some (.ret), fun w =>
  takeD [D0] w fun w =>
  R (Value.tuple #[]) w)]
theorem e_rec_Ends_1 (t0 t1 : Value) (w : World) (R : Value → World → Prop) : intpY P A_rec_Ends_1 (bodyOf Tryd.f48) (ini [t0, t1]) [] w (retY P Tryd.f48.results.toList R) (fun _ _ _ _ => False) (retY P Tryd.f48.results.toList R) = c_rec_Ends_1 t0 t1 w R := by kernel_rfl
theorem k_rec_Ends_1 : chkY P Tryd.f48.ntmps A_rec_Ends_1 (bodyOf Tryd.f48) = true := by kernel_rfl
theorem l_rec_Ends_1 {t0 t1 : Value} {w : World} {R : Value → World → Prop} (h : c_rec_Ends_1 t0 t1 w R) : cal P f_rec_Ends_1 [t0, t1] w R :=
  calls_ofY mixed Tryd.func48 rfl (by kernel_rfl) k_rec_Ends_1 (Eq.mpr (e_rec_Ends_1 t0 t1 w R) h)
theorem s_rec_Ends_1 {t0 t1 : Value} {w : World} {Q : Value → World → Prop} (h : ∀ R : Value → World → Prop, (∀ v w', Q v w' → R v w') → c_rec_Ends_1 t0 t1 w R) : cal P f_rec_Ends_1 [t0, t1] w Q := l_rec_Ends_1 (h Q fun _ _ h => h)

/-- slices.Values[[]int,int] -/
def A_slices_Values_int_int : An := (An.s (An.r []) (An.s (An.r []) An.o))
def c_slices_Values_int_int (t0 : Value) (w : World) (R : Value → World → Prop) : Prop :=
  bx T_sl_int t0 w fun t1 w =>
  R (Value.func (Fn.func f_slices_Values_int_int_1) #[] #[t1]) w
theorem e_slices_Values_int_int (t0 : Value) (w : World) (R : Value → World → Prop) : intp P A_slices_Values_int_int (bodyOf Tryd.f49) (ini [t0]) w (retK P Tryd.f49.results.toList R) (fun _ _ _ => False) (retK P Tryd.f49.results.toList R) = c_slices_Values_int_int t0 w R := by kernel_rfl
theorem k_slices_Values_int_int : chk P Tryd.f49.ntmps A_slices_Values_int_int (bodyOf Tryd.f49) = true := by kernel_rfl
theorem l_slices_Values_int_int {t0 : Value} {w : World} {R : Value → World → Prop} (h : c_slices_Values_int_int t0 w R) : cal P f_slices_Values_int_int [t0] w R :=
  calls_of mixed Tryd.func49 rfl (by kernel_rfl) k_slices_Values_int_int (Eq.mpr (e_slices_Values_int_int t0 w R) h)
theorem s_slices_Values_int_int {t0 : Value} {w : World} {Q : Value → World → Prop} (h : ∀ R : Value → World → Prop, (∀ v w', Q v w' → R v w') → c_slices_Values_int_int t0 w R) : cal P f_slices_Values_int_int [t0] w Q := l_slices_Values_int_int (h Q fun _ _ h => h)

/-- flurry/pack.value -/
def A_pack_value : An := (An.s (An.r []) (An.s (An.r []) (An.s (An.s (An.r []) (An.b (An.l [3, 8] (An.s (An.r []) (An.s (An.s An.o An.o) (An.s (An.b (An.s (An.r []) (An.r []))) (An.r []))))))) (An.s (An.r []) An.o))))
def c_pack_value (t0 : Value) (w : World) (R : Value → World → Prop) : Prop :=
  lenS t0 fun t7 =>
  lp2 (Value.int IntKind.u64 0) (Value.int IntKind.i64 0) w fun _ t3 t8 w again0 =>
  bi BinOp.lss t8 t7 fun t9 =>
  cnd t9
  (ixs 1 t0 t8 fun t10 =>
  ld1 t10 w.heap fun t11 =>
  sh BinOp.shl t3 (Value.int IntKind.u64 8) fun t13 =>
  cvi IntKind.u64 t11 fun t15 =>
  bi BinOp.or t13 t15 fun t16 =>
  bi BinOp.add t8 (Value.int IntKind.i64 1) fun t17 =>
  again0 t16 t17 w)
  (R t3 w)
theorem e_pack_value (t0 : Value) (w : World) (R : Value → World → Prop) : intp P A_pack_value (bodyOf Tryd.f50) (ini [t0]) w (retK P Tryd.f50.results.toList R) (fun _ _ _ => False) (retK P Tryd.f50.results.toList R) = c_pack_value t0 w R := by kernel_rfl
theorem k_pack_value : chk P Tryd.f50.ntmps A_pack_value (bodyOf Tryd.f50) = true := by kernel_rfl
theorem l_pack_value {t0 : Value} {w : World} {R : Value → World → Prop} (h : c_pack_value t0 w R) : cal P f_pack_value [t0] w R :=
  calls_of mixed Tryd.func50 rfl (by kernel_rfl) k_pack_value (Eq.mpr (e_pack_value t0 w R) h)
theorem s_pack_value {t0 : Value} {w : World} {Q : Value → World → Prop} (h : ∀ R : Value → World → Prop, (∀ v w', Q v w' → R v w') → c_pack_value t0 w R) : cal P f_pack_value [t0] w Q := l_pack_value (h Q fun _ _ h => h)

/-- (*flurry/pack.Unpacker).take -/
def A_pack_Unpacker_take : An := (An.s (An.r []) (An.s (An.b (An.s (An.r []) (An.s (An.s (An.r []) An.o) (An.s (An.r []) (An.s (An.s (An.r []) (An.s (An.r []) An.o)) (An.s (An.r []) (An.s (An.s (An.r []) (An.s (An.r []) An.o)) An.o))))))) (An.s (An.r []) (An.s (An.r []) (An.s (An.r []) (An.s (An.r []) An.o))))))
def c_pack_Unpacker_take (t0 t1 : Value) (w : World) (R : Value → World → Prop) : Prop :=
  cal P f_pack_Unpacker_works [t0] w fun t8 w =>
  notB t8 fun t9 =>
  cnd t9
  (R (Value.slice none 0 0) w)
  (bi BinOp.lss t1 (Value.int IntKind.i64 0) fun t12 =>
  cnd t12
  (nilc t0 fun t14 =>
  fad 0 t14 fun t15 =>
  cal P f_pack_kept_fails [t15, (Value.int IntKind.i64 1)] w fun t16 w =>
  R (Value.slice none 0 0) w)
  (nilc t0 fun t20 =>
  fad 0 t20 fun t21 =>
  fad 1 t21 fun t22 =>
  ld1 t22 w.heap fun t23 =>
  lenS t23 fun t24 =>
  bi BinOp.gtr t1 t24 fun t25 =>
  cnd t25
  (nilc t0 fun t27 =>
  fad 0 t27 fun t28 =>
  cal P f_pack_kept_fails [t28, (Value.int IntKind.i64 11)] w fun t29 w =>
  R (Value.slice none 0 0) w)
  (efP P (Instr.makeSlice T_sl_uint8 t1 t1) w fun t31 w =>
  nilc t0 fun t34 =>
  fad 0 t34 fun t35 =>
  fad 1 t35 fun t36 =>
  ld1 t36 w.heap fun t37 =>
  efP P (Builtin.copy_ #[T_sl_uint8, T_sl_uint8] T_int #[t31, t37]) w fun t38 w =>
  nilc t0 fun t41 =>
  fad 0 t41 fun t42 =>
  fad 1 t42 fun t43 =>
  ld1 t43 w.heap fun t44 =>
  slc 1 t44 (some t1) none fun t46 =>
  nilc t0 fun t47 =>
  fad 0 t47 fun t48 =>
  fad 1 t48 fun t49 =>
  st1 t49 t46 w fun w =>
  R t31 w)))
theorem e_pack_Unpacker_take (t0 t1 : Value) (w : World) (R : Value → World → Prop) : intp P A_pack_Unpacker_take (bodyOf Tryd.f51) (ini [t0, t1]) w (retK P Tryd.f51.results.toList R) (fun _ _ _ => False) (retK P Tryd.f51.results.toList R) = c_pack_Unpacker_take t0 t1 w R := by kernel_rfl
theorem k_pack_Unpacker_take : chk P Tryd.f51.ntmps A_pack_Unpacker_take (bodyOf Tryd.f51) = true := by kernel_rfl
theorem l_pack_Unpacker_take {t0 t1 : Value} {w : World} {R : Value → World → Prop} (h : c_pack_Unpacker_take t0 t1 w R) : cal P f_pack_Unpacker_take [t0, t1] w R :=
  calls_of mixed Tryd.func51 rfl (by kernel_rfl) k_pack_Unpacker_take (Eq.mpr (e_pack_Unpacker_take t0 t1 w R) h)
theorem s_pack_Unpacker_take {t0 t1 : Value} {w : World} {Q : Value → World → Prop} (h : ∀ R : Value → World → Prop, (∀ v w', Q v w' → R v w') → c_pack_Unpacker_take t0 t1 w R) : cal P f_pack_Unpacker_take [t0, t1] w Q := l_pack_Unpacker_take (h Q fun _ _ h => h)

/-- (*flurry/pack.Unpacker).Short -/
def A_pack_Unpacker_Short : An := (An.s (An.r []) (An.s (An.r []) An.o))
def c_pack_Unpacker_Short (t0 : Value) (w : World) (R : Value → World → Prop) : Prop :=
  cal P f_pack_Unpacker_take [t0, (Value.int IntKind.i64 2)] w fun t4 w =>
  cal P f_pack_value [t4] w fun t5 w =>
  cvi IntKind.u16 t5 fun t6 =>
  R t6 w
theorem e_pack_Unpacker_Short (t0 : Value) (w : World) (R : Value → World → Prop) : intp P A_pack_Unpacker_Short (bodyOf Tryd.f52) (ini [t0]) w (retK P Tryd.f52.results.toList R) (fun _ _ _ => False) (retK P Tryd.f52.results.toList R) = c_pack_Unpacker_Short t0 w R := by kernel_rfl
theorem k_pack_Unpacker_Short : chk P Tryd.f52.ntmps A_pack_Unpacker_Short (bodyOf Tryd.f52) = true := by kernel_rfl
theorem l_pack_Unpacker_Short {t0 : Value} {w : World} {R : Value → World → Prop} (h : c_pack_Unpacker_Short t0 w R) : cal P f_pack_Unpacker_Short [t0] w R :=
  calls_of mixed Tryd.func52 rfl (by kernel_rfl) k_pack_Unpacker_Short (Eq.mpr (e_pack_Unpacker_Short t0 w R) h)
theorem s_pack_Unpacker_Short {t0 : Value} {w : World} {Q : Value → World → Prop} (h : ∀ R : Value → World → Prop, (∀ v w', Q v w' → R v w') → c_pack_Unpacker_Short t0 w R) : cal P f_pack_Unpacker_Short [t0] w Q := l_pack_Unpacker_Short (h Q fun _ _ h => h)

/-- (*flurry/pack.Unpacker).Fixed -/
def A_pack_Unpacker_Fixed : An := (An.s (An.r []) (An.s (An.r []) An.o))
def c_pack_Unpacker_Fixed (t0 t1 : Value) (w : World) (R : Value → World → Prop) : Prop :=
  cal P f_pack_Unpacker_take [t0, t1] w fun t7 w =>
  R t7 w
theorem e_pack_Unpacker_Fixed (t0 t1 : Value) (w : World) (R : Value → World → Prop) : intp P A_pack_Unpacker_Fixed (bodyOf Tryd.f53) (ini [t0, t1]) w (retK P Tryd.f53.results.toList R) (fun _ _ _ => False) (retK P Tryd.f53.results.toList R) = c_pack_Unpacker_Fixed t0 t1 w R := by kernel_rfl
theorem k_pack_Unpacker_Fixed : chk P Tryd.f53.ntmps A_pack_Unpacker_Fixed (bodyOf Tryd.f53) = true := by kernel_rfl
theorem l_pack_Unpacker_Fixed {t0 t1 : Value} {w : World} {R : Value → World → Prop} (h : c_pack_Unpacker_Fixed t0 t1 w R) : cal P f_pack_Unpacker_Fixed [t0, t1] w R :=
  calls_of mixed Tryd.func53 rfl (by kernel_rfl) k_pack_Unpacker_Fixed (Eq.mpr (e_pack_Unpacker_Fixed t0 t1 w R) h)
theorem s_pack_Unpacker_Fixed {t0 t1 : Value} {w : World} {Q : Value → World → Prop} (h : ∀ R : Value → World → Prop, (∀ v w', Q v w' → R v w') → c_pack_Unpacker_Fixed t0 t1 w R) : cal P f_pack_Unpacker_Fixed [t0, t1] w Q := l_pack_Unpacker_Fixed (h Q fun _ _ h => h)

/-- (*flurry/pack.Unpacker).Bytes -/
def A_pack_Unpacker_Bytes : An := (An.s (An.r []) (An.s (An.r []) An.o))
def c_pack_Unpacker_Bytes (t0 t1 : Value) (w : World) (R : Value → World → Prop) : Prop :=
  cal P f_pack_Unpacker_counted [t0, (Value.int IntKind.i64 4), t1] w fun t7 w =>
  R t7 w
theorem e_pack_Unpacker_Bytes (t0 t1 : Value) (w : World) (R : Value → World → Prop) : intp P A_pack_Unpacker_Bytes (bodyOf Tryd.f54) (ini [t0, t1]) w (retK P Tryd.f54.results.toList R) (fun _ _ _ => False) (retK P Tryd.f54.results.toList R) = c_pack_Unpacker_Bytes t0 t1 w R := by kernel_rfl
theorem k_pack_Unpacker_Bytes : chk P Tryd.f54.ntmps A_pack_Unpacker_Bytes (bodyOf Tryd.f54) = true := by kernel_rfl
theorem l_pack_Unpacker_Bytes {t0 t1 : Value} {w : World} {R : Value → World → Prop} (h : c_pack_Unpacker_Bytes t0 t1 w R) : cal P f_pack_Unpacker_Bytes [t0, t1] w R :=
  calls_of mixed Tryd.func54 rfl (by kernel_rfl) k_pack_Unpacker_Bytes (Eq.mpr (e_pack_Unpacker_Bytes t0 t1 w R) h)
theorem s_pack_Unpacker_Bytes {t0 t1 : Value} {w : World} {Q : Value → World → Prop} (h : ∀ R : Value → World → Prop, (∀ v w', Q v w' → R v w') → c_pack_Unpacker_Bytes t0 t1 w R) : cal P f_pack_Unpacker_Bytes [t0, t1] w Q := l_pack_Unpacker_Bytes (h Q fun _ _ h => h)

/-- (*flurry/pack.Unpacker).End -/
def A_pack_Unpacker_End : An := (An.s (An.r []) (An.s (An.s (An.r []) (An.s (An.r [[15]]) (An.s (An.s (An.r []) An.o) An.o))) (An.s (An.r []) An.o)))
def c_pack_Unpacker_End (t0 : Value) (w : World) (R : Value → World → Prop) : Prop :=
  cal P f_pack_Unpacker_Err [t0] w fun t5 w =>
  bi BinOp.neq t5 (Value.int IntKind.i64 0) fun t7 =>
  jn1 (fun k0 =>
  gif t7 false
  (nilc t0 fun t10 =>
  fad 0 t10 fun t11 =>
  fad 1 t11 fun t12 =>
  ld1 t12 w.heap fun t13 =>
  lenS t13 fun t14 =>
  bi BinOp.eql t14 (Value.int IntKind.i64 0) fun t15 =>
  k0 t15 w)
  (k0 undef w)) fun _ t15_1 w =>
  pik t7 (Value.bool true) t15_1 fun t16 =>
  cnd t16
  (R t5 w)
  (R (Value.int IntKind.i64 12) w)
theorem e_pack_Unpacker_End (t0 : Value) (w : World) (R : Value → World → Prop) : intp P A_pack_Unpacker_End (bodyOf Tryd.f55) (ini [t0]) w (retK P Tryd.f55.results.toList R) (fun _ _ _ => False) (retK P Tryd.f55.results.toList R) = c_pack_Unpacker_End t0 w R := by kernel_rfl
theorem k_pack_Unpacker_End : chk P Tryd.f55.ntmps A_pack_Unpacker_End (bodyOf Tryd.f55) = true := by kernel_rfl
theorem l_pack_Unpacker_End {t0 : Value} {w : World} {R : Value → World → Prop} (h : c_pack_Unpacker_End t0 w R) : cal P f_pack_Unpacker_End [t0] w R :=
  calls_of mixed Tryd.func55 rfl (by kernel_rfl) k_pack_Unpacker_End (Eq.mpr (e_pack_Unpacker_End t0 w R) h)
theorem s_pack_Unpacker_End {t0 : Value} {w : World} {Q : Value → World → Prop} (h : ∀ R : Value → World → Prop, (∀ v w', Q v w' → R v w') → c_pack_Unpacker_End t0 w R) : cal P f_pack_Unpacker_End [t0] w Q := l_pack_Unpacker_End (h Q fun _ _ h => h)

/-- flurry/block.made -/
def A_block_made : An := (An.s (An.r []) (An.s (An.s (An.r []) (An.s (An.r []) (An.s (An.s (An.r []) An.o) An.o))) (An.s (An.r []) An.o)))
def c_block_made (t0 : Value) (w : World) (R : Value → World → Prop) : Prop :=
  bx T_api_Block t0 w fun t1 w =>
  efP P (Instr.alloc T_api_Block true (.tuple #[])) w fun t2 w =>
  ldN 34 t1 w.heap fun t5 =>
  cal P f_block_Check [t5] w fun t6 w =>
  bi BinOp.neq t6 (Value.int IntKind.i64 0) fun t8 =>
  cnd t8
  (rdP P (Instr.build T_api_Block #[]) w fun t9 =>
  stN 34 t2 t9 w fun w =>
  ldN 34 t2 w.heap fun r0 =>
  R (Value.tuple #[r0, t6]) w)
  (ldN 34 t1 w.heap fun t11 =>
  cal P f_block_Clone [t11] w fun t12 w =>
  stN 34 t2 t12 w fun w =>
  ldN 34 t2 w.heap fun r1 =>
  R (Value.tuple #[r1, (Value.int IntKind.i64 0)]) w)
theorem e_block_made (t0 : Value) (w : World) (R : Value → World → Prop) : intp P A_block_made (bodyOf Tryd.f56) (ini [t0]) w (retK P Tryd.f56.results.toList R) (fun _ _ _ => False) (retK P Tryd.f56.results.toList R) = c_block_made t0 w R := by kernel_rfl
theorem k_block_made : chk P Tryd.f56.ntmps A_block_made (bodyOf Tryd.f56) = true := by kernel_rfl
theorem l_block_made {t0 : Value} {w : World} {R : Value → World → Prop} (h : c_block_made t0 w R) : cal P f_block_made [t0] w R :=
  calls_of mixed Tryd.func56 rfl (by kernel_rfl) k_block_made (Eq.mpr (e_block_made t0 w R) h)
theorem s_block_made {t0 : Value} {w : World} {Q : Value → World → Prop} (h : ∀ R : Value → World → Prop, (∀ v w', Q v w' → R v w') → c_block_made t0 w R) : cal P f_block_made [t0] w Q := l_block_made (h Q fun _ _ h => h)

/-- flurry/sha.New -/
def A_sha_New : An := (An.s (An.r []) (An.s (An.r []) An.o))
def c_sha_New (w : World) (R : Value → World → Prop) : Prop :=
  cal P f_sha_first [] w fun t1 w =>
  rdP P (Instr.build T_sha_State #[(0, t1), (3, (Value.bool true))]) w fun t2 =>
  bx T_sha_State t2 w fun t3 w =>
  R t3 w
theorem e_sha_New (w : World) (R : Value → World → Prop) : intp P A_sha_New (bodyOf Tryd.f57) (ini []) w (retK P Tryd.f57.results.toList R) (fun _ _ _ => False) (retK P Tryd.f57.results.toList R) = c_sha_New  w R := by kernel_rfl
theorem k_sha_New : chk P Tryd.f57.ntmps A_sha_New (bodyOf Tryd.f57) = true := by kernel_rfl
theorem l_sha_New {w : World} {R : Value → World → Prop} (h : c_sha_New w R) : cal P f_sha_New [] w R :=
  calls_of mixed Tryd.func57 rfl (by kernel_rfl) k_sha_New (Eq.mpr (e_sha_New w R) h)
theorem s_sha_New {w : World} {Q : Value → World → Prop} (h : ∀ R : Value → World → Prop, (∀ v w', Q v w' → R v w') → c_sha_New w R) : cal P f_sha_New [] w Q := l_sha_New (h Q fun _ _ h => h)

/-- (*flurry/sha.State).Write -/
def A_sha_State_Write : An := (An.s (An.r []) (An.s (An.s (An.r []) (An.s (An.s (An.r []) An.o) An.o)) (An.s (An.s (An.r []) (An.b (An.l [12] (An.s (An.r []) (An.s (An.s An.o An.o) (An.s (An.b (An.s (An.r []) (An.s (An.r []) (An.s (An.r []) (An.s (An.b (An.l [7] (An.s (An.s (An.r []) (An.s An.o An.o)) (An.b (An.s (An.dc [0, 1, 2, 3, 4, 5, 6, 7, 8, 9, 10] [7, 10] []) (An.r [])))))) (An.r [])))))) (An.r []))))))) (An.s (An.r []) An.o))))
def c_sha_State_Write (t0 t1 : Value) (w : World) (R : Value → World → Prop) : Prop :=
  cal P f_sha_State_none [t0] w fun t9 w =>
  cnd t9
  (R (Value.int IntKind.i64 2) w)
  (lenS t1 fun t11 =>
  lp1 (Value.int IntKind.i64 0) w fun _ t12 w again0 =>
  bi BinOp.lss t12 t11 fun t13 =>
  cnd t13
  (ixs 1 t1 t12 fun t14 =>
  ld1 t14 w.heap fun t15 =>
  nilc t0 fun t17 =>
  fad 9 t17 fun t18 =>
  ld1 t18 w.heap fun t19 =>
  lenS t15 fun t21 =>
  bi BinOp.add t19 t21 fun t22 =>
  nilc t0 fun t23 =>
  fad 9 t23 fun t24 =>
  st1 t24 t22 w fun w =>
  nilc t0 fun t26 =>
  fad 8 t26 fun t27 =>
  ld1 t27 w.heap fun t28 =>
  efP P (Instr.buildSlice T_sl_sl_uint8 2 #[(0, t28), (1, t15)]) w fun t30 w =>
  cal P f_slices_Concat_byte_byte [t30] w fun t31 w =>
  lp1 t31 w fun _ t7 w again1 =>
  lenS t7 fun t33 =>
  bi BinOp.geq t33 (Value.int IntKind.i64 64) fun t34 =>
  cnd t34
  (drH w fun S w =>
  nilc t0 fun t37 =>
  fad 0 t37 fun t38 =>
  rdS S (fun w => ldN 8 t38 w.heap) fun t39 =>
  slc 1 t7 none (some (Value.int IntKind.i64 64)) fun t41 =>
  efC (cal P f_sha_mixed [t39, t41]) w fun S t42 w =>
  nilc t0 fun t43 =>
  fad 0 t43 fun t44 =>
  efC (fun w K => stN 8 t44 t42 w (K undef)) w fun S _ w =>
  slc 1 t7 (some (Value.int IntKind.i64 64)) none fun t46 =>
  again1 t46 w)
  (cal P f_bytes_Clone [t7] w fun t49 w =>
  nilc t0 fun t50 =>
  fad 8 t50 fun t51 =>
  st1 t51 t49 w fun w =>
  bi BinOp.add t12 (Value.int IntKind.i64 1) fun t52 =>
  again0 t52 w))
  (R (Value.int IntKind.i64 0) w))
theorem e_sha_State_Write (t0 t1 : Value) (w : World) (R : Value → World → Prop) : intp P A_sha_State_Write (bodyOf Tryd.f58) (ini [t0, t1]) w (retK P Tryd.f58.results.toList R) (fun _ _ _ => False) (retK P Tryd.f58.results.toList R) = c_sha_State_Write t0 t1 w R := by kernel_rfl
theorem k_sha_State_Write : chk P Tryd.f58.ntmps A_sha_State_Write (bodyOf Tryd.f58) = true := by kernel_rfl
theorem l_sha_State_Write {t0 t1 : Value} {w : World} {R : Value → World → Prop} (h : c_sha_State_Write t0 t1 w R) : cal P f_sha_State_Write [t0, t1] w R :=
  calls_of mixed Tryd.func58 rfl (by kernel_rfl) k_sha_State_Write (Eq.mpr (e_sha_State_Write t0 t1 w R) h)
theorem s_sha_State_Write {t0 t1 : Value} {w : World} {Q : Value → World → Prop} (h : ∀ R : Value → World → Prop, (∀ v w', Q v w' → R v w') → c_sha_State_Write t0 t1 w R) : cal P f_sha_State_Write [t0, t1] w Q := l_sha_State_Write (h Q fun _ _ h => h)

/-- (*flurry/sha.State).Sum -/
def A_sha_State_Sum : An := (An.s (An.r []) (An.s (An.r []) (An.s (An.s (An.r []) (An.s (An.s (An.r []) An.o) An.o)) (An.s (An.r []) (An.s (An.b (An.l [4] (An.s (An.s (An.r []) (An.s An.o An.o)) (An.b (An.r []))))) (An.s (An.r []) (An.s (An.s (An.r []) (An.b (An.l [4, 33] (An.s (An.r []) (An.s (An.s An.o An.o) (An.s (An.b (An.s (An.r []) (An.r []))) (An.r []))))))) (An.s (An.r []) (An.s (An.b (An.l [4] (An.s (An.s (An.r []) (An.s An.o An.o)) (An.s (An.b (An.dc [0, 1, 2, 3, 4] [3, 4] [])) (An.r []))))) (An.s (An.s (An.r []) (An.b (An.l [60] (An.s (An.r []) (An.s (An.s An.o An.o) (An.s (An.b (An.s (An.r []) (An.r []))) (An.r []))))))) (An.s (An.r []) An.o)))))))))))
def c_sha_State_Sum (t0 : Value) (w : World) (R : Value → World → Prop) : Prop :=
  efP P (Instr.alloc T_api_ID true (.tuple #[])) w fun t2 w =>
  efP P (Instr.alloc T_api_ID true (.tuple #[])) w fun t3 w =>
  cal P f_sha_State_none [t0] w fun t11 w =>
  cnd t11
  (ldN 32 t3 w.heap fun t12 =>
  stN 32 t2 t12 w fun w =>
  ldN 32 t2 w.heap fun r0 =>
  R r0 w)
  (nilc t0 fun t14 =>
  fad 8 t14 fun t15 =>
  ld1 t15 w.heap fun t16 =>
  cal P f_bytes_Clone [t16] w fun t17 w =>
  efP P (Instr.buildSlice T_sl_uint8 1 #[(0, (Value.int IntKind.u8 128))]) w fun t18 w =>
  efP P (Builtin.append_ #[T_sl_uint8, T_sl_uint8] T_sl_uint8 #[t17, t18]) w fun t19 w =>
  lp1 t19 w fun _ t4 w again1 =>
  lenS t4 fun t21 =>
  bi BinOp.rem t21 (Value.int IntKind.i64 64) fun t22 =>
  bi BinOp.neq t22 (Value.int IntKind.i64 56) fun t23 =>
  cnd t23
  (efP P (Instr.buildSlice T_sl_uint8 1 #[(0, (Value.int IntKind.u8 0))]) w fun t25 w =>
  efP P (Builtin.append_ #[T_sl_uint8, T_sl_uint8] T_sl_uint8 #[t4, t25]) w fun t26 w =>
  again1 t26 w)
  (nilc t0 fun t28 =>
  fad 9 t28 fun t29 =>
  ld1 t29 w.heap fun t30 =>
  cvi IntKind.u64 t30 fun t31 =>
  bi BinOp.mul t31 (Value.int IntKind.u64 8) fun t32 =>
  lp2 t4 (Value.int IntKind.i64 0) w fun _ t4_1 t33 w again2 =>
  bi BinOp.lss t33 (Value.int IntKind.i64 8) fun t34 =>
  cnd t34
  (bi BinOp.mul (Value.int IntKind.i64 8) t33 fun t39 =>
  bi BinOp.sub (Value.int IntKind.i64 56) t39 fun t40 =>
  sh BinOp.shr t32 t40 fun t41 =>
  cvi IntKind.u8 t41 fun t42 =>
  efP P (Instr.buildSlice T_sl_uint8 1 #[(0, t42)]) w fun t43 w =>
  efP P (Builtin.append_ #[T_sl_uint8, T_sl_uint8] T_sl_uint8 #[t4_1, t43]) w fun t44 w =>
  bi BinOp.add t33 (Value.int IntKind.i64 1) fun t45 =>
  again2 t44 t45 w)
  (nilc t0 fun t47 =>
  fad 0 t47 fun t48 =>
  ldN 8 t48 w.heap fun t49 =>
  efP P (Instr.alloc T_a8_uint32 true (.tuple #[])) w fun t7 w =>
  stN 8 t7 t49 w fun w =>
  lp1 t4_1 w fun _ t4_2 w again3 =>
  lenS t4_2 fun t51 =>
  bi BinOp.gtr t51 (Value.int IntKind.i64 0) fun t52 =>
  cnd t52
  (drH w fun S w =>
  rdS S (fun w => ldN 8 t7 w.heap) fun t55 =>
  slc 1 t4_2 none (some (Value.int IntKind.i64 64)) fun t57 =>
  efC (cal P f_sha_mixed [t55, t57]) w fun S t58 w =>
  efC (fun w K => stN 8 t7 t58 w (K undef)) w fun S _ w =>
  slc 1 t4_2 (some (Value.int IntKind.i64 64)) none fun t54 =>
  again3 t54 w)
  (ldN 8 t7 w.heap fun t59 =>
  lp1 (Value.int IntKind.i64 0) w fun _ t60 w again4 =>
  bi BinOp.lss t60 (Value.int IntKind.i64 8) fun t61 =>
  cnd t61
  (ixv 8 1 false t59 t60 fun t63 =>
  bi BinOp.mul (Value.int IntKind.i64 4) t60 fun t65 =>
  bi BinOp.mul (Value.int IntKind.i64 4) t60 fun t67 =>
  bi BinOp.add t67 (Value.int IntKind.i64 1) fun t68 =>
  bi BinOp.mul (Value.int IntKind.i64 4) t60 fun t70 =>
  bi BinOp.add t70 (Value.int IntKind.i64 2) fun t71 =>
  bi BinOp.mul (Value.int IntKind.i64 4) t60 fun t73 =>
  bi BinOp.add t73 (Value.int IntKind.i64 3) fun t74 =>
  sh BinOp.shr t63 (Value.int IntKind.u64 24) fun t76 =>
  cvi IntKind.u8 t76 fun t77 =>
  sh BinOp.shr t63 (Value.int IntKind.u64 16) fun t79 =>
  cvi IntKind.u8 t79 fun t80 =>
  sh BinOp.shr t63 (Value.int IntKind.u64 8) fun t82 =>
  cvi IntKind.u8 t82 fun t83 =>
  cvi IntKind.u8 t63 fun t85 =>
  ixa 32 1 t3 t65 fun t86 =>
  st1 t86 t77 w fun w =>
  ixa 32 1 t3 t68 fun t87 =>
  st1 t87 t80 w fun w =>
  ixa 32 1 t3 t71 fun t88 =>
  st1 t88 t83 w fun w =>
  ixa 32 1 t3 t74 fun t89 =>
  st1 t89 t85 w fun w =>
  bi BinOp.add t60 (Value.int IntKind.i64 1) fun t90 =>
  again4 t90 w)
  (ldN 32 t3 w.heap fun t91 =>
  stN 32 t2 t91 w fun w =>
  ldN 32 t2 w.heap fun r5 =>
  R r5 w)))))
theorem e_sha_State_Sum (t0 : Value) (w : World) (R : Value → World → Prop) : intp P A_sha_State_Sum (bodyOf Tryd.f59) (ini [t0]) w (retK P Tryd.f59.results.toList R) (fun _ _ _ => False) (retK P Tryd.f59.results.toList R) = c_sha_State_Sum t0 w R := by kernel_rfl
theorem k_sha_State_Sum : chk P Tryd.f59.ntmps A_sha_State_Sum (bodyOf Tryd.f59) = true := by kernel_rfl
theorem l_sha_State_Sum {t0 : Value} {w : World} {R : Value → World → Prop} (h : c_sha_State_Sum t0 w R) : cal P f_sha_State_Sum [t0] w R :=
  calls_of mixed Tryd.func59 rfl (by kernel_rfl) k_sha_State_Sum (Eq.mpr (e_sha_State_Sum t0 w R) h)
theorem s_sha_State_Sum {t0 : Value} {w : World} {Q : Value → World → Prop} (h : ∀ R : Value → World → Prop, (∀ v w', Q v w' → R v w') → c_sha_State_Sum t0 w R) : cal P f_sha_State_Sum [t0] w Q := l_sha_State_Sum (h Q fun _ _ h => h)

/-- flurry/flurryref03.Clone -/
def A_ref03_Clone : An := (An.s (An.r []) (An.s (An.r []) (An.s (An.r []) (An.s (An.r []) An.o))))
def c_ref03_Clone (t0 : Value) (w : World) (R : Value → World → Prop) : Prop :=
  bx T_api_Block t0 w fun t1 w =>
  efP P (Instr.alloc T_api_Block true (.tuple #[])) w fun t2 w =>
  fad 33 t1 fun t5 =>
  ld1 t5 w.heap fun t6 =>
  efP P (Builtin.append_ #[T_sl_uint8, T_sl_uint8] T_sl_uint8 #[(Value.slice none 0 0), t6]) w fun t7 w =>
  fad 33 t1 fun t8 =>
  st1 t8 t7 w fun w =>
  ldN 34 t1 w.heap fun t9 =>
  stN 34 t2 t9 w fun w =>
  ldN 34 t2 w.heap fun r0 =>
  R r0 w
theorem e_ref03_Clone (t0 : Value) (w : World) (R : Value → World → Prop) : intp P A_ref03_Clone (bodyOf Tryd.f60) (ini [t0]) w (retK P Tryd.f60.results.toList R) (fun _ _ _ => False) (retK P Tryd.f60.results.toList R) = c_ref03_Clone t0 w R := by kernel_rfl
theorem k_ref03_Clone : chk P Tryd.f60.ntmps A_ref03_Clone (bodyOf Tryd.f60) = true := by kernel_rfl
theorem l_ref03_Clone {t0 : Value} {w : World} {R : Value → World → Prop} (h : c_ref03_Clone t0 w R) : cal P f_ref03_Clone [t0] w R :=
  calls_of mixed Tryd.func60 rfl (by kernel_rfl) k_ref03_Clone (Eq.mpr (e_ref03_Clone t0 w R) h)
theorem s_ref03_Clone {t0 : Value} {w : World} {Q : Value → World → Prop} (h : ∀ R : Value → World → Prop, (∀ v w', Q v w' → R v w') → c_ref03_Clone t0 w R) : cal P f_ref03_Clone [t0] w Q := l_ref03_Clone (h Q fun _ _ h => h)

/-- (*flurry/pack.Packer).Short -/
def A_pack_Packer_Short : An := (An.r [])
def c_pack_Packer_Short (t0 t1 : Value) (w : World) (R : Value → World → Prop) : Prop :=
  cvi IntKind.u64 t1 fun t6 =>
  cal P f_pack_number [(Value.int IntKind.i64 2), t6] w fun t7 w =>
  cal P f_pack_Packer_put [t0, t7, (Value.slice none 0 0)] w fun t8 w =>
  R (Value.tuple #[]) w
theorem e_pack_Packer_Short (t0 t1 : Value) (w : World) (R : Value → World → Prop) : intp P A_pack_Packer_Short (bodyOf Tryd.f61) (ini [t0, t1]) w (retK P Tryd.f61.results.toList R) (fun _ _ _ => False) (retK P Tryd.f61.results.toList R) = c_pack_Packer_Short t0 t1 w R := by kernel_rfl
theorem k_pack_Packer_Short : chk P Tryd.f61.ntmps A_pack_Packer_Short (bodyOf Tryd.f61) = true := by kernel_rfl
theorem l_pack_Packer_Short {t0 t1 : Value} {w : World} {R : Value → World → Prop} (h : c_pack_Packer_Short t0 t1 w R) : cal P f_pack_Packer_Short [t0, t1] w R :=
  calls_of mixed Tryd.func61 rfl (by kernel_rfl) k_pack_Packer_Short (Eq.mpr (e_pack_Packer_Short t0 t1 w R) h)
theorem s_pack_Packer_Short {t0 t1 : Value} {w : World} {Q : Value → World → Prop} (h : ∀ R : Value → World → Prop, (∀ v w', Q v w' → R v w') → c_pack_Packer_Short t0 t1 w R) : cal P f_pack_Packer_Short [t0, t1] w Q := l_pack_Packer_Short (h Q fun _ _ h => h)

/-- (*flurry/pack.Packer).Bytes -/
def A_pack_Packer_Bytes : An := (An.r [])
def c_pack_Packer_Bytes (t0 t1 : Value) (w : World) (R : Value → World → Prop) : Prop :=
  lenS t1 fun t6 =>
  cvi IntKind.u64 t6 fun t7 =>
  cal P f_pack_number [(Value.int IntKind.i64 4), t7] w fun t8 w =>
  cal P f_pack_Packer_put [t0, t8, t1] w fun t10 w =>
  R (Value.tuple #[]) w
theorem e_pack_Packer_Bytes (t0 t1 : Value) (w : World) (R : Value → World → Prop) : intp P A_pack_Packer_Bytes (bodyOf Tryd.f62) (ini [t0, t1]) w (retK P Tryd.f62.results.toList R) (fun _ _ _ => False) (retK P Tryd.f62.results.toList R) = c_pack_Packer_Bytes t0 t1 w R := by kernel_rfl
theorem k_pack_Packer_Bytes : chk P Tryd.f62.ntmps A_pack_Packer_Bytes (bodyOf Tryd.f62) = true := by kernel_rfl
theorem l_pack_Packer_Bytes {t0 t1 : Value} {w : World} {R : Value → World → Prop} (h : c_pack_Packer_Bytes t0 t1 w R) : cal P f_pack_Packer_Bytes [t0, t1] w R :=
  calls_of mixed Tryd.func62 rfl (by kernel_rfl) k_pack_Packer_Bytes (Eq.mpr (e_pack_Packer_Bytes t0 t1 w R) h)
theorem s_pack_Packer_Bytes {t0 t1 : Value} {w : World} {Q : Value → World → Prop} (h : ∀ R : Value → World → Prop, (∀ v w', Q v w' → R v w') → c_pack_Packer_Bytes t0 t1 w R) : cal P f_pack_Packer_Bytes [t0, t1] w Q := l_pack_Packer_Bytes (h Q fun _ _ h => h)

/-- (*flurry/pack.Packer).put -/
def A_pack_Packer_put : An := (An.s (An.s (An.r []) (An.s An.o An.o)) (An.s (An.r []) (An.s (An.s (An.r [[32]]) (An.s (An.s (An.r []) An.o) An.o)) (An.r []))))
def c_pack_Packer_put (t0 t1 t2 : Value) (w : World) (R : Value → World → Prop) : Prop :=
  cal P f_pack_Packer_works [t0] w fun t8 w =>
  notB t8 fun t9 =>
  cnd t9
  (R (Value.tuple #[]) w)
  (drw w fun w =>
  nilc t0 fun t11 =>
  fad 3 t11 fun t12 =>
  ld1 t12 w.heap fun t13 =>
  nilc t0 fun t15 =>
  fad 0 t15 fun t16 =>
  fad 1 t16 fun t17 =>
  ld1 t17 w.heap fun t18 =>
  lenS t18 fun t19 =>
  bi BinOp.sub t13 t19 fun t20 =>
  lenS t1 fun t22 =>
  bi BinOp.gtr t22 t20 fun t24 =>
  jn1 (fun k0 =>
  gif t24 false
  (lenS t2 fun t27 =>
  lenS t1 fun t30 =>
  bi BinOp.sub t20 t30 fun t31 =>
  bi BinOp.gtr t27 t31 fun t32 =>
  k0 t32 w)
  (k0 undef w)) fun _ t32_1 w =>
  pik t24 (Value.bool true) t32_1 fun t33 =>
  cnd t33
  (nilc t0 fun t35 =>
  fad 0 t35 fun t36 =>
  cal P f_pack_kept_fails [t36, (Value.int IntKind.i64 10)] w fun t37 w =>
  R (Value.tuple #[]) w)
  (nilc t0 fun t40 =>
  fad 0 t40 fun t41 =>
  fad 1 t41 fun t42 =>
  ld1 t42 w.heap fun t43 =>
  efP P (Builtin.append_ #[T_sl_uint8, T_sl_uint8] T_sl_uint8 #[t43, t1]) w fun t45 w =>
  efP P (Builtin.append_ #[T_sl_uint8, T_sl_uint8] T_sl_uint8 #[t45, t2]) w fun t47 w =>
  nilc t0 fun t48 =>
  fad 0 t48 fun t49 =>
  fad 1 t49 fun t50 =>
  st1 t50 t47 w fun w =>
  R (Value.tuple #[]) w))
theorem e_pack_Packer_put (t0 t1 t2 : Value) (w : World) (R : Value → World → Prop) : intp P A_pack_Packer_put (bodyOf Tryd.f63) (ini [t0, t1, t2]) w (retK P Tryd.f63.results.toList R) (fun _ _ _ => False) (retK P Tryd.f63.results.toList R) = c_pack_Packer_put t0 t1 t2 w R := by kernel_rfl
theorem k_pack_Packer_put : chk P Tryd.f63.ntmps A_pack_Packer_put (bodyOf Tryd.f63) = true := by kernel_rfl
theorem l_pack_Packer_put {t0 t1 t2 : Value} {w : World} {R : Value → World → Prop} (h : c_pack_Packer_put t0 t1 t2 w R) : cal P f_pack_Packer_put [t0, t1, t2] w R :=
  calls_of mixed Tryd.func63 rfl (by kernel_rfl) k_pack_Packer_put (Eq.mpr (e_pack_Packer_put t0 t1 t2 w R) h)
theorem s_pack_Packer_put {t0 t1 t2 : Value} {w : World} {Q : Value → World → Prop} (h : ∀ R : Value → World → Prop, (∀ v w', Q v w' → R v w') → c_pack_Packer_put t0 t1 t2 w R) : cal P f_pack_Packer_put [t0, t1, t2] w Q := l_pack_Packer_put (h Q fun _ _ h => h)

/-- flurry/pack.number -/
def A_pack_number : An := (An.s (An.r []) (An.s (An.r []) (An.s (An.s (An.r []) (An.b (An.l [11] (An.s (An.r []) (An.s (An.s An.o An.o) (An.s (An.b (An.s (An.r []) (An.r []))) (An.r []))))))) (An.s (An.r []) An.o))))
def c_pack_number (t0 t1 : Value) (w : World) (R : Value → World → Prop) : Prop :=
  efP P (Instr.makeSlice T_sl_uint8 t0 t0) w fun t8 w =>
  lenS t8 fun t10 =>
  lp1 (Value.int IntKind.i64 0) w fun _ t11 w again0 =>
  bi BinOp.lss t11 t10 fun t12 =>
  cnd t12
  (bi BinOp.sub t0 (Value.int IntKind.i64 1) fun t16 =>
  bi BinOp.sub t16 t11 fun t18 =>
  bi BinOp.mul (Value.int IntKind.i64 8) t11 fun t21 =>
  sh BinOp.shr t1 t21 fun t22 =>
  cvi IntKind.u8 t22 fun t23 =>
  ixs 1 t8 t18 fun t24 =>
  st1 t24 t23 w fun w =>
  bi BinOp.add t11 (Value.int IntKind.i64 1) fun t25 =>
  again0 t25 w)
  (R t8 w)
theorem e_pack_number (t0 t1 : Value) (w : World) (R : Value → World → Prop) : intp P A_pack_number (bodyOf Tryd.f64) (ini [t0, t1]) w (retK P Tryd.f64.results.toList R) (fun _ _ _ => False) (retK P Tryd.f64.results.toList R) = c_pack_number t0 t1 w R := by kernel_rfl
theorem k_pack_number : chk P Tryd.f64.ntmps A_pack_number (bodyOf Tryd.f64) = true := by kernel_rfl
theorem l_pack_number {t0 t1 : Value} {w : World} {R : Value → World → Prop} (h : c_pack_number t0 t1 w R) : cal P f_pack_number [t0, t1] w R :=
  calls_of mixed Tryd.func64 rfl (by kernel_rfl) k_pack_number (Eq.mpr (e_pack_number t0 t1 w R) h)
theorem s_pack_number {t0 t1 : Value} {w : World} {Q : Value → World → Prop} (h : ∀ R : Value → World → Prop, (∀ v w', Q v w' → R v w') → c_pack_number t0 t1 w R) : cal P f_pack_number [t0, t1] w Q := l_pack_number (h Q fun _ _ h => h)

/-- (*flurry/pack.Packer).Err -/
def A_pack_Packer_Err : An := (An.s (An.r []) (An.s (An.s (An.r [[11]]) (An.s (An.s (An.r []) An.o) An.o)) (An.s (An.r []) An.o)))
def c_pack_Packer_Err (t0 : Value) (w : World) (R : Value → World → Prop) : Prop :=
  nilP false t0 fun t4 =>
  jn1 (fun k0 =>
  gif t4 false
  (nilc t0 fun t7 =>
  fad 0 t7 fun t8 =>
  fad 0 t8 fun t9 =>
  ld1 t9 w.heap fun t10 =>
  notB t10 fun t11 =>
  k0 t11 w)
  (k0 undef w)) fun _ t11_1 w =>
  pik t4 (Value.bool true) t11_1 fun t12 =>
  cnd t12
  (R (Value.int IntKind.i64 2) w)
  (nilc t0 fun t14 =>
  fad 0 t14 fun t15 =>
  fad 2 t15 fun t16 =>
  ld1 t16 w.heap fun t17 =>
  R t17 w)
theorem e_pack_Packer_Err (t0 : Value) (w : World) (R : Value → World → Prop) : intp P A_pack_Packer_Err (bodyOf Tryd.f65) (ini [t0]) w (retK P Tryd.f65.results.toList R) (fun _ _ _ => False) (retK P Tryd.f65.results.toList R) = c_pack_Packer_Err t0 w R := by kernel_rfl
theorem k_pack_Packer_Err : chk P Tryd.f65.ntmps A_pack_Packer_Err (bodyOf Tryd.f65) = true := by kernel_rfl
theorem l_pack_Packer_Err {t0 : Value} {w : World} {R : Value → World → Prop} (h : c_pack_Packer_Err t0 w R) : cal P f_pack_Packer_Err [t0] w R :=
  calls_of mixed Tryd.func65 rfl (by kernel_rfl) k_pack_Packer_Err (Eq.mpr (e_pack_Packer_Err t0 w R) h)
theorem s_pack_Packer_Err {t0 : Value} {w : World} {Q : Value → World → Prop} (h : ∀ R : Value → World → Prop, (∀ v w', Q v w' → R v w') → c_pack_Packer_Err t0 w R) : cal P f_pack_Packer_Err [t0] w Q := l_pack_Packer_Err (h Q fun _ _ h => h)

/-- flurry/flurryref03.Check -/
def A_ref03_Check : An := (An.s (An.r []) (An.s (An.s (An.r [[10], [16], [20], [21]]) (An.s (An.s (An.r []) An.o) An.o)) (An.s (An.r []) An.o)))
def c_ref03_Check (t0 : Value) (w : World) (R : Value → World → Prop) : Prop :=
  bx T_api_Block t0 w fun t1 w =>
  fad 32 t1 fun t3 =>
  ld1 t3 w.heap fun t4 =>
  bi BinOp.lss t4 (Value.int IntKind.i64 0) fun t5 =>
  jn1 (fun k0 =>
  gif t5 false
  (fad 33 t1 fun t7 =>
  ld1 t7 w.heap fun t8 =>
  lenS t8 fun t9 =>
  bi BinOp.gtr t9 (Value.int IntKind.i64 200) fun t10 =>
  k0 t10 w)
  (k0 undef w)) fun _ t10_1 w =>
  pik t5 (Value.bool true) t10_1 fun t11 =>
  jn1 (fun k1 =>
  gif t11 false
  (fad 32 t1 fun t13 =>
  ld1 t13 w.heap fun t14 =>
  bi BinOp.eql t14 (Value.int IntKind.i64 0) fun t15 =>
  k1 t15 w)
  (k1 undef w)) fun _ t16 w =>
  jn1 (fun k2 =>
  gif t16 true
  (fad 0 t1 fun t17 =>
  ldN 32 t17 w.heap fun t18 =>
  rdP P (Instr.build T_api_ID #[]) w fun t19 =>
  rdP P (eqS BinOp.neq T_api_ID (Operand.tmp 18) (Operand.tmp 19) t18 t19) w fun t20 =>
  k2 t20 w)
  (k2 undef w)) fun _ t20_1 w =>
  jn1 (fun k3 =>
  gif t11 false
  (pik t16 t20_1 (Value.bool false) fun t21 =>
  k3 t21 w)
  (k3 undef w)) fun _ t21_1 w =>
  pik t11 (Value.bool true) t21_1 fun t22 =>
  cnd t22
  (R (Value.int IntKind.i64 30) w)
  (R (Value.int IntKind.i64 0) w)
theorem e_ref03_Check (t0 : Value) (w : World) (R : Value → World → Prop) : intp P A_ref03_Check (bodyOf Tryd.f66) (ini [t0]) w (retK P Tryd.f66.results.toList R) (fun _ _ _ => False) (retK P Tryd.f66.results.toList R) = c_ref03_Check t0 w R := by kernel_rfl
theorem k_ref03_Check : chk P Tryd.f66.ntmps A_ref03_Check (bodyOf Tryd.f66) = true := by kernel_rfl
theorem l_ref03_Check {t0 : Value} {w : World} {R : Value → World → Prop} (h : c_ref03_Check t0 w R) : cal P f_ref03_Check [t0] w R :=
  calls_of mixed Tryd.func66 rfl (by kernel_rfl) k_ref03_Check (Eq.mpr (e_ref03_Check t0 w R) h)
theorem s_ref03_Check {t0 : Value} {w : World} {Q : Value → World → Prop} (h : ∀ R : Value → World → Prop, (∀ v w', Q v w' → R v w') → c_ref03_Check t0 w R) : cal P f_ref03_Check [t0] w Q := l_ref03_Check (h Q fun _ _ h => h)

/-- flurry/flurryref02.padded -/
def A_ref02_padded : An := (An.s (An.r []) (An.s (An.r []) (An.s (An.r []) (An.s (An.b (An.l [3] (An.s (An.s (An.r []) (An.s An.o An.o)) (An.b (An.r []))))) (An.s (An.r []) (An.s (An.s (An.r []) (An.b (An.l [3, 5] (An.s (An.s (An.r []) (An.s An.o An.o)) (An.s (An.b (An.r [])) (An.r [])))))) (An.s (An.r []) An.o)))))))
def c_ref02_padded (t0 : Value) (w : World) (R : Value → World → Prop) : Prop :=
  efP P (Builtin.append_ #[T_sl_uint8, T_sl_uint8] T_sl_uint8 #[(Value.slice none 0 0), t0]) w fun t7 w =>
  efP P (Instr.buildSlice T_sl_uint8 1 #[(0, (Value.int IntKind.u8 128))]) w fun t9 w =>
  efP P (Builtin.append_ #[T_sl_uint8, T_sl_uint8] T_sl_uint8 #[t7, t9]) w fun t10 w =>
  lp1 t10 w fun _ t3 w again0 =>
  lenS t3 fun t12 =>
  bi BinOp.rem t12 (Value.int IntKind.i64 64) fun t13 =>
  bi BinOp.neq t13 (Value.int IntKind.i64 56) fun t14 =>
  cnd t14
  (efP P (Instr.buildSlice T_sl_uint8 1 #[(0, (Value.int IntKind.u8 0))]) w fun t16 w =>
  efP P (Builtin.append_ #[T_sl_uint8, T_sl_uint8] T_sl_uint8 #[t3, t16]) w fun t17 w =>
  again0 t17 w)
  (lenS t0 fun t19 =>
  cvi IntKind.u64 t19 fun t20 =>
  bi BinOp.mul t20 (Value.int IntKind.u64 8) fun t21 =>
  lp2 t3 (Value.int IntKind.i64 0) w fun _ t3_1 t5 w again1 =>
  bi BinOp.lss t5 (Value.int IntKind.i64 8) fun t23 =>
  cnd t23
  (bi BinOp.mul (Value.int IntKind.i64 8) t5 fun t29 =>
  bi BinOp.sub (Value.int IntKind.i64 56) t29 fun t30 =>
  cvi IntKind.u64 t30 fun t31 =>
  sh BinOp.shr t21 t31 fun t32 =>
  cvi IntKind.u8 t32 fun t33 =>
  efP P (Instr.buildSlice T_sl_uint8 1 #[(0, t33)]) w fun t34 w =>
  efP P (Builtin.append_ #[T_sl_uint8, T_sl_uint8] T_sl_uint8 #[t3_1, t34]) w fun t35 w =>
  bi BinOp.add t5 (Value.int IntKind.i64 1) fun t25 =>
  again1 t35 t25 w)
  (R t3_1 w))
theorem e_ref02_padded (t0 : Value) (w : World) (R : Value → World → Prop) : intp P A_ref02_padded (bodyOf Tryd.f67) (ini [t0]) w (retK P Tryd.f67.results.toList R) (fun _ _ _ => False) (retK P Tryd.f67.results.toList R) = c_ref02_padded t0 w R := by kernel_rfl
theorem k_ref02_padded : chk P Tryd.f67.ntmps A_ref02_padded (bodyOf Tryd.f67) = true := by kernel_rfl
theorem l_ref02_padded {t0 : Value} {w : World} {R : Value → World → Prop} (h : c_ref02_padded t0 w R) : cal P f_ref02_padded [t0] w R :=
  calls_of mixed Tryd.func67 rfl (by kernel_rfl) k_ref02_padded (Eq.mpr (e_ref02_padded t0 w R) h)
theorem s_ref02_padded {t0 : Value} {w : World} {Q : Value → World → Prop} (h : ∀ R : Value → World → Prop, (∀ v w', Q v w' → R v w') → c_ref02_padded t0 w R) : cal P f_ref02_padded [t0] w Q := l_ref02_padded (h Q fun _ _ h => h)

/-- flurry/flurryref02.goes -/
def A_ref02_goes : An := (An.s (An.r []) (An.s (An.r []) (An.s (An.r []) (An.s (An.r []) (An.s (An.s (An.r []) (An.b (An.l [8] (An.s (An.s (An.r []) (An.s An.o An.o)) (An.s (An.b (An.s (An.r []) (An.s (An.r []) (An.s (An.d [0, 1, 2, 4, 7, 11, 12, 13, 14, 15, 16, 17, 18, 19, 20, 22, 23, 24, 26, 27, 28, 3, 5, 6, 8, 9, 10, 21, 25, 29, 30] []) (An.s (An.d [0, 2, 5, 8, 9, 10, 11, 12, 13, 14, 15, 16, 17, 18, 19, 20, 21, 22, 1, 3, 4, 6, 7, 23, 24] []) (An.r [])))))) (An.r [])))))) (An.s (An.s (An.r []) (An.b (An.l [13] (An.s (An.s (An.r []) (An.s An.o An.o)) (An.s (An.b (An.dc [0, 1, 2, 3, 4, 5, 6, 7, 8] [8] [])) (An.r [])))))) (An.s (An.r []) An.o)))))))
def c_ref02_goes (t0 t1 : Value) (w : World) (R : Value → World → Prop) : Prop :=
  bx T_a8_uint32 t0 w fun t2 w =>
  efP P (Instr.alloc T_a8_uint32 true (.tuple #[])) w fun t4 w =>
  cal P f_ref02_words [t1] w fun t15 w =>
  efP P (Instr.alloc T_a64_uint32 true (.tuple #[])) w fun t5 w =>
  stN 64 t5 t15 w fun w =>
  cal P f_ref02_constants [] w fun t16 w =>
  efP P (Instr.alloc T_a64_uint32 true (.tuple #[])) w fun t6 w =>
  stN 64 t6 t16 w fun w =>
  ldN 8 t2 w.heap fun t17 =>
  efP P (Instr.alloc T_a8_uint32 true (.tuple #[])) w fun t7 w =>
  stN 8 t7 t17 w fun w =>
  lp1 (Value.int IntKind.i64 0) w fun _ t8 w again0 =>
  bi BinOp.lss t8 (Value.int IntKind.i64 64) fun t19 =>
  cnd t19
  (ixa 8 1 t7 (Value.int IntKind.i64 4) fun t22 =>
  ld1 t22 w.heap fun t23 =>
  ixa 8 1 t7 (Value.int IntKind.i64 0) fun t24 =>
  ld1 t24 w.heap fun t25 =>
  drH w fun S w =>
  ixa 8 1 t7 (Value.int IntKind.i64 7) fun t26 =>
  rdS S (fun w => ld1 t26 w.heap) fun t27 =>
  ixa 8 1 t7 (Value.int IntKind.i64 5) fun t38 =>
  rdS S (fun w => ld1 t38 w.heap) fun t39 =>
  bi BinOp.and t23 t39 fun t40 =>
  rdS S (rdP P (Op.unary UnOp.xor t23)) fun t42 =>
  ixa 8 1 t7 (Value.int IntKind.i64 6) fun t43 =>
  rdS S (fun w => ld1 t43 w.heap) fun t44 =>
  bi BinOp.and t42 t44 fun t45 =>
  bi BinOp.xor t40 t45 fun t46 =>
  ixa 64 1 t6 t8 fun t49 =>
  rdS S (fun w => ld1 t49 w.heap) fun t50 =>
  ixa 64 1 t5 t8 fun t53 =>
  rdS S (fun w => ld1 t53 w.heap) fun t54 =>
  efS S (cal P f_ref02_turned [t23, (Value.int IntKind.u64 6)]) w fun t29 w =>
  efS S (cal P f_ref02_turned [t23, (Value.int IntKind.u64 11)]) w fun t31 w =>
  bi BinOp.xor t29 t31 fun t32 =>
  efS S (cal P f_ref02_turned [t23, (Value.int IntKind.u64 25)]) w fun t34 w =>
  bi BinOp.xor t32 t34 fun t35 =>
  bi BinOp.add t27 t35 fun t36 =>
  bi BinOp.add t36 t46 fun t47 =>
  bi BinOp.add t47 t50 fun t51 =>
  bi BinOp.add t51 t54 fun t55 =>
  drH w fun S w =>
  ixa 8 1 t7 (Value.int IntKind.i64 1) fun t65 =>
  rdS S (fun w => ld1 t65 w.heap) fun t66 =>
  bi BinOp.and t25 t66 fun t67 =>
  ixa 8 1 t7 (Value.int IntKind.i64 2) fun t69 =>
  rdS S (fun w => ld1 t69 w.heap) fun t70 =>
  bi BinOp.and t25 t70 fun t71 =>
  bi BinOp.xor t67 t71 fun t72 =>
  ixa 8 1 t7 (Value.int IntKind.i64 1) fun t73 =>
  rdS S (fun w => ld1 t73 w.heap) fun t74 =>
  ixa 8 1 t7 (Value.int IntKind.i64 2) fun t75 =>
  rdS S (fun w => ld1 t75 w.heap) fun t76 =>
  bi BinOp.and t74 t76 fun t77 =>
  bi BinOp.xor t72 t77 fun t78 =>
  efS S (cal P f_ref02_turned [t25, (Value.int IntKind.u64 2)]) w fun t57 w =>
  efS S (cal P f_ref02_turned [t25, (Value.int IntKind.u64 13)]) w fun t59 w =>
  bi BinOp.xor t57 t59 fun t60 =>
  efS S (cal P f_ref02_turned [t25, (Value.int IntKind.u64 22)]) w fun t62 w =>
  bi BinOp.xor t60 t62 fun t63 =>
  bi BinOp.add t63 t78 fun t79 =>
  bi BinOp.add t55 t79 fun t82 =>
  ixa 8 1 t7 (Value.int IntKind.i64 0) fun t83 =>
  ld1 t83 w.heap fun t84 =>
  ixa 8 1 t7 (Value.int IntKind.i64 1) fun t85 =>
  ld1 t85 w.heap fun t86 =>
  ixa 8 1 t7 (Value.int IntKind.i64 2) fun t87 =>
  ld1 t87 w.heap fun t88 =>
  ixa 8 1 t7 (Value.int IntKind.i64 3) fun t89 =>
  ld1 t89 w.heap fun t90 =>
  bi BinOp.add t90 t55 fun t92 =>
  ixa 8 1 t7 (Value.int IntKind.i64 4) fun t93 =>
  ld1 t93 w.heap fun t94 =>
  ixa 8 1 t7 (Value.int IntKind.i64 5) fun t95 =>
  ld1 t95 w.heap fun t96 =>
  ixa 8 1 t7 (Value.int IntKind.i64 6) fun t97 =>
  ld1 t97 w.heap fun t98 =>
  rdP P (Instr.build T_a8_uint32 #[(0, t82), (1, t84), (2, t86), (3, t88), (4, t92), (5, t94), (6, t96), (7, t98)]) w fun t99 =>
  stN 8 t7 t99 w fun w =>
  bi BinOp.add t8 (Value.int IntKind.i64 1) fun t21 =>
  again0 t21 w)
  (lp1 (Value.int IntKind.i64 0) w fun _ t13 w again1 =>
  bi BinOp.lss t13 (Value.int IntKind.i64 8) fun t101 =>
  cnd t101
  (drH w fun S w =>
  ixa 8 1 t2 t13 fun t105 =>
  rdS S (fun w => ld1 t105 w.heap) fun t106 =>
  ixa 8 1 t7 t13 fun t108 =>
  rdS S (fun w => ld1 t108 w.heap) fun t109 =>
  bi BinOp.add t106 t109 fun t110 =>
  ixa 8 1 t2 t13 fun t111 =>
  efC (fun w K => st1 t111 t110 w (K undef)) w fun S _ w =>
  bi BinOp.add t13 (Value.int IntKind.i64 1) fun t103 =>
  again1 t103 w)
  (ldN 8 t2 w.heap fun t112 =>
  stN 8 t4 t112 w fun w =>
  ldN 8 t4 w.heap fun r2 =>
  R r2 w))
theorem e_ref02_goes (t0 t1 : Value) (w : World) (R : Value → World → Prop) : intp P A_ref02_goes (bodyOf Tryd.f68) (ini [t0, t1]) w (retK P Tryd.f68.results.toList R) (fun _ _ _ => False) (retK P Tryd.f68.results.toList R) = c_ref02_goes t0 t1 w R := by kernel_rfl
theorem k_ref02_goes : chk P Tryd.f68.ntmps A_ref02_goes (bodyOf Tryd.f68) = true := by kernel_rfl
theorem l_ref02_goes {t0 t1 : Value} {w : World} {R : Value → World → Prop} (h : c_ref02_goes t0 t1 w R) : cal P f_ref02_goes [t0, t1] w R :=
  calls_of mixed Tryd.func68 rfl (by kernel_rfl) k_ref02_goes (Eq.mpr (e_ref02_goes t0 t1 w R) h)
theorem s_ref02_goes {t0 t1 : Value} {w : World} {Q : Value → World → Prop} (h : ∀ R : Value → World → Prop, (∀ v w', Q v w' → R v w') → c_ref02_goes t0 t1 w R) : cal P f_ref02_goes [t0, t1] w Q := l_ref02_goes (h Q fun _ _ h => h)

/-- slices.Values[[]int,int]$1 -/
def A_slices_Values_int_int_1 : AnY := (AnY.s (AnY.c (An.r [])) (AnY.b (AnY.l [7] (AnY.s (AnY.c (An.r [])) (AnY.s (AnY.s AnY.o AnY.o) (AnY.s (AnY.b (AnY.s (AnY.c (An.r [])) (AnY.s AnY.y (AnY.s AnY.o AnY.o)))) (AnY.c (An.r []))))))))
def c_slices_Values_int_int_1 (t0 t1 : Value) (w : World) (R : Value → World → Prop) : Prop :=
  ld1 t1 w.heap fun t5 =>
  lenS t5 fun t6 =>
  lp1 (Value.int IntKind.i64 0) w fun _ t7 w again0 =>
  bi BinOp.lss t7 t6 fun t8 =>
  cnd t8
  (ixs 1 t5 t7 fun t9 =>
  ld1 t9 w.heap fun t10 =>
  calY P t0 [t10] w fun t13 w =>
  notB t13 fun t14 =>
  cnd t14
  (R (Value.tuple #[]) w)
  (bi BinOp.add t7 (Value.int IntKind.i64 1) fun t15 =>
  again0 t15 w))
  (R (Value.tuple #[]) w)
theorem e_slices_Values_int_int_1 (t0 t1 : Value) (w : World) (R : Value → World → Prop) : intpY P A_slices_Values_int_int_1 (bodyOf Tryd.f69) (ini [t0, t1]) [] w (retY P Tryd.f69.results.toList R) (fun _ _ _ _ => False) (retY P Tryd.f69.results.toList R) = c_slices_Values_int_int_1 t0 t1 w R := by kernel_rfl
theorem k_slices_Values_int_int_1 : chkY P Tryd.f69.ntmps A_slices_Values_int_int_1 (bodyOf Tryd.f69) = true := by kernel_rfl
theorem l_slices_Values_int_int_1 {t0 t1 : Value} {w : World} {R : Value → World → Prop} (h : c_slices_Values_int_int_1 t0 t1 w R) : cal P f_slices_Values_int_int_1 [t0, t1] w R :=
  calls_ofY mixed Tryd.func69 rfl (by kernel_rfl) k_slices_Values_int_int_1 (Eq.mpr (e_slices_Values_int_int_1 t0 t1 w R) h)
theorem s_slices_Values_int_int_1 {t0 t1 : Value} {w : World} {Q : Value → World → Prop} (h : ∀ R : Value → World → Prop, (∀ v w', Q v w' → R v w') → c_slices_Values_int_int_1 t0 t1 w R) : cal P f_slices_Values_int_int_1 [t0, t1] w Q := l_slices_Values_int_int_1 (h Q fun _ _ h => h)

/-- (*flurry/pack.Unpacker).works -/
def A_pack_Unpacker_works : An := (An.s (An.r []) (An.s (An.r [[10], [18]]) An.o))
def c_pack_Unpacker_works (t0 : Value) (w : World) (R : Value → World → Prop) : Prop :=
  nilP true t0 fun t4 =>
  jn1 (fun k0 =>
  gif t4 true
  (nilc t0 fun t7 =>
  fad 0 t7 fun t8 =>
  fad 0 t8 fun t9 =>
  ld1 t9 w.heap fun t10 =>
  k0 t10 w)
  (k0 undef w)) fun _ t10_1 w =>
  pik t4 t10_1 (Value.bool false) fun t11 =>
  jn1 (fun k1 =>
  gif t11 true
  (nilc t0 fun t14 =>
  fad 0 t14 fun t15 =>
  fad 2 t15 fun t16 =>
  ld1 t16 w.heap fun t17 =>
  bi BinOp.eql t17 (Value.int IntKind.i64 0) fun t18 =>
  k1 t18 w)
  (k1 undef w)) fun _ t18_1 w =>
  pik t11 t18_1 (Value.bool false) fun t19 =>
  R t19 w
theorem e_pack_Unpacker_works (t0 : Value) (w : World) (R : Value → World → Prop) : intp P A_pack_Unpacker_works (bodyOf Tryd.f70) (ini [t0]) w (retK P Tryd.f70.results.toList R) (fun _ _ _ => False) (retK P Tryd.f70.results.toList R) = c_pack_Unpacker_works t0 w R := by kernel_rfl
theorem k_pack_Unpacker_works : chk P Tryd.f70.ntmps A_pack_Unpacker_works (bodyOf Tryd.f70) = true := by kernel_rfl
theorem l_pack_Unpacker_works {t0 : Value} {w : World} {R : Value → World → Prop} (h : c_pack_Unpacker_works t0 w R) : cal P f_pack_Unpacker_works [t0] w R :=
  calls_of mixed Tryd.func70 rfl (by kernel_rfl) k_pack_Unpacker_works (Eq.mpr (e_pack_Unpacker_works t0 w R) h)
theorem s_pack_Unpacker_works {t0 : Value} {w : World} {Q : Value → World → Prop} (h : ∀ R : Value → World → Prop, (∀ v w', Q v w' → R v w') → c_pack_Unpacker_works t0 w R) : cal P f_pack_Unpacker_works [t0] w Q := l_pack_Unpacker_works (h Q fun _ _ h => h)

/-- (*flurry/pack.kept).fails -/
def A_pack_kept_fails : An := (An.s (An.r []) (An.s (An.r []) An.o))
def c_pack_kept_fails (t0 t1 : Value) (w : World) (R : Value → World → Prop) : Prop :=
  nilc t0 fun t5 =>
  fad 2 t5 fun t6 =>
  ld1 t6 w.heap fun t7 =>
  bi BinOp.eql t7 (Value.int IntKind.i64 0) fun t8 =>
  cnd t8
  (nilc t0 fun t11 =>
  fad 2 t11 fun t12 =>
  st1 t12 t1 w fun w =>
  R (Value.tuple #[]) w)
  (R (Value.tuple #[]) w)
theorem e_pack_kept_fails (t0 t1 : Value) (w : World) (R : Value → World → Prop) : intp P A_pack_kept_fails (bodyOf Tryd.f71) (ini [t0, t1]) w (retK P Tryd.f71.results.toList R) (fun _ _ _ => False) (retK P Tryd.f71.results.toList R) = c_pack_kept_fails t0 t1 w R := by kernel_rfl
theorem k_pack_kept_fails : chk P Tryd.f71.ntmps A_pack_kept_fails (bodyOf Tryd.f71) = true := by kernel_rfl
theorem l_pack_kept_fails {t0 t1 : Value} {w : World} {R : Value → World → Prop} (h : c_pack_kept_fails t0 t1 w R) : cal P f_pack_kept_fails [t0, t1] w R :=
  calls_of mixed Tryd.func71 rfl (by kernel_rfl) k_pack_kept_fails (Eq.mpr (e_pack_kept_fails t0 t1 w R) h)
theorem s_pack_kept_fails {t0 t1 : Value} {w : World} {Q : Value → World → Prop} (h : ∀ R : Value → World → Prop, (∀ v w', Q v w' → R v w') → c_pack_kept_fails t0 t1 w R) : cal P f_pack_kept_fails [t0, t1] w Q := l_pack_kept_fails (h Q fun _ _ h => h)

/-- (*flurry/pack.Unpacker).counted -/
def A_pack_Unpacker_counted : An := (An.s (An.r []) (An.s (An.s (An.r []) (An.s (An.s (An.r []) An.o) An.o)) (An.s (An.s (An.r []) (An.s (An.s (An.r []) (An.s (An.r []) An.o)) An.o)) (An.s (An.s (An.r []) (An.s (An.s (An.r []) (An.s (An.r []) An.o)) An.o)) (An.s (An.r []) (An.s (An.b (An.s (An.r []) (An.s (An.s (An.r []) (An.s (An.r []) An.o)) (An.s (An.r []) (An.s (An.s (An.r []) (An.s (An.r []) An.o)) An.o))))) (An.s (An.r []) (An.s (An.r []) An.o))))))))
def c_pack_Unpacker_counted (t0 t1 t2 : Value) (w : World) (R : Value → World → Prop) : Prop :=
  cal P f_pack_Unpacker_works [t0] w fun t9 w =>
  notB t9 fun t10 =>
  cnd t10
  (R (Value.slice none 0 0) w)
  (bi BinOp.lss t2 (Value.int IntKind.i64 0) fun t12 =>
  cnd t12
  (nilc t0 fun t14 =>
  fad 0 t14 fun t15 =>
  cal P f_pack_kept_fails [t15, (Value.int IntKind.i64 1)] w fun t16 w =>
  R (Value.slice none 0 0) w)
  (nilc t0 fun t18 =>
  fad 0 t18 fun t19 =>
  fad 1 t19 fun t20 =>
  ld1 t20 w.heap fun t21 =>
  lenS t21 fun t22 =>
  bi BinOp.lss t22 t1 fun t24 =>
  cnd t24
  (nilc t0 fun t26 =>
  fad 0 t26 fun t27 =>
  cal P f_pack_kept_fails [t27, (Value.int IntKind.i64 11)] w fun t28 w =>
  R (Value.slice none 0 0) w)
  (nilc t0 fun t30 =>
  fad 0 t30 fun t31 =>
  fad 1 t31 fun t32 =>
  ld1 t32 w.heap fun t33 =>
  slc 1 t33 none (some t1) fun t35 =>
  cal P f_pack_value [t35] w fun t36 w =>
  cvi IntKind.u64 t2 fun t40 =>
  bi BinOp.gtr t36 t40 fun t41 =>
  cnd t41
  (nilc t0 fun t43 =>
  fad 0 t43 fun t44 =>
  cal P f_pack_kept_fails [t44, (Value.int IntKind.i64 3)] w fun t45 w =>
  R (Value.slice none 0 0) w)
  (nilc t0 fun t49 =>
  fad 0 t49 fun t50 =>
  fad 1 t50 fun t51 =>
  ld1 t51 w.heap fun t52 =>
  lenS t52 fun t53 =>
  bi BinOp.sub t53 t1 fun t55 =>
  cvi IntKind.u64 t55 fun t56 =>
  bi BinOp.gtr t36 t56 fun t57 =>
  cnd t57
  (nilc t0 fun t59 =>
  fad 0 t59 fun t60 =>
  cal P f_pack_kept_fails [t60, (Value.int IntKind.i64 11)] w fun t61 w =>
  R (Value.slice none 0 0) w)
  (nilc t0 fun t64 =>
  fad 0 t64 fun t65 =>
  fad 1 t65 fun t66 =>
  ld1 t66 w.heap fun t67 =>
  slc 1 t67 (some t1) none fun t69 =>
  nilc t0 fun t70 =>
  fad 0 t70 fun t71 =>
  fad 1 t71 fun t72 =>
  st1 t72 t69 w fun w =>
  cvi IntKind.i64 t36 fun t75 =>
  cal P f_pack_Unpacker_take [t0, t75] w fun t76 w =>
  R t76 w)))))
theorem e_pack_Unpacker_counted (t0 t1 t2 : Value) (w : World) (R : Value → World → Prop) : intp P A_pack_Unpacker_counted (bodyOf Tryd.f72) (ini [t0, t1, t2]) w (retK P Tryd.f72.results.toList R) (fun _ _ _ => False) (retK P Tryd.f72.results.toList R) = c_pack_Unpacker_counted t0 t1 t2 w R := by kernel_rfl
theorem k_pack_Unpacker_counted : chk P Tryd.f72.ntmps A_pack_Unpacker_counted (bodyOf Tryd.f72) = true := by kernel_rfl
theorem l_pack_Unpacker_counted {t0 t1 t2 : Value} {w : World} {R : Value → World → Prop} (h : c_pack_Unpacker_counted t0 t1 t2 w R) : cal P f_pack_Unpacker_counted [t0, t1, t2] w R :=
  calls_of mixed Tryd.func72 rfl (by kernel_rfl) k_pack_Unpacker_counted (Eq.mpr (e_pack_Unpacker_counted t0 t1 t2 w R) h)
theorem s_pack_Unpacker_counted {t0 t1 t2 : Value} {w : World} {Q : Value → World → Prop} (h : ∀ R : Value → World → Prop, (∀ v w', Q v w' → R v w') → c_pack_Unpacker_counted t0 t1 t2 w R) : cal P f_pack_Unpacker_counted [t0, t1, t2] w Q := l_pack_Unpacker_counted (h Q fun _ _ h => h)

/-- (*flurry/pack.Unpacker).Err -/
def A_pack_Unpacker_Err : An := (An.s (An.r []) (An.s (An.s (An.r [[11]]) (An.s (An.s (An.r []) An.o) An.o)) (An.s (An.r []) An.o)))
def c_pack_Unpacker_Err (t0 : Value) (w : World) (R : Value → World → Prop) : Prop :=
  nilP false t0 fun t4 =>
  jn1 (fun k0 =>
  gif t4 false
  (nilc t0 fun t7 =>
  fad 0 t7 fun t8 =>
  fad 0 t8 fun t9 =>
  ld1 t9 w.heap fun t10 =>
  notB t10 fun t11 =>
  k0 t11 w)
  (k0 undef w)) fun _ t11_1 w =>
  pik t4 (Value.bool true) t11_1 fun t12 =>
  cnd t12
  (R (Value.int IntKind.i64 2) w)
  (nilc t0 fun t14 =>
  fad 0 t14 fun t15 =>
  fad 2 t15 fun t16 =>
  ld1 t16 w.heap fun t17 =>
  R t17 w)
theorem e_pack_Unpacker_Err (t0 : Value) (w : World) (R : Value → World → Prop) : intp P A_pack_Unpacker_Err (bodyOf Tryd.f73) (ini [t0]) w (retK P Tryd.f73.results.toList R) (fun _ _ _ => False) (retK P Tryd.f73.results.toList R) = c_pack_Unpacker_Err t0 w R := by kernel_rfl
theorem k_pack_Unpacker_Err : chk P Tryd.f73.ntmps A_pack_Unpacker_Err (bodyOf Tryd.f73) = true := by kernel_rfl
theorem l_pack_Unpacker_Err {t0 : Value} {w : World} {R : Value → World → Prop} (h : c_pack_Unpacker_Err t0 w R) : cal P f_pack_Unpacker_Err [t0] w R :=
  calls_of mixed Tryd.func73 rfl (by kernel_rfl) k_pack_Unpacker_Err (Eq.mpr (e_pack_Unpacker_Err t0 w R) h)
theorem s_pack_Unpacker_Err {t0 : Value} {w : World} {Q : Value → World → Prop} (h : ∀ R : Value → World → Prop, (∀ v w', Q v w' → R v w') → c_pack_Unpacker_Err t0 w R) : cal P f_pack_Unpacker_Err [t0] w Q := l_pack_Unpacker_Err (h Q fun _ _ h => h)

/-- flurry/block.Clone -/
def A_block_Clone : An := (An.s (An.r []) (An.s (An.r []) (An.s (An.r []) An.o)))
def c_block_Clone (t0 : Value) (w : World) (R : Value → World → Prop) : Prop :=
  bx T_api_Block t0 w fun t1 w =>
  efP P (Instr.alloc T_api_Block true (.tuple #[])) w fun t2 w =>
  fad 33 t1 fun t3 =>
  ld1 t3 w.heap fun t4 =>
  cal P f_bytes_Clone [t4] w fun t5 w =>
  fad 33 t1 fun t6 =>
  st1 t6 t5 w fun w =>
  ldN 34 t1 w.heap fun t7 =>
  stN 34 t2 t7 w fun w =>
  ldN 34 t2 w.heap fun r0 =>
  R r0 w
theorem e_block_Clone (t0 : Value) (w : World) (R : Value → World → Prop) : intp P A_block_Clone (bodyOf Tryd.f74) (ini [t0]) w (retK P Tryd.f74.results.toList R) (fun _ _ _ => False) (retK P Tryd.f74.results.toList R) = c_block_Clone t0 w R := by kernel_rfl
theorem k_block_Clone : chk P Tryd.f74.ntmps A_block_Clone (bodyOf Tryd.f74) = true := by kernel_rfl
theorem l_block_Clone {t0 : Value} {w : World} {R : Value → World → Prop} (h : c_block_Clone t0 w R) : cal P f_block_Clone [t0] w R :=
  calls_of mixed Tryd.func74 rfl (by kernel_rfl) k_block_Clone (Eq.mpr (e_block_Clone t0 w R) h)
theorem s_block_Clone {t0 : Value} {w : World} {Q : Value → World → Prop} (h : ∀ R : Value → World → Prop, (∀ v w', Q v w' → R v w') → c_block_Clone t0 w R) : cal P f_block_Clone [t0] w Q := l_block_Clone (h Q fun _ _ h => h)

/-- flurry/sha.first -/
def A_sha_first : An := (An.s (An.r []) (An.s (An.r []) An.o))
def c_sha_first (w : World) (R : Value → World → Prop) : Prop :=
  efP P (Instr.alloc T_a8_uint32 true (.tuple #[])) w fun t0 w =>
  rdP P (Instr.build T_a8_uint32 #[(0, (Value.int IntKind.u32 1779033703)), (1, (Value.int IntKind.u32 3144134277)), (2, (Value.int IntKind.u32 1013904242)), (3, (Value.int IntKind.u32 2773480762)), (4, (Value.int IntKind.u32 1359893119)), (5, (Value.int IntKind.u32 2600822924)), (6, (Value.int IntKind.u32 528734635)), (7, (Value.int IntKind.u32 1541459225))]) w fun t1 =>
  stN 8 t0 t1 w fun w =>
  ldN 8 t0 w.heap fun r0 =>
  R r0 w
theorem e_sha_first (w : World) (R : Value → World → Prop) : intp P A_sha_first (bodyOf Tryd.f75) (ini []) w (retK P Tryd.f75.results.toList R) (fun _ _ _ => False) (retK P Tryd.f75.results.toList R) = c_sha_first  w R := by kernel_rfl
theorem k_sha_first : chk P Tryd.f75.ntmps A_sha_first (bodyOf Tryd.f75) = true := by kernel_rfl
theorem l_sha_first {w : World} {R : Value → World → Prop} (h : c_sha_first w R) : cal P f_sha_first [] w R :=
  calls_of mixed Tryd.func75 rfl (by kernel_rfl) k_sha_first (Eq.mpr (e_sha_first w R) h)
theorem s_sha_first {w : World} {Q : Value → World → Prop} (h : ∀ R : Value → World → Prop, (∀ v w', Q v w' → R v w') → c_sha_first w R) : cal P f_sha_first [] w Q := l_sha_first (h Q fun _ _ h => h)

/-- (*flurry/sha.State).none -/
def A_sha_State_none : An := (An.s (An.r []) (An.s (An.r [[10]]) An.o))
def c_sha_State_none (t0 : Value) (w : World) (R : Value → World → Prop) : Prop :=
  nilP false t0 fun t4 =>
  jn1 (fun k0 =>
  gif t4 false
  (nilc t0 fun t7 =>
  fad 10 t7 fun t8 =>
  ld1 t8 w.heap fun t9 =>
  notB t9 fun t10 =>
  k0 t10 w)
  (k0 undef w)) fun _ t10_1 w =>
  pik t4 (Value.bool true) t10_1 fun t11 =>
  R t11 w
theorem e_sha_State_none (t0 : Value) (w : World) (R : Value → World → Prop) : intp P A_sha_State_none (bodyOf Tryd.f76) (ini [t0]) w (retK P Tryd.f76.results.toList R) (fun _ _ _ => False) (retK P Tryd.f76.results.toList R) = c_sha_State_none t0 w R := by kernel_rfl
theorem k_sha_State_none : chk P Tryd.f76.ntmps A_sha_State_none (bodyOf Tryd.f76) = true := by kernel_rfl
theorem l_sha_State_none {t0 : Value} {w : World} {R : Value → World → Prop} (h : c_sha_State_none t0 w R) : cal P f_sha_State_none [t0] w R :=
  calls_of mixed Tryd.func76 rfl (by kernel_rfl) k_sha_State_none (Eq.mpr (e_sha_State_none t0 w R) h)
theorem s_sha_State_none {t0 : Value} {w : World} {Q : Value → World → Prop} (h : ∀ R : Value → World → Prop, (∀ v w', Q v w' → R v w') → c_sha_State_none t0 w R) : cal P f_sha_State_none [t0] w Q := l_sha_State_none (h Q fun _ _ h => h)

/-- flurry/sha.mixed -/
def A_sha_mixed : An := (An.s (An.r []) (An.s (An.r []) (An.s (An.s (An.r []) (An.b (An.l [18] (An.s (An.r []) (An.s (An.s An.o An.o) (An.s (An.b (An.s (An.r []) (An.s (An.r []) (An.s (An.r []) (An.s (An.r []) (An.s (An.r []) (An.s (An.r []) (An.r [])))))))) (An.r []))))))) (An.s (An.s (An.r []) (An.b (An.l [99] (An.s (An.r []) (An.s (An.s An.o An.o) (An.s (An.b (An.s (An.r []) (An.dc [0, 1, 2, 3, 4, 5, 6, 7, 8] [8] []))) (An.r []))))))) (An.s (An.r []) An.o)))))
def c_sha_mixed (t0 t1 : Value) (w : World) (R : Value → World → Prop) : Prop :=
  bx T_a8_uint32 t0 w fun t2 w =>
  efP P (Instr.alloc T_a8_uint32 true (.tuple #[])) w fun t4 w =>
  ldN 8 t2 w.heap fun t15 =>
  efP P (Instr.alloc T_a8_uint32 true (.tuple #[])) w fun t5 w =>
  stN 8 t5 t15 w fun w =>
  cal P f_sha_schedule [t1] w fun t17 w =>
  lp1 (Value.int IntKind.i64 0) w fun _ t18 w again0 =>
  bi BinOp.lss t18 (Value.int IntKind.i64 64) fun t19 =>
  cnd t19
  (ixv 64 1 false t17 t18 fun t21 =>
  drw w fun w =>
  ixa 8 1 t5 (Value.int IntKind.i64 0) fun t22 =>
  ld1 t22 w.heap fun t23 =>
  ixa 8 1 t5 (Value.int IntKind.i64 4) fun t24 =>
  ld1 t24 w.heap fun t25 =>
  cal P f_math_bits_RotateLeft32 [t25, (Value.int IntKind.i64 (-6))] w fun t27 w =>
  cal P f_math_bits_RotateLeft32 [t25, (Value.int IntKind.i64 (-11))] w fun t29 w =>
  bi BinOp.xor t27 t29 fun t30 =>
  cal P f_math_bits_RotateLeft32 [t25, (Value.int IntKind.i64 (-25))] w fun t32 w =>
  bi BinOp.xor t30 t32 fun t33 =>
  drw w fun w =>
  ixa 8 1 t5 (Value.int IntKind.i64 7) fun t34 =>
  ld1 t34 w.heap fun t35 =>
  bi BinOp.add t35 t33 fun t37 =>
  ixa 8 1 t5 (Value.int IntKind.i64 5) fun t39 =>
  ld1 t39 w.heap fun t40 =>
  bi BinOp.and t25 t40 fun t41 =>
  rdP P (Op.unary UnOp.xor t25) w fun t43 =>
  ixa 8 1 t5 (Value.int IntKind.i64 6) fun t44 =>
  ld1 t44 w.heap fun t45 =>
  bi BinOp.and t43 t45 fun t46 =>
  bi BinOp.xor t41 t46 fun t47 =>
  bi BinOp.add t37 t47 fun t48 =>
  ixa 64 1 (Value.pointer (some ⟨0, 0, none⟩)) t18 fun t50 =>
  ld1 t50 w.heap fun t51 =>
  bi BinOp.add t48 t51 fun t52 =>
  bi BinOp.add t52 t21 fun t54 =>
  cal P f_math_bits_RotateLeft32 [t23, (Value.int IntKind.i64 (-2))] w fun t56 w =>
  cal P f_math_bits_RotateLeft32 [t23, (Value.int IntKind.i64 (-13))] w fun t58 w =>
  bi BinOp.xor t56 t58 fun t59 =>
  cal P f_math_bits_RotateLeft32 [t23, (Value.int IntKind.i64 (-22))] w fun t61 w =>
  bi BinOp.xor t59 t61 fun t62 =>
  ixa 8 1 t5 (Value.int IntKind.i64 1) fun t65 =>
  ld1 t65 w.heap fun t66 =>
  bi BinOp.and t23 t66 fun t67 =>
  ixa 8 1 t5 (Value.int IntKind.i64 2) fun t69 =>
  ld1 t69 w.heap fun t70 =>
  bi BinOp.and t23 t70 fun t71 =>
  bi BinOp.xor t67 t71 fun t72 =>
  ixa 8 1 t5 (Value.int IntKind.i64 1) fun t73 =>
  ld1 t73 w.heap fun t74 =>
  ixa 8 1 t5 (Value.int IntKind.i64 2) fun t75 =>
  ld1 t75 w.heap fun t76 =>
  bi BinOp.and t74 t76 fun t77 =>
  bi BinOp.xor t72 t77 fun t78 =>
  bi BinOp.add t62 t78 fun t79 =>
  bi BinOp.add t54 t79 fun t82 =>
  ixa 8 1 t5 (Value.int IntKind.i64 1) fun t84 =>
  ld1 t84 w.heap fun t85 =>
  ixa 8 1 t5 (Value.int IntKind.i64 2) fun t86 =>
  ld1 t86 w.heap fun t87 =>
  ixa 8 1 t5 (Value.int IntKind.i64 3) fun t88 =>
  ld1 t88 w.heap fun t89 =>
  bi BinOp.add t89 t54 fun t91 =>
  ixa 8 1 t5 (Value.int IntKind.i64 5) fun t93 =>
  ld1 t93 w.heap fun t94 =>
  ixa 8 1 t5 (Value.int IntKind.i64 6) fun t95 =>
  ld1 t95 w.heap fun t96 =>
  rdP P (Instr.build T_a8_uint32 #[(0, t82), (1, t23), (2, t85), (3, t87), (4, t91), (5, t25), (6, t94), (7, t96)]) w fun t97 =>
  stN 8 t5 t97 w fun w =>
  bi BinOp.add t18 (Value.int IntKind.i64 1) fun t98 =>
  again0 t98 w)
  (lp1 (Value.int IntKind.i64 0) w fun _ t99 w again1 =>
  bi BinOp.lss t99 (Value.int IntKind.i64 8) fun t100 =>
  cnd t100
  (drH w fun S w =>
  ixa 8 1 t2 t99 fun t103 =>
  rdS S (fun w => ld1 t103 w.heap) fun t104 =>
  ixa 8 1 t5 t99 fun t106 =>
  rdS S (fun w => ld1 t106 w.heap) fun t107 =>
  bi BinOp.add t104 t107 fun t108 =>
  ixa 8 1 t2 t99 fun t109 =>
  efC (fun w K => st1 t109 t108 w (K undef)) w fun S _ w =>
  bi BinOp.add t99 (Value.int IntKind.i64 1) fun t110 =>
  again1 t110 w)
  (ldN 8 t2 w.heap fun t111 =>
  stN 8 t4 t111 w fun w =>
  ldN 8 t4 w.heap fun r2 =>
  R r2 w))
theorem e_sha_mixed (t0 t1 : Value) (w : World) (R : Value → World → Prop) : intp P A_sha_mixed (bodyOf Tryd.f77) (ini [t0, t1]) w (retK P Tryd.f77.results.toList R) (fun _ _ _ => False) (retK P Tryd.f77.results.toList R) = c_sha_mixed t0 t1 w R := by kernel_rfl
theorem k_sha_mixed : chk P Tryd.f77.ntmps A_sha_mixed (bodyOf Tryd.f77) = true := by kernel_rfl
theorem l_sha_mixed {t0 t1 : Value} {w : World} {R : Value → World → Prop} (h : c_sha_mixed t0 t1 w R) : cal P f_sha_mixed [t0, t1] w R :=
  calls_of mixed Tryd.func77 rfl (by kernel_rfl) k_sha_mixed (Eq.mpr (e_sha_mixed t0 t1 w R) h)
theorem s_sha_mixed {t0 t1 : Value} {w : World} {Q : Value → World → Prop} (h : ∀ R : Value → World → Prop, (∀ v w', Q v w' → R v w') → c_sha_mixed t0 t1 w R) : cal P f_sha_mixed [t0, t1] w Q := l_sha_mixed (h Q fun _ _ h => h)

/-- (*flurry/pack.Packer).works -/
def A_pack_Packer_works : An := (An.s (An.r []) (An.s (An.r [[10], [18]]) An.o))
def c_pack_Packer_works (t0 : Value) (w : World) (R : Value → World → Prop) : Prop :=
  nilP true t0 fun t4 =>
  jn1 (fun k0 =>
  gif t4 true
  (nilc t0 fun t7 =>
  fad 0 t7 fun t8 =>
  fad 0 t8 fun t9 =>
  ld1 t9 w.heap fun t10 =>
  k0 t10 w)
  (k0 undef w)) fun _ t10_1 w =>
  pik t4 t10_1 (Value.bool false) fun t11 =>
  jn1 (fun k1 =>
  gif t11 true
  (nilc t0 fun t14 =>
  fad 0 t14 fun t15 =>
  fad 2 t15 fun t16 =>
  ld1 t16 w.heap fun t17 =>
  bi BinOp.eql t17 (Value.int IntKind.i64 0) fun t18 =>
  k1 t18 w)
  (k1 undef w)) fun _ t18_1 w =>
  pik t11 t18_1 (Value.bool false) fun t19 =>
  R t19 w
theorem e_pack_Packer_works (t0 : Value) (w : World) (R : Value → World → Prop) : intp P A_pack_Packer_works (bodyOf Tryd.f78) (ini [t0]) w (retK P Tryd.f78.results.toList R) (fun _ _ _ => False) (retK P Tryd.f78.results.toList R) = c_pack_Packer_works t0 w R := by kernel_rfl
theorem k_pack_Packer_works : chk P Tryd.f78.ntmps A_pack_Packer_works (bodyOf Tryd.f78) = true := by kernel_rfl
theorem l_pack_Packer_works {t0 : Value} {w : World} {R : Value → World → Prop} (h : c_pack_Packer_works t0 w R) : cal P f_pack_Packer_works [t0] w R :=
  calls_of mixed Tryd.func78 rfl (by kernel_rfl) k_pack_Packer_works (Eq.mpr (e_pack_Packer_works t0 w R) h)
theorem s_pack_Packer_works {t0 : Value} {w : World} {Q : Value → World → Prop} (h : ∀ R : Value → World → Prop, (∀ v w', Q v w' → R v w') → c_pack_Packer_works t0 w R) : cal P f_pack_Packer_works [t0] w Q := l_pack_Packer_works (h Q fun _ _ h => h)

/-- flurry/flurryref02.words -/
def A_ref02_words : An := (An.s (An.r []) (An.s (An.r []) (An.s (An.s (An.r []) (An.b (An.l [4] (An.s (An.s (An.r []) (An.s An.o An.o)) (An.s (An.b (An.s (An.r []) (An.b (An.l [5] (An.s (An.s (An.r []) (An.s An.o An.o)) (An.s (An.b (An.dc [0, 1, 2, 3, 4, 5, 6, 7, 8, 9, 10, 11, 12, 13, 14, 15] [15] [])) (An.r []))))))) (An.r [])))))) (An.s (An.s (An.r []) (An.b (An.l [6] (An.s (An.s (An.r []) (An.s An.o An.o)) (An.s (An.b (An.s (An.r []) (An.s (An.r []) (An.s (An.r []) (An.s (An.r []) (An.dc [0, 1, 2, 3, 4, 5, 6, 7, 8, 9, 10, 11, 12, 13, 14, 15] [15] [])))))) (An.r [])))))) (An.s (An.r []) An.o)))))
def c_ref02_words (t0 : Value) (w : World) (R : Value → World → Prop) : Prop :=
  efP P (Instr.alloc T_a64_uint32 true (.tuple #[])) w fun t2 w =>
  efP P (Instr.alloc T_a64_uint32 true (.tuple #[])) w fun t3 w =>
  lp1 (Value.int IntKind.i64 0) w fun _ t4 w again0 =>
  bi BinOp.lss t4 (Value.int IntKind.i64 16) fun t12 =>
  cnd t12
  (lp1 (Value.int IntKind.i64 0) w fun _ t5 w again1 =>
  bi BinOp.lss t5 (Value.int IntKind.i64 4) fun t16 =>
  cnd t16
  (drH w fun S w =>
  ixa 64 1 t3 t4 fun t21 =>
  rdS S (fun w => ld1 t21 w.heap) fun t22 =>
  bi BinOp.mul t22 (Value.int IntKind.u32 256) fun t23 =>
  bi BinOp.mul (Value.int IntKind.i64 4) t4 fun t26 =>
  bi BinOp.add t26 t5 fun t28 =>
  ixs 1 t0 t28 fun t29 =>
  rdS S (fun w => ld1 t29 w.heap) fun t30 =>
  cvi IntKind.u32 t30 fun t31 =>
  bi BinOp.add t23 t31 fun t32 =>
  ixa 64 1 t3 t4 fun t33 =>
  efC (fun w K => st1 t33 t32 w (K undef)) w fun S _ w =>
  bi BinOp.add t5 (Value.int IntKind.i64 1) fun t18 =>
  again1 t18 w)
  (bi BinOp.add t4 (Value.int IntKind.i64 1) fun t14 =>
  again0 t14 w))
  (lp1 (Value.int IntKind.i64 16) w fun _ t6 w again2 =>
  bi BinOp.lss t6 (Value.int IntKind.i64 64) fun t35 =>
  cnd t35
  (bi BinOp.sub t6 (Value.int IntKind.i64 15) fun t39 =>
  ixa 64 1 t3 t39 fun t40 =>
  ld1 t40 w.heap fun t41 =>
  bi BinOp.sub t6 (Value.int IntKind.i64 2) fun t43 =>
  ixa 64 1 t3 t43 fun t44 =>
  ld1 t44 w.heap fun t45 =>
  cal P f_ref02_turned [t41, (Value.int IntKind.u64 7)] w fun t47 w =>
  cal P f_ref02_turned [t41, (Value.int IntKind.u64 18)] w fun t49 w =>
  bi BinOp.xor t47 t49 fun t50 =>
  sh BinOp.shr t41 (Value.int IntKind.u64 3) fun t52 =>
  bi BinOp.xor t50 t52 fun t53 =>
  cal P f_ref02_turned [t45, (Value.int IntKind.u64 17)] w fun t55 w =>
  cal P f_ref02_turned [t45, (Value.int IntKind.u64 19)] w fun t57 w =>
  bi BinOp.xor t55 t57 fun t58 =>
  sh BinOp.shr t45 (Value.int IntKind.u64 10) fun t60 =>
  bi BinOp.xor t58 t60 fun t61 =>
  drH w fun S w =>
  bi BinOp.sub t6 (Value.int IntKind.i64 7) fun t65 =>
  ixa 64 1 t3 t65 fun t66 =>
  rdS S (fun w => ld1 t66 w.heap) fun t67 =>
  bi BinOp.add t61 t67 fun t68 =>
  bi BinOp.add t68 t53 fun t70 =>
  bi BinOp.sub t6 (Value.int IntKind.i64 16) fun t72 =>
  ixa 64 1 t3 t72 fun t73 =>
  rdS S (fun w => ld1 t73 w.heap) fun t74 =>
  bi BinOp.add t70 t74 fun t75 =>
  ixa 64 1 t3 t6 fun t76 =>
  efC (fun w K => st1 t76 t75 w (K undef)) w fun S _ w =>
  bi BinOp.add t6 (Value.int IntKind.i64 1) fun t37 =>
  again2 t37 w)
  (ldN 64 t3 w.heap fun t77 =>
  stN 64 t2 t77 w fun w =>
  ldN 64 t2 w.heap fun r3 =>
  R r3 w))
theorem e_ref02_words (t0 : Value) (w : World) (R : Value → World → Prop) : intp P A_ref02_words (bodyOf Tryd.f79) (ini [t0]) w (retK P Tryd.f79.results.toList R) (fun _ _ _ => False) (retK P Tryd.f79.results.toList R) = c_ref02_words t0 w R := by kernel_rfl
theorem k_ref02_words : chk P Tryd.f79.ntmps A_ref02_words (bodyOf Tryd.f79) = true := by kernel_rfl
theorem l_ref02_words {t0 : Value} {w : World} {R : Value → World → Prop} (h : c_ref02_words t0 w R) : cal P f_ref02_words [t0] w R :=
  calls_of mixed Tryd.func79 rfl (by kernel_rfl) k_ref02_words (Eq.mpr (e_ref02_words t0 w R) h)
theorem s_ref02_words {t0 : Value} {w : World} {Q : Value → World → Prop} (h : ∀ R : Value → World → Prop, (∀ v w', Q v w' → R v w') → c_ref02_words t0 w R) : cal P f_ref02_words [t0] w Q := l_ref02_words (h Q fun _ _ h => h)

/-- flurry/flurryref02.constants -/
def A_ref02_constants : An := (An.s (An.r []) (An.s (An.r []) An.o))
def c_ref02_constants (w : World) (R : Value → World → Prop) : Prop :=
  efP P (Instr.alloc T_a64_uint32 true (.tuple #[])) w fun t0 w =>
  rdP P (Instr.build T_a64_uint32 #[(0, (Value.int IntKind.u32 1116352408)), (1, (Value.int IntKind.u32 1899447441)), (2, (Value.int IntKind.u32 3049323471)), (3, (Value.int IntKind.u32 3921009573)), (4, (Value.int IntKind.u32 961987163)), (5, (Value.int IntKind.u32 1508970993)), (6, (Value.int IntKind.u32 2453635748)), (7, (Value.int IntKind.u32 2870763221)), (8, (Value.int IntKind.u32 3624381080)), (9, (Value.int IntKind.u32 310598401)), (10, (Value.int IntKind.u32 607225278)), (11, (Value.int IntKind.u32 1426881987)), (12, (Value.int IntKind.u32 1925078388)), (13, (Value.int IntKind.u32 2162078206)), (14, (Value.int IntKind.u32 2614888103)), (15, (Value.int IntKind.u32 3248222580)), (16, (Value.int IntKind.u32 3835390401)), (17, (Value.int IntKind.u32 4022224774)), (18, (Value.int IntKind.u32 264347078)), (19, (Value.int IntKind.u32 604807628)), (20, (Value.int IntKind.u32 770255983)), (21, (Value.int IntKind.u32 1249150122)), (22, (Value.int IntKind.u32 1555081692)), (23, (Value.int IntKind.u32 1996064986)), (24, (Value.int IntKind.u32 2554220882)), (25, (Value.int IntKind.u32 2821834349)), (26, (Value.int IntKind.u32 2952996808)), (27, (Value.int IntKind.u32 3210313671)), (28, (Value.int IntKind.u32 3336571891)), (29, (Value.int IntKind.u32 3584528711)), (30, (Value.int IntKind.u32 113926993)), (31, (Value.int IntKind.u32 338241895)), (32, (Value.int IntKind.u32 666307205)), (33, (Value.int IntKind.u32 773529912)), (34, (Value.int IntKind.u32 1294757372)), (35, (Value.int IntKind.u32 1396182291)), (36, (Value.int IntKind.u32 1695183700)), (37, (Value.int IntKind.u32 1986661051)), (38, (Value.int IntKind.u32 2177026350)), (39, (Value.int IntKind.u32 2456956037)), (40, (Value.int IntKind.u32 2730485921)), (41, (Value.int IntKind.u32 2820302411)), (42, (Value.int IntKind.u32 3259730800)), (43, (Value.int IntKind.u32 3345764771)), (44, (Value.int IntKind.u32 3516065817)), (45, (Value.int IntKind.u32 3600352804)), (46, (Value.int IntKind.u32 4094571909)), (47, (Value.int IntKind.u32 275423344)), (48, (Value.int IntKind.u32 430227734)), (49, (Value.int IntKind.u32 506948616)), (50, (Value.int IntKind.u32 659060556)), (51, (Value.int IntKind.u32 883997877)), (52, (Value.int IntKind.u32 958139571)), (53, (Value.int IntKind.u32 1322822218)), (54, (Value.int IntKind.u32 1537002063)), (55, (Value.int IntKind.u32 1747873779)), (56, (Value.int IntKind.u32 1955562222)), (57, (Value.int IntKind.u32 2024104815)), (58, (Value.int IntKind.u32 2227730452)), (59, (Value.int IntKind.u32 2361852424)), (60, (Value.int IntKind.u32 2428436474)), (61, (Value.int IntKind.u32 2756734187)), (62, (Value.int IntKind.u32 3204031479)), (63, (Value.int IntKind.u32 3329325298))]) w fun t1 =>
  stN 64 t0 t1 w fun w =>
  ldN 64 t0 w.heap fun r0 =>
  R r0 w
theorem e_ref02_constants (w : World) (R : Value → World → Prop) : intp P A_ref02_constants (bodyOf Tryd.f80) (ini []) w (retK P Tryd.f80.results.toList R) (fun _ _ _ => False) (retK P Tryd.f80.results.toList R) = c_ref02_constants  w R := by kernel_rfl
theorem k_ref02_constants : chk P Tryd.f80.ntmps A_ref02_constants (bodyOf Tryd.f80) = true := by kernel_rfl
theorem l_ref02_constants {w : World} {R : Value → World → Prop} (h : c_ref02_constants w R) : cal P f_ref02_constants [] w R :=
  calls_of mixed Tryd.func80 rfl (by kernel_rfl) k_ref02_constants (Eq.mpr (e_ref02_constants w R) h)
theorem s_ref02_constants {w : World} {Q : Value → World → Prop} (h : ∀ R : Value → World → Prop, (∀ v w', Q v w' → R v w') → c_ref02_constants w R) : cal P f_ref02_constants [] w Q := l_ref02_constants (h Q fun _ _ h => h)

/-- flurry/flurryref02.turned -/
def A_ref02_turned : An := (An.s (An.r []) (An.s (An.r []) An.o))
def c_ref02_turned (t0 t1 : Value) (w : World) (R : Value → World → Prop) : Prop :=
  sh BinOp.shr t0 t1 fun t7 =>
  bi BinOp.sub (Value.int IntKind.u64 32) t1 fun t10 =>
  sh BinOp.shl t0 t10 fun t11 =>
  bi BinOp.or t7 t11 fun t12 =>
  R t12 w
theorem e_ref02_turned (t0 t1 : Value) (w : World) (R : Value → World → Prop) : intp P A_ref02_turned (bodyOf Tryd.f81) (ini [t0, t1]) w (retK P Tryd.f81.results.toList R) (fun _ _ _ => False) (retK P Tryd.f81.results.toList R) = c_ref02_turned t0 t1 w R := by kernel_rfl
theorem k_ref02_turned : chk P Tryd.f81.ntmps A_ref02_turned (bodyOf Tryd.f81) = true := by kernel_rfl
theorem l_ref02_turned {t0 t1 : Value} {w : World} {R : Value → World → Prop} (h : c_ref02_turned t0 t1 w R) : cal P f_ref02_turned [t0, t1] w R :=
  calls_of mixed Tryd.func81 rfl (by kernel_rfl) k_ref02_turned (Eq.mpr (e_ref02_turned t0 t1 w R) h)
theorem s_ref02_turned {t0 t1 : Value} {w : World} {Q : Value → World → Prop} (h : ∀ R : Value → World → Prop, (∀ v w', Q v w' → R v w') → c_ref02_turned t0 t1 w R) : cal P f_ref02_turned [t0, t1] w Q := l_ref02_turned (h Q fun _ _ h => h)

/-- flurry/sha.schedule -/
def A_sha_schedule : An := (An.s (An.r []) (An.s (An.r []) (An.s (An.s (An.r []) (An.b (An.l [9] (An.s (An.r []) (An.s (An.s An.o An.o) (An.s (An.j [] (An.b (An.s (An.r []) (An.s (An.s (An.r []) (An.s (An.s (An.dc [0, 1, 2, 3, 4, 5, 6, 7, 8, 9, 10, 11, 12, 13, 14, 15, 16, 17, 18, 19, 20, 21, 22, 23, 24, 25, 26, 27, 28, 29, 30, 31, 32, 33, 34, 35] [35] []) An.o) An.o)) (An.s (An.r []) (An.s (An.r []) (An.s (An.r []) (An.dc [0, 1, 2, 3, 4, 5, 6, 7, 8, 9, 10, 11, 12, 13, 14, 15] [15] [])))))))) (An.r []))))))) (An.s (An.r []) An.o))))
def c_sha_schedule (t0 : Value) (w : World) (R : Value → World → Prop) : Prop :=
  efP P (Instr.alloc T_a64_uint32 true (.tuple #[])) w fun t2 w =>
  efP P (Instr.alloc T_a64_uint32 true (.tuple #[])) w fun t3 w =>
  lp1 (Value.int IntKind.i64 0) w fun _ t9 w again0 =>
  bi BinOp.lss t9 (Value.int IntKind.i64 64) fun t10 =>
  cnd t10
  (jn0 (fun k1 =>
  bi BinOp.lss t9 (Value.int IntKind.i64 16) fun t13 =>
  cnd t13
  (drH w fun S w =>
  bi BinOp.mul (Value.int IntKind.i64 4) t9 fun t17 =>
  ixs 1 t0 t17 fun t18 =>
  rdS S (fun w => ld1 t18 w.heap) fun t19 =>
  cvi IntKind.u32 t19 fun t20 =>
  sh BinOp.shl t20 (Value.int IntKind.u64 24) fun t21 =>
  bi BinOp.mul (Value.int IntKind.i64 4) t9 fun t24 =>
  bi BinOp.add t24 (Value.int IntKind.i64 1) fun t25 =>
  ixs 1 t0 t25 fun t26 =>
  rdS S (fun w => ld1 t26 w.heap) fun t27 =>
  cvi IntKind.u32 t27 fun t28 =>
  sh BinOp.shl t28 (Value.int IntKind.u64 16) fun t29 =>
  bi BinOp.or t21 t29 fun t30 =>
  bi BinOp.mul (Value.int IntKind.i64 4) t9 fun t33 =>
  bi BinOp.add t33 (Value.int IntKind.i64 2) fun t34 =>
  ixs 1 t0 t34 fun t35 =>
  rdS S (fun w => ld1 t35 w.heap) fun t36 =>
  cvi IntKind.u32 t36 fun t37 =>
  sh BinOp.shl t37 (Value.int IntKind.u64 8) fun t38 =>
  bi BinOp.or t30 t38 fun t39 =>
  bi BinOp.mul (Value.int IntKind.i64 4) t9 fun t42 =>
  bi BinOp.add t42 (Value.int IntKind.i64 3) fun t43 =>
  ixs 1 t0 t43 fun t44 =>
  rdS S (fun w => ld1 t44 w.heap) fun t45 =>
  cvi IntKind.u32 t45 fun t46 =>
  bi BinOp.or t39 t46 fun t47 =>
  ixa 64 1 t3 t9 fun t48 =>
  efC (fun w K => st1 t48 t47 w (K undef)) w fun S _ w =>
  k1 w)
  (drw w fun w =>
  bi BinOp.sub t9 (Value.int IntKind.i64 15) fun t50 =>
  ixa 64 1 t3 t50 fun t51 =>
  ld1 t51 w.heap fun t52 =>
  bi BinOp.sub t9 (Value.int IntKind.i64 2) fun t54 =>
  ixa 64 1 t3 t54 fun t55 =>
  ld1 t55 w.heap fun t56 =>
  cal P f_math_bits_RotateLeft32 [t52, (Value.int IntKind.i64 (-7))] w fun t58 w =>
  cal P f_math_bits_RotateLeft32 [t52, (Value.int IntKind.i64 (-18))] w fun t60 w =>
  bi BinOp.xor t58 t60 fun t61 =>
  sh BinOp.shr t52 (Value.int IntKind.u64 3) fun t63 =>
  bi BinOp.xor t61 t63 fun t64 =>
  cal P f_math_bits_RotateLeft32 [t56, (Value.int IntKind.i64 (-17))] w fun t66 w =>
  cal P f_math_bits_RotateLeft32 [t56, (Value.int IntKind.i64 (-19))] w fun t68 w =>
  bi BinOp.xor t66 t68 fun t69 =>
  sh BinOp.shr t56 (Value.int IntKind.u64 10) fun t71 =>
  bi BinOp.xor t69 t71 fun t72 =>
  drH w fun S w =>
  bi BinOp.sub t9 (Value.int IntKind.i64 7) fun t76 =>
  ixa 64 1 t3 t76 fun t77 =>
  rdS S (fun w => ld1 t77 w.heap) fun t78 =>
  bi BinOp.add t72 t78 fun t79 =>
  bi BinOp.add t79 t64 fun t81 =>
  bi BinOp.sub t9 (Value.int IntKind.i64 16) fun t83 =>
  ixa 64 1 t3 t83 fun t84 =>
  rdS S (fun w => ld1 t84 w.heap) fun t85 =>
  bi BinOp.add t81 t85 fun t86 =>
  ixa 64 1 t3 t9 fun t87 =>
  efC (fun w K => st1 t87 t86 w (K undef)) w fun S _ w =>
  k1 w)) fun _ w =>
  bi BinOp.add t9 (Value.int IntKind.i64 1) fun t88 =>
  again0 t88 w)
  (ldN 64 t3 w.heap fun t89 =>
  stN 64 t2 t89 w fun w =>
  ldN 64 t2 w.heap fun r2 =>
  R r2 w)
theorem e_sha_schedule (t0 : Value) (w : World) (R : Value → World → Prop) : intp P A_sha_schedule (bodyOf Tryd.f82) (ini [t0]) w (retK P Tryd.f82.results.toList R) (fun _ _ _ => False) (retK P Tryd.f82.results.toList R) = c_sha_schedule t0 w R := by kernel_rfl
theorem k_sha_schedule : chk P Tryd.f82.ntmps A_sha_schedule (bodyOf Tryd.f82) = true := by kernel_rfl
theorem l_sha_schedule {t0 : Value} {w : World} {R : Value → World → Prop} (h : c_sha_schedule t0 w R) : cal P f_sha_schedule [t0] w R :=
  calls_of mixed Tryd.func82 rfl (by kernel_rfl) k_sha_schedule (Eq.mpr (e_sha_schedule t0 w R) h)
theorem s_sha_schedule {t0 : Value} {w : World} {Q : Value → World → Prop} (h : ∀ R : Value → World → Prop, (∀ v w', Q v w' → R v w') → c_sha_schedule t0 w R) : cal P f_sha_schedule [t0] w Q := l_sha_schedule (h Q fun _ _ h => h)

/-- math/bits.RotateLeft32 -/
def A_math_bits_RotateLeft32 : An := (An.s (An.r []) (An.s (An.r []) (An.s (An.r []) An.o)))
def c_math_bits_RotateLeft32 (t0 t1 : Value) (w : World) (R : Value → World → Prop) : Prop :=
  cvi IntKind.u64 t1 fun t7 =>
  bi BinOp.and t7 (Value.int IntKind.u64 31) fun t8 =>
  sh BinOp.shl t0 t8 fun t11 =>
  bi BinOp.sub (Value.int IntKind.u64 32) t8 fun t14 =>
  sh BinOp.shr t0 t14 fun t15 =>
  bi BinOp.or t11 t15 fun t16 =>
  R t16 w
theorem e_math_bits_RotateLeft32 (t0 t1 : Value) (w : World) (R : Value → World → Prop) : intp P A_math_bits_RotateLeft32 (bodyOf Tryd.f83) (ini [t0, t1]) w (retK P Tryd.f83.results.toList R) (fun _ _ _ => False) (retK P Tryd.f83.results.toList R) = c_math_bits_RotateLeft32 t0 t1 w R := by kernel_rfl
theorem k_math_bits_RotateLeft32 : chk P Tryd.f83.ntmps A_math_bits_RotateLeft32 (bodyOf Tryd.f83) = true := by kernel_rfl
theorem l_math_bits_RotateLeft32 {t0 t1 : Value} {w : World} {R : Value → World → Prop} (h : c_math_bits_RotateLeft32 t0 t1 w R) : cal P f_math_bits_RotateLeft32 [t0, t1] w R :=
  calls_of mixed Tryd.func83 rfl (by kernel_rfl) k_math_bits_RotateLeft32 (Eq.mpr (e_math_bits_RotateLeft32 t0 t1 w R) h)
theorem s_math_bits_RotateLeft32 {t0 t1 : Value} {w : World} {Q : Value → World → Prop} (h : ∀ R : Value → World → Prop, (∀ v w', Q v w' → R v w') → c_math_bits_RotateLeft32 t0 t1 w R) : cal P f_math_bits_RotateLeft32 [t0, t1] w Q := l_math_bits_RotateLeft32 (h Q fun _ _ h => h)

/-- gosem.cut.vars -/
def A_gosem_cut_vars : An := (An.r [])
def c_gosem_cut_vars (w : World) (R : Value → World → Prop) : Prop :=
  rdP P (Instr.build T_a64_uint32 #[(0, (Value.int IntKind.u32 1116352408)), (1, (Value.int IntKind.u32 1899447441)), (2, (Value.int IntKind.u32 3049323471)), (3, (Value.int IntKind.u32 3921009573)), (4, (Value.int IntKind.u32 961987163)), (5, (Value.int IntKind.u32 1508970993)), (6, (Value.int IntKind.u32 2453635748)), (7, (Value.int IntKind.u32 2870763221)), (8, (Value.int IntKind.u32 3624381080)), (9, (Value.int IntKind.u32 310598401)), (10, (Value.int IntKind.u32 607225278)), (11, (Value.int IntKind.u32 1426881987)), (12, (Value.int IntKind.u32 1925078388)), (13, (Value.int IntKind.u32 2162078206)), (14, (Value.int IntKind.u32 2614888103)), (15, (Value.int IntKind.u32 3248222580)), (16, (Value.int IntKind.u32 3835390401)), (17, (Value.int IntKind.u32 4022224774)), (18, (Value.int IntKind.u32 264347078)), (19, (Value.int IntKind.u32 604807628)), (20, (Value.int IntKind.u32 770255983)), (21, (Value.int IntKind.u32 1249150122)), (22, (Value.int IntKind.u32 1555081692)), (23, (Value.int IntKind.u32 1996064986)), (24, (Value.int IntKind.u32 2554220882)), (25, (Value.int IntKind.u32 2821834349)), (26, (Value.int IntKind.u32 2952996808)), (27, (Value.int IntKind.u32 3210313671)), (28, (Value.int IntKind.u32 3336571891)), (29, (Value.int IntKind.u32 3584528711)), (30, (Value.int IntKind.u32 113926993)), (31, (Value.int IntKind.u32 338241895)), (32, (Value.int IntKind.u32 666307205)), (33, (Value.int IntKind.u32 773529912)), (34, (Value.int IntKind.u32 1294757372)), (35, (Value.int IntKind.u32 1396182291)), (36, (Value.int IntKind.u32 1695183700)), (37, (Value.int IntKind.u32 1986661051)), (38, (Value.int IntKind.u32 2177026350)), (39, (Value.int IntKind.u32 2456956037)), (40, (Value.int IntKind.u32 2730485921)), (41, (Value.int IntKind.u32 2820302411)), (42, (Value.int IntKind.u32 3259730800)), (43, (Value.int IntKind.u32 3345764771)), (44, (Value.int IntKind.u32 3516065817)), (45, (Value.int IntKind.u32 3600352804)), (46, (Value.int IntKind.u32 4094571909)), (47, (Value.int IntKind.u32 275423344)), (48, (Value.int IntKind.u32 430227734)), (49, (Value.int IntKind.u32 506948616)), (50, (Value.int IntKind.u32 659060556)), (51, (Value.int IntKind.u32 883997877)), (52, (Value.int IntKind.u32 958139571)), (53, (Value.int IntKind.u32 1322822218)), (54, (Value.int IntKind.u32 1537002063)), (55, (Value.int IntKind.u32 1747873779)), (56, (Value.int IntKind.u32 1955562222)), (57, (Value.int IntKind.u32 2024104815)), (58, (Value.int IntKind.u32 2227730452)), (59, (Value.int IntKind.u32 2361852424)), (60, (Value.int IntKind.u32 2428436474)), (61, (Value.int IntKind.u32 2756734187)), (62, (Value.int IntKind.u32 3204031479)), (63, (Value.int IntKind.u32 3329325298))]) w fun t0 =>
  stN 64 (Value.pointer (some ⟨0, 0, none⟩)) t0 w fun w =>
  R (Value.tuple #[]) w
theorem e_gosem_cut_vars (w : World) (R : Value → World → Prop) : intp P A_gosem_cut_vars (bodyOf Tryd.f107) (ini []) w (retK P Tryd.f107.results.toList R) (fun _ _ _ => False) (retK P Tryd.f107.results.toList R) = c_gosem_cut_vars  w R := by kernel_rfl
theorem k_gosem_cut_vars : chk P Tryd.f107.ntmps A_gosem_cut_vars (bodyOf Tryd.f107) = true := by kernel_rfl
theorem l_gosem_cut_vars {w : World} {R : Value → World → Prop} (h : c_gosem_cut_vars w R) : cal P f_gosem_cut_vars [] w R :=
  calls_of mixed Tryd.func107 rfl (by kernel_rfl) k_gosem_cut_vars (Eq.mpr (e_gosem_cut_vars w R) h)
theorem s_gosem_cut_vars {w : World} {Q : Value → World → Prop} (h : ∀ R : Value → World → Prop, (∀ v w', Q v w' → R v w') → c_gosem_cut_vars w R) : cal P f_gosem_cut_vars [] w Q := l_gosem_cut_vars (h Q fun _ _ h => h)

end Go.Fx
