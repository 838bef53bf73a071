/-
  The readings of the functions that are walked (c_..), printed by program; each is held against the loaded code by the kernel (e_..), and gives the call (l_..).
-/
import Derived.Laws.Tables
import Derived.Laws.StructEq
import Derived.MapKept
import Derived.WideKeyRuns
import Derived.OrdersIn
import Derived.RangeFuncRecord
import Derived.RangeFuncIn
import Derived.RangeFuncLeaves
import Derived.Test.YtpdnddcodnpmeaaDoorProg
import Derived.KernelRfl
import Derived.Test.YtpdnddcodnpmeaaDoorQ3a432b15
set_option linter.unusedVariables false
set_option linter.unusedSimpArgs false
namespace Go.Fx
/-- One cell, whatever it is. -/
def qv : Rdr Value where
  size := 1
  cells v := [v]
  ok _ v := v.oneCell' = true
  len _ := rfl
  one h u hu := by simp at hu; subst hu; exact h
  fr h _ := h
def vz (n : Nat) : Vec n := ⟨List.replicate n 0, List.length_replicate⟩
/-- A field of a struct: where it stands, what it is, the struct with another one. -/
structure Fld {α β : Type} (r : Rdr α) (s : Rdr β) (off : Nat) (get : α → β) (set : α → β → α) : Prop where
  spec : ∀ a b, ∃ pre post, r.cells a = pre ++ s.cells (get a) ++ post ∧ r.cells (set a b) = pre ++ s.cells b ++ post ∧ pre.length = off
theorem Fld.self {α : Type} {r : Rdr α} : Fld r r 0 (fun a => a) (fun _ b => b) := ⟨fun a b => ⟨[], [], by simp, by simp, rfl⟩⟩
theorem Fld.fst {α β γ : Type} {r : Rdr α} {s : Rdr β} {q : Rdr γ} {off : Nat} {get : α → β} {set : α → β → α} (f : Fld r s off get set) : Fld (r.pair q) s off (fun a => get a.1) (fun a b => (set a.1 b, a.2)) :=
  ⟨fun a b => by
    obtain ⟨pre, post, h1, h2, h3⟩ := f.spec a.1 b
    exact ⟨pre, post ++ q.cells a.2, by simp [Rdr.pair, h1], by simp [Rdr.pair, h2], h3⟩⟩
theorem Fld.snd {α β γ : Type} {r : Rdr α} {s : Rdr β} {q : Rdr γ} {off : Nat} {get : α → β} {set : α → β → α} (f : Fld r s off get set) : Fld (q.pair r) s (q.size + off) (fun a => get a.2) (fun a b => (a.1, set a.2 b)) :=
  ⟨fun a b => by
    obtain ⟨pre, post, h1, h2, h3⟩ := f.spec a.2 b
    exact ⟨q.cells a.1 ++ pre, post, by simp [Rdr.pair, h1], by simp [Rdr.pair, h2], by rw [List.length_append, q.len, h3]⟩⟩
/-- Cells that stand at a place of a block. -/
def At (h : Heap) (g o : Nat) (cs : List Value) : Prop := ∃ cur t fr, h[g]? = some (.cells cur t fr) ∧ o + cs.length ≤ cur.size ∧ (cur.toList.drop o).take cs.length = cs
theorem At.blk {h : Heap} {g : Nat} {cs : List Value} {t : TypeId} {fr : Nat × Nat} (hg : h[g]? = some (.cells cs.toArray t fr)) : At h g 0 cs := ⟨_, t, fr, hg, by simp, by simp⟩
theorem At.part {h : Heap} {g o k : Nat} {pre mid post : List Value} (ha : At h g o (pre ++ mid ++ post)) (hk : pre.length = k) : At h g (o + k) mid := by
  obtain ⟨cur, t, fr, hg, hn, hc⟩ := ha
  subst hk
  simp only [List.length_append] at hn hc
  refine ⟨cur, t, fr, hg, by omega, ?_⟩
  have : (((cur.toList.drop o).take (pre.length + mid.length + post.length)).drop pre.length).take mid.length = mid := by
    rw [hc, List.append_assoc, List.drop_left' rfl, List.take_left' rfl]
  rw [List.drop_take, List.drop_drop, List.take_take, Nat.min_eq_left (by omega)] at this
  exact this
theorem At.ldN {h : Heap} {g o n : Nat} {cs : List Value} (ha : At h g o cs) (hn : cs.length = n) (K : Value → Prop) : ldN n (.pointer (some ⟨g, o, none⟩)) h K = K (.agg cs.toArray) := by
  obtain ⟨cur, t, fr, hg, hl, hc⟩ := ha
  subst hn
  rw [ldN_eq hg]
  have e : cur.extract o (o + cs.length) = cs.toArray := by
    apply Array.ext'
    rw [Array.toList_extract]
    simp only [List.extract_eq_take_drop]
    rw [Nat.add_sub_cancel_left, hc]
  rw [e]
  exact propext ⟨fun h => h.2, fun h => ⟨hl, h⟩⟩
theorem At.ld1 {h : Heap} {g o : Nat} {v : Value} (ha : At h g o [v]) (K : Value → Prop) : ld1 (.pointer (some ⟨g, o, none⟩)) h K = K v := by
  obtain ⟨cur, t, fr, hg, hl, hc⟩ := ha
  rw [ld1_eq hg]
  have e : cur[o]? = some v := by
    have : ((cur.toList.drop o).take 1)[0]? = some v := by
      have := congrArg (·[0]?) hc
      simpa using this
    rw [List.getElem?_take_of_lt (by omega)] at this
    simpa using this
  rw [e]
  exact ex_some v K
section
variable {α β : Type} {r : Rdr α} {s : Rdr β} {off : Nat} {get : α → β} {set : α → β → α} {h : Heap} {g o : Nat} {a : α} {t : TypeId} {fr : Nat × Nat}
theorem Fld.at (f : Fld r s off get set) (ha : At h g o (r.cells a)) : At h g (o + off) (s.cells (get a)) := by
  obtain ⟨pre, post, h1, _, h3⟩ := f.spec a (get a)
  rw [h1] at ha
  exact ha.part h3
theorem Fld.ldN (f : Fld r s off get set) (hg : h[g]? = some (.cells (r.cells a).toArray t fr)) (K : Value → Prop) : ldN s.size (.pointer (some ⟨g, off, none⟩)) h K = K (.agg (s.cells (get a)).toArray) := by
  have := (f.at (At.blk hg)).ldN (s.len _) K
  rwa [Nat.zero_add] at this
theorem Fld.ld1 {get : α → Value} {set : α → Value → α} (f : Fld r qv off get set) (hg : h[g]? = some (.cells (r.cells a).toArray t fr)) (K : Value → Prop) : ld1 (.pointer (some ⟨g, off, none⟩)) h K = K (get a) := by
  have := (f.at (At.blk hg)).ld1 K
  rwa [Nat.zero_add] at this
theorem Fld.ldNA (f : Fld r s off get set) (hg : At h g o (r.cells a)) (K : Value → Prop) : Go.Fx.ldN s.size (.pointer (some ⟨g, o + off, none⟩)) h K = K (.agg (s.cells (get a)).toArray) := (f.at hg).ldN (s.len _) K
theorem Fld.ld1A {get : α → Value} {set : α → Value → α} (f : Fld r qv off get set) (hg : At h g o (r.cells a)) (K : Value → Prop) : Go.Fx.ld1 (.pointer (some ⟨g, o + off, none⟩)) h K = K (get a) := (f.at hg).ld1 K
end
theorem splice_mid {pre mid post new : List Value} {o : Nat} (ho : pre.length = o) (hl : new.length = mid.length) : splice (pre ++ mid ++ post).toArray o new = (pre ++ new ++ post).toArray := by
  subst ho
  apply Array.ext'
  simp only [splice, List.append_assoc, List.take_left' rfl]
  rw [← List.drop_drop, List.drop_left' rfl, List.drop_left' hl.symm]
section
variable {α β : Type} {r : Rdr α} {s : Rdr β} {off : Nat} {get : α → β} {set : α → β → α} {g : Nat} {a : α} {t : TypeId} {w0 w : World} {As : List Asn} {K : World → Prop}
theorem Fld.stN (f : Fld r s off get set) {b : β} (hs : Sep w0 w (blk g (r.cells a).toArray t :: As)) (h1 : ∀ u ∈ s.cells b, u.oneCell' = true)
    (h : ∀ w', Sep w0 w' (blk g (r.cells (set a b)).toArray t :: As) → K w') : Go.Fx.stN s.size (.pointer (some ⟨g, off, none⟩)) (.agg (s.cells b).toArray) w K := by
  obtain ⟨pre, post, e1, e2, e3⟩ := f.spec a b
  have hl := s.len b
  have hl2 := s.len (get a)
  rw [e1] at hs
  rw [e2] at h
  refine stN_s hs (by simpa using hl) (by simp; omega) (by simpa using h1) fun w' hs' => h w' ?_
  have := splice_mid (post := post) e3 (show (s.cells b).length = (s.cells (get a)).length by omega)
  simp only [this] at hs'
  exact hs'
theorem Fld.st1 {get : α → Value} {set : α → Value → α} (f : Fld r qv off get set) {b : Value} (hs : Sep w0 w (blk g (r.cells a).toArray t :: As)) (h1 : b.oneCell' = true)
    (h : ∀ w', Sep w0 w' (blk g (r.cells (set a b)).toArray t :: As) → K w') : Go.Fx.st1 (.pointer (some ⟨g, off, none⟩)) b w K := by
  obtain ⟨pre, post, e1, e2, e3⟩ := f.spec a b
  rw [e1] at hs
  rw [e2] at h
  refine st1_s hs (by simp [qv]; omega) h1 fun w' hs' => h w' ?_
  have e : (pre ++ qv.cells (get a) ++ post).toArray.setIfInBounds off b = (pre ++ qv.cells b ++ post).toArray := by
    apply Array.ext'
    subst e3
    simp [qv, List.set_append]
  rw [e] at hs'
  exact hs'
end

/-! ### Rows of slices -/
section
variable {α β : Type} {q : Rdr α} {w0 w : World} {As : List Asn}
/-- A slice that reads as these rows. -/
def Rows' (q : Rdr α) (h : Heap) (v : Value) (l : List α) : Prop := Cel h v q.size l.length (l.flatMap q.cells)
theorem Rows'.fr {w w' : World} {v : Value} {l : List α} (h : Rows' q w.heap v l) (hf : Fr [] w w') : Rows' q w'.heap v l := Cel.fr h hf (off_nil _)
theorem Rows'.len {h : Heap} {v : Value} {l : List α} (hr : Rows' q h v l) (K : Value → Prop) : lenS v K = K (.int .i64 l.length) := by
  obtain ⟨a, c, rfl, _⟩ := hr
  exact lenS_mk a _ c K
/-- A slice of rows that the call owns. -/
def rows (q : Rdr α) (v : Value) (l : List α) : Asn := own v q.size l.length (l.flatMap q.cells)
theorem Sep.rows {v : Value} {l : List α} (h : Sep w0 w (rows q v l :: As)) : Rows' q w.heap v l := Sep.cel h
theorem At.of {h : Heap} {g o n c : Nat} {l : List α} {j : Nat} {a : α} (hp : 0 < q.size) (hc : Cel h (.slice (some ⟨g, o, none⟩) n c) q.size l.length (l.flatMap q.cells)) (hj : l[j]? = some a) : At h g (o + j * q.size) (q.cells a) := by
  obtain ⟨a', c', hv, hl, hh⟩ := hc
  cases hv
  have hlt := (List.getElem?_eq_some_iff.1 hj).1
  have hb : j * q.size + q.size ≤ l.length * q.size := by rw [← Nat.succ_mul]; exact Nat.mul_le_mul_right _ hlt
  rcases hh with h0 | ⟨g', o', cur, t, fr, ha, hg, hcs⟩
  · omega
  · cases ha
    have hlen := congrArg List.length hcs
    simp only [List.length_take, List.length_drop, Array.length_toList] at hlen
    refine ⟨cur, t, fr, hg, by rw [q.len]; omega, ?_⟩
    have hp := part_at q.len hj
    rw [← hcs] at hp
    rw [q.len]
    rw [List.drop_take, List.drop_drop, List.take_take, Nat.min_eq_left (by omega)] at hp
    exact hp
/-- What has an element stands somewhere. -/
theorem Rows'.form {h : Heap} {v : Value} {l : List α} {j : Nat} {a : α} (hp : 0 < q.size) (hr : Rows' q h v l) (hj : l[j]? = some a) : ∃ g o c, v = .slice (some ⟨g, o, none⟩) l.length c := by
  obtain ⟨a', c', hv, hl, hh⟩ := hr
  have hlt := (List.getElem?_eq_some_iff.1 hj).1
  have hb : 0 < l.length * q.size := Nat.mul_pos (by omega) hp
  rcases hh with h0 | ⟨g', o', cur, t, fr, ha, hg, hcs⟩
  · omega
  · exact ⟨g', o', c', by rw [hv, ha]⟩
/-- 'l[j]': its address, and what stands there. -/
theorem Rows'.ix {h : Heap} {v : Value} {l : List α} {j : Nat} {a : α} (hp : 0 < q.size) (hr : Rows' q h v l) (hj : l[j]? = some a) : ∃ g o, At h g o (q.cells a) ∧ ∀ (k : IntKind) (K : Value → Prop), ixs q.size v (.int k (j : Int)) K = K (.pointer (some ⟨g, o, none⟩)) := by
  obtain ⟨g, o, c, rfl⟩ := hr.form hp hj
  have hlt := (List.getElem?_eq_some_iff.1 hj).1
  exact ⟨g, o + j * q.size, At.of hp hr hj, fun k K => by rw [ixs_mk _ _ _ _ _ _ _ _ (by omega) (by omega), Int.toNat_natCast]⟩
/-- 'l[j]', all its cells. -/
theorem Rows'.ldN {v : Value} {l : List α} {j : Nat} {a : α} (hp : 0 < q.size) (hr : Rows' q w.heap v l) (hj : l[j]? = some a) (k : IntKind) {K : Value → Prop} (h : K (.agg (q.cells a).toArray)) :
    ixs q.size v (.int k (j : Int)) fun t => ldN q.size t w.heap K := by
  obtain ⟨g, o, ha, hx⟩ := hr.ix hp hj
  rw [hx, ha.ldN (q.len _)]
  exact h
theorem Rows'.ld1 {q : Rdr Value} {v : Value} {l : List Value} {j : Nat} {a : Value} (hr : Rows' qv w.heap v l) (hj : l[j]? = some a) (k : IntKind) {K : Value → Prop} (h : K a) :
    ixs 1 v (.int k (j : Int)) fun t => ld1 t w.heap K := by
  obtain ⟨g, o, ha, hx⟩ := hr.ix (by decide) hj
  have hx' : ∀ K, ixs 1 v (.int k (j : Int)) K = K (.pointer (some ⟨g, o, none⟩)) := hx k
  rw [hx', At.ld1 ha]
  exact h
theorem flatMap_set {l : List α} {j : Nat} {a b : α} (hj : l[j]? = some a) : ∃ pre post, l.flatMap q.cells = pre ++ q.cells a ++ post ∧ (l.set j b).flatMap q.cells = pre ++ q.cells b ++ post ∧ pre.length = j * q.size := by
  have hlt := (List.getElem?_eq_some_iff.1 hj).1
  refine ⟨(l.take j).flatMap q.cells, (l.drop (j + 1)).flatMap q.cells, ?_, ?_, ?_⟩
  · conv => lhs; rw [← List.take_append_drop j l, List.drop_eq_getElem_cons hlt]
    have : l[j] = a := by rw [List.getElem?_eq_getElem hlt] at hj; simpa using hj
    rw [List.flatMap_append, List.flatMap_cons, this, List.append_assoc]
  · rw [List.set_eq_take_append_cons_drop, if_pos hlt, List.flatMap_append, List.flatMap_cons, List.append_assoc]
  · rw [parts_length q.len, List.length_take, Nat.min_eq_left (by omega)]
theorem rows_app {P : Program} {t tx ty E bytes : Nat} {d : TypeDesc} {s x : Value} {l m : List α} {K : Value → World → Prop}
    (hT : SlT P t E q.size bytes) (hx : P.underlying tx = some d) (hd : ∀ k, d ≠ .int k) (hs : Sep w0 w (Go.Fx.rows q s l :: As)) (hn : Rows' q w.heap x m) (h1 : ∀ u ∈ m.flatMap q.cells, u.oneCell' = true)
    (hb : (l.length + m.length) * bytes ≤ 140737488355328) (h63 : l.length + m.length ≤ 9223372036854775807)
    (h : ∀ v' w', Sep w0 w' (Go.Fx.rows q v' (l ++ m) :: As) → K v' w') : efP P (Builtin.append_ #[t, tx] ty #[s, x]) w K := by
  refine app_s hT hx hd hs hn h1 hb h63 fun v' w' hs' => h v' w' ?_
  unfold Go.Fx.rows
  rw [List.length_append, List.flatMap_append]
  exact hs'
theorem Sep.nilR (h : Sep w0 w As) : Sep w0 w (Go.Fx.rows q (.slice none 0 0) [] :: As) := h.nilN q.size
theorem rows_build {P : Program} {s : Sem Value} {l : List α} {E n : Nat} {K : Value → World → Prop} (hs : Sep w0 w As) (hn : n = l.length)
    (hr : s.run P w = .ok (.slice (some ⟨w.heap.size, 0, none⟩) n n) (w.alloc (.cells (l.flatMap q.cells).toArray E)))
    (h : ∀ g w', Sep w0 w' (Go.Fx.rows q (.slice (some ⟨g, 0, none⟩) n n) l :: As) → K (.slice (some ⟨g, 0, none⟩) n n) w') : efP P s w K := by
  subst hn
  exact build_s (size := q.size) hs (parts_length q.len l) hr h
theorem Sep.formR {v : Value} {l : List α} (h : Sep w0 w (Go.Fx.rows q v l :: As)) : ∃ a c, v = .slice a l.length c ∧ l.length ≤ c := by
  obtain ⟨F, hl, ⟨rfl, h0, rfl⟩ | ⟨g, o, cap, cur, E, rfl, hn, hg, hfit, hc, rfl⟩⟩ := h.head
  · exact ⟨none, 0, by rw [h0], by omega⟩
  · exact ⟨_, cap, rfl, hn⟩
theorem Sep.oneR {v : Value} {l : List α} (h : Sep w0 w (Go.Fx.rows q v l :: As)) : v.oneCell' = true := by obtain ⟨a, c, rfl, _⟩ := h.formR; rfl
end

/-! ### Values that are built -/
theorem foldl_set : ∀ (cs : List Value) (k off : Nat) (cur : Array Value), off + k + cs.length ≤ cur.size → (cs.zipIdx k).foldl (fun c (x : Value × Nat) => c.setIfInBounds (off + x.2) x.1) cur = splice cur (off + k) cs
  | [], k, off, cur, _ => by apply Array.ext'; simp [splice]
  | c :: cs, k, off, cur, h => by
    rw [List.zipIdx_cons, List.foldl_cons, foldl_set cs (k + 1) off _ (by simp at h ⊢; omega)]
    apply Array.ext'
    simp only [splice, Array.toList_setIfInBounds, List.length_cons] at h ⊢
    have h' : off + k < cur.toList.length := by simp at h ⊢; omega
    rw [show off + (k + 1) = off + k + 1 by omega, List.take_add_one, List.take_set_of_le (Nat.le_refl _), List.getElem?_set_self h', List.drop_set_of_lt (by omega)]
    simp [Nat.add_assoc, Nat.add_comm 1]
theorem fill_step {α β : Type} {r : Rdr α} {s : Rdr β} {off : Nat} {get : α → β} {set : α → β → α} (f : Fld r s off get set) {place : Nat → Option (Nat × Nat)} {i : Nat} {a : α} {b : β} {v : Value} {rest : List (Nat × Value)}
    (hp : place i = some (off, s.size)) (hv : v.cells = (s.cells b).toArray) : Instr.fill place (r.cells a).toArray ((i, v) :: rest) = Instr.fill place (r.cells (set a b)).toArray rest := by
  obtain ⟨pre, post, e1, e2, e3⟩ := f.spec a b
  have hl := s.len b
  have hl2 := s.len (get a)
  have hsz : v.cells.size = s.size := by rw [hv]; simpa using hl
  have hn : ¬ ((v.cells.size ≠ s.size) || decide (off + v.cells.size > (r.cells a).toArray.size)) = true := by
    simp [hsz, e1]; omega
  rw [Instr.fill, hp]
  simp only
  rw [if_neg (by simpa using hn)]
  have : (v.cells.zipIdx.foldl (fun cs x => cs.setIfInBounds (off + x.2) x.1) (r.cells a).toArray) = (r.cells (set a b)).toArray := by
    rw [hv]
    have h1 := foldl_set (s.cells b) 0 off (r.cells a).toArray (by simp [e1]; omega)
    rw [Nat.add_zero] at h1
    have h2 := splice_mid (post := post) e3 (show (s.cells b).length = (s.cells (get a)).length by omega)
    rw [e2, ← h2, ← e1, ← h1]
    simp [← Array.foldl_toList]
  rw [← this]
theorem rd_build {P : Program} {t : TypeId} {α : Type} {r : Rdr α} {a : α} {parts : Array (Nat × Value)} {w : World} (h : P.built t parts.toList = some (r.cells a).toArray) (K : Value → Prop) : rdP P (Instr.build t parts) w K = K (.agg (r.cells a).toArray) :=
  rdP_eq (run_build w t parts _ h) K
theorem built_struct {P : Program} {t : TypeId} {α : Type} {r : Rdr α} {a0 : α} {places : Array (Nat × Nat)} {parts : List (Nat × Value)} {fs : Array Field}
    (hi : ((P.info? t).bind fun it => it.zero.map fun z => z.cells) = some (r.cells a0).toArray) (hu : P.underlying t = some (.struct fs)) (hp : (fs.toList.mapM fun f => (P.info? f.type).map fun i => (f.offset, i.size)) = some places.toList) :
    P.built t parts = Instr.fill (places[·]?) (r.cells a0).toArray parts := by
  unfold Program.built
  cases hit : P.info? t with
  | none => simp [hit] at hi
  | some it =>
    cases hz : it.zero with
    | none => simp [hit, hz] at hi
    | some z =>
      simp [hit, hz] at hi
      simp [hu, hp, hz, hi]

/-! ### Equality -/
def vOf (ag : Bool) (cs : List Value) : Value := bif ag then .agg cs.toArray else cs.headD undef
/-- Values of a type are compared as what they read as. -/
structure EqT (P : Program) (t : TypeId) {α : Type} (r : Rdr α) [DecidableEq α] (ag : Bool) (dep : Nat) : Prop where
  agg : aggr P t = some ag
  siz : size? P t = some r.size
  one : ag = false → r.size = 1
  eq : ∀ (d : Nat), dep ≤ d → ∀ (w : World) (a b : α), (Op.equalIn d t (vOf ag (r.cells a)) (vOf ag (r.cells b))).run P w = .ok (decide (a = b)) w
section
variable {P : Program}
theorem eqT_int {t : TypeId} {k : IntKind} (hu : P.underlying t = some (.int k)) (hs : size? P t = some 1) : EqT P t (rInt k) false 1 where
  agg := by simp [aggr, hu]
  siz := hs
  one _ := rfl
  eq d hd w a b := by
    obtain ⟨d, rfl⟩ : ∃ e, d = e + 1 := ⟨d - 1, by omega⟩
    simp [vOf, rInt, Op.equalIn, run_underlying hu]
    by_cases h : a = b <;> simp [h]
theorem runPart {t : TypeId} {α : Type} {r : Rdr α} [DecidableEq α] {ag : Bool} {dep : Nat} (h : EqT P t r ag dep) {xs : Array Value} {off : Nat} {a : α} {rest : List Value} (hx : xs.toList.drop off = r.cells a ++ rest) (w : World) :
    (part t xs off).run P w = .ok (vOf ag (r.cells a)) w := by
  have hl := r.len a
  have hlen := congrArg List.length hx
  simp only [List.length_drop, Array.length_toList, List.length_append, hl] at hlen
  unfold part
  have hag := h.agg
  cases ag with
  | true =>
    have e : xs.extract off (off + r.size) = (r.cells a).toArray := by
      apply Array.ext'
      rw [Array.toList_extract]
      simp only [List.extract_eq_take_drop]
      rw [Nat.add_sub_cancel_left, hx, List.take_left' hl]
    have hn : r.size = 0 ∨ off + r.size ≤ xs.size := by omega
    rcases hn with h0 | h0
    · rw [h0, Nat.add_zero] at e
      simp [run_isAgg hag, run_sizeOf h.siz, h0, vOf]
      rw [e]
    · simp [run_isAgg hag, run_sizeOf h.siz, e, vOf]
  | false =>
    have h1 := h.one rfl
    obtain ⟨v, hv⟩ : ∃ v, r.cells a = [v] := by
      match hc : r.cells a, hl with
      | [v], _ => exact ⟨v, rfl⟩
      | [], h => simp at h; omega
      | _ :: _ :: _, h => simp at h; omega
    have e : xs[off]? = some v := by
      have : (xs.toList.drop off)[0]? = some v := by rw [hx, hv]; rfl
      simpa using this
    simp [run_isAgg hag, e, vOf, hv]
theorem loop_eq {e n : Nat} (hu : P.underlying e = some (.int .u8)) (hs : size? P e = some 1) (d : Nat) (xs ys : List UInt8) (hx : xs.length = n) (hy : ys.length = n) (w : World) : ∀ (k i : Nat), i + k = n → xs.take i = ys.take i →
    (forIn (List.range' i k) ((none, ()) : Option Bool × PUnit) (fun i r => (do
      if !(← Op.equalIn (d + 1) e (← part e (bvs xs).toArray (i * 1)) (← part e (bvs ys).toArray (i * 1))) then pure (ForInStep.done (some false, ())) else pure (ForInStep.yield (none, ())) : Sem (ForInStep (Option Bool × PUnit))))).run P w = .ok (if xs = ys then (none, ()) else (some false, ())) w := by
  have hag : aggr P e = some false := by simp [aggr, hu]
  intro k
  induction k with
  | zero =>
    intro i hi ht
    have : xs = ys := by rw [← List.take_of_length_le (show xs.length ≤ i by omega), ht, List.take_of_length_le (by omega)]
    simp [this]
  | succ k ih =>
    intro i hi ht
    obtain ⟨a, ha⟩ : ∃ a, xs[i]? = some a := ⟨_, List.getElem?_eq_getElem (by omega)⟩
    obtain ⟨b, hb⟩ : ∃ b, ys[i]? = some b := ⟨_, List.getElem?_eq_getElem (by omega)⟩
    have h1 : (part e (bvs xs).toArray (i * 1)).run P w = .ok (bv a) w := by simp [part, run_isAgg hag, bvs, ha]
    have h2 : (part e (bvs ys).toArray (i * 1)).run P w = .ok (bv b) w := by simp [part, run_isAgg hag, bvs, hb]
    have h3 : (Op.equalIn (d + 1) e (bv a) (bv b)).run P w = .ok (decide (a = b)) w := by
      simp [bv, Op.equalIn, run_underlying hu]
      by_cases h : a = b
      · simp [h]
      · have : a.toNat ≠ b.toNat := fun h' => h (UInt8.toNat_inj.1 h')
        simp [h]; omega
    rw [List.range'_succ, List.forIn_cons]
    simp only [Sem.run_bind, h1, h2, h3, Result.andThen_ok]
    by_cases hab : a = b
    · simp only [hab, decide_true, Bool.not_true, Bool.false_eq_true, if_false, Sem.run_pure, Result.andThen_ok]
      exact ih (i + 1) (by omega) (by rw [List.take_add_one, List.take_add_one, ht, ha, hb, hab])
    · have hne : xs ≠ ys := fun h => by rw [h, hb] at ha; cases ha; exact hab rfl
      simp [hab, hne]
theorem eqT_vec {t e n : Nat} (ht : P.underlying t = some (.array n e)) (hu : P.underlying e = some (.int .u8)) (hs : size? P e = some 1) (hn : size? P t = some n) : EqT P t (rVec n) true 2 where
  agg := by simp [aggr, ht]
  siz := hn
  one h := by cases h
  eq d hd w a b := by
    obtain ⟨d, rfl⟩ : ∃ e, d = e + 1 + 1 := ⟨d - 2, by omega⟩
    have h := loop_eq hu hs d a.1 b.1 a.2 b.2 w n 0 (by omega) (by simp)
    simp only [vOf, cond_true, rVec]
    rw [Op.equalIn]
    simp only [Sem.run_bind, run_underlying ht, Result.andThen_ok, run_sizeOf hs, Std.Legacy.Range.forIn_eq_forIn_range', Std.Legacy.Range.size, Nat.sub_zero, Nat.add_sub_cancel, Nat.div_one]
    rw [h]
    by_cases hab : a = b
    · have : a.1 = b.1 := by rw [hab]
      simp [hab]
    · have : a.1 ≠ b.1 := fun h' => hab (Subtype.ext h')
      simp [hab, this]
def EqF (P : Program) (l : List (TypeId × Nat)) (off : Nat) {α : Type} (r : Rdr α) [DecidableEq α] (dep : Nat) : Prop :=
  ∀ (fs : List Field), fs.map (fun f => (decide (f.name ≠ "_"), f.type, f.offset)) = l.map (fun x => (true, x.1, x.2)) → ∀ (d : Nat), dep ≤ d → ∀ (w : World) (xs ys : Array Value) (a b : α),
    xs.toList.drop off = r.cells a → ys.toList.drop off = r.cells b → (Op.eqFields d xs ys fs).run P w = .ok (decide (a = b)) w
theorem eqF_last {t off dep : Nat} {α : Type} {r : Rdr α} [DecidableEq α] {ag : Bool} (h : EqT P t r ag dep) : EqF P [(t, off)] off r dep := by
  intro fs hfs d hd w xs ys a b hx hy
  cases fs with
  | nil => simp at hfs
  | cons f fs =>
    cases fs with
    | cons g fs => simp at hfs
    | nil =>
      simp only [List.map_cons, List.map_nil, List.cons.injEq, Prod.mk.injEq, and_true, decide_eq_true_eq] at hfs
      obtain ⟨hn, ht, ho⟩ := hfs
      simp only [Op.eqFields, if_pos hn, ht, ho, Sem.run_bind, runPart h (rest := []) (by simpa using hx) w, runPart h (rest := []) (by simpa using hy) w, h.eq d hd, Result.andThen_ok]
      by_cases hab : a = b <;> simp [hab]
theorem eqF_cons {t off dep : Nat} {l : List (TypeId × Nat)} {α β : Type} {r : Rdr α} {s : Rdr β} [DecidableEq α] [DecidableEq β] {ag : Bool} (h : EqT P t r ag dep) (hs : EqF P l (off + r.size) s dep) : EqF P ((t, off) :: l) off (r.pair s) dep := by
  intro fs hfs d hd w xs ys a b hx hy
  cases fs with
  | nil => simp at hfs
  | cons f fs =>
    simp only [List.map_cons, List.cons.injEq, Prod.mk.injEq, decide_eq_true_eq] at hfs
    obtain ⟨⟨hn, ht, ho⟩, hrest⟩ := hfs
    have hx2 : xs.toList.drop (off + r.size) = s.cells a.2 := by rw [← List.drop_drop, hx]; exact List.drop_left' (r.len _)
    have hy2 : ys.toList.drop (off + r.size) = s.cells b.2 := by rw [← List.drop_drop, hy]; exact List.drop_left' (r.len _)
    simp only [Op.eqFields, if_pos hn, ht, ho, Sem.run_bind, runPart h (a := a.1) (rest := s.cells a.2) hx w, runPart h (a := b.1) (rest := s.cells b.2) hy w, h.eq d hd, Result.andThen_ok]
    by_cases hab : a.1 = b.1
    · simp only [hab, decide_true, Bool.not_true, Bool.false_eq_true, if_false]
      rw [hs fs hrest d hd w xs ys a.2 b.2 hx2 hy2]
      congr 1
      by_cases h2 : a.2 = b.2
      · have : a = b := Prod.ext hab h2
        simp [this]
      · have : a ≠ b := fun h => h2 (by rw [h])
        simp [this, h2]
    · have : a ≠ b := fun h => hab (by rw [h])
      simp [hab, this]
theorem eqT_struct {t dep : Nat} {l : List (TypeId × Nat)} {α : Type} {r : Rdr α} [DecidableEq α] (hu : P.underlying t = some (.struct (P.fieldsOf t))) (hp : P.stoodInHeld t = false)
    (hf : (P.fieldsOf t).toList.map (fun f => (decide (f.name ≠ "_"), f.type, f.offset)) = l.map (fun x => (true, x.1, x.2))) (hs : size? P t = some r.size) (h : EqF P l 0 r dep) : EqT P t r true (dep + 1) where
  agg := by simp [aggr, hu]
  siz := hs
  one h := by cases h
  eq d hd w a b := by
    obtain ⟨d, rfl⟩ : ∃ e, d = e + 1 := ⟨d - 1, by omega⟩
    simp only [vOf, cond_true]
    rw [run_equalIn_struct w d t _ _ hu hp]
    exact h _ hf d (by omega) w _ _ a b (by simp) (by simp)
theorem eqS_agg {t dep : Nat} {α : Type} {r : Rdr α} [DecidableEq α] {x y : Operand} {w : World} {a b : α} (h : EqT P t r true dep) (hd : dep ≤ 10000) (hg : P.eqGuardType P.depth t = false) (K : Value → Prop) :
    rdP P (eqS .eql t x y (.agg (r.cells a).toArray) (.agg (r.cells b).toArray)) w K = K (.bool (decide (a = b))) := by
  refine rdP_eq ?_ K
  have h2 := h.eq 10000 hd w a b
  simp only [vOf, cond_true] at h2
  simp only [eqS, Sem.run_bind, run_eqGuard_agg w .eql t x y _ _ hg, Result.andThen_ok, run_eql_struct, h2]
theorem neS_agg {t dep : Nat} {α : Type} {r : Rdr α} [DecidableEq α] {x y : Operand} {w : World} {a b : α} (h : EqT P t r true dep) (hd : dep ≤ 10000) (hg : P.eqGuardType P.depth t = false) (K : Value → Prop) :
    rdP P (eqS .neq t x y (.agg (r.cells a).toArray) (.agg (r.cells b).toArray)) w K = K (.bool (!decide (a = b))) := by
  refine rdP_eq ?_ K
  have h2 := h.eq 10000 hd w a b
  simp only [vOf, cond_true] at h2
  simp only [eqS, Sem.run_bind, run_eqGuard_agg w .neq t x y _ _ hg, Result.andThen_ok, run_neq_struct, h2]
end
theorem oneV {v : Value} (h : v.oneCell' = true) : ∀ u ∈ qv.cells v, u.oneCell' = true := by simpa [qv] using h
theorem oneI {k : IntKind} {n : Int} : ∀ u ∈ (rInt k).cells n, u.oneCell' = true := by simp [rInt, Value.oneCell']
theorem oneB {b : Bool} : ∀ u ∈ rBool.cells b, u.oneCell' = true := by simp [rBool, Value.oneCell']
theorem oneVec {n : Nat} {a : Vec n} : ∀ u ∈ (rVec n).cells a, u.oneCell' = true := bvs_one _
theorem onePair {α β : Type} {r : Rdr α} {s : Rdr β} {a : α × β} (h1 : ∀ u ∈ r.cells a.1, u.oneCell' = true) (h2 : ∀ u ∈ s.cells a.2, u.oneCell' = true) : ∀ u ∈ (r.pair s).cells a, u.oneCell' = true := fun u hu => by
  rcases List.mem_append.1 hu with hu | hu
  · exact h1 u hu
  · exact h2 u hu
theorem Fld.ldI {α : Type} {r : Rdr α} {k : IntKind} {off : Nat} {get : α → Int} {set : α → Int → α} {h : Heap} {g : Nat} {a : α} {t : TypeId} {fr : Nat × Nat} (f : Fld r (rInt k) off get set) (hg : h[g]? = some (.cells (r.cells a).toArray t fr)) (K : Value → Prop) :
    Go.Fx.ld1 (.pointer (some ⟨g, off, none⟩)) h K = K (.int k (get a)) := by
  have := (f.at (At.blk hg)).ld1 K
  rwa [Nat.zero_add] at this
theorem Fld.ldI' {α : Type} {r : Rdr α} {k : IntKind} {off o : Nat} {get : α → Int} {set : α → Int → α} {h : Heap} {g : Nat} {a : α} (f : Fld r (rInt k) off get set) (hg : At h g o (r.cells a)) (K : Value → Prop) :
    Go.Fx.ld1 (.pointer (some ⟨g, o + off, none⟩)) h K = K (.int k (get a)) := (f.at hg).ld1 K
theorem Fld.ldB {α : Type} {r : Rdr α} {off : Nat} {get : α → Bool} {set : α → Bool → α} {h : Heap} {g : Nat} {a : α} {t : TypeId} {fr : Nat × Nat} (f : Fld r rBool off get set) (hg : h[g]? = some (.cells (r.cells a).toArray t fr)) (K : Value → Prop) :
    Go.Fx.ld1 (.pointer (some ⟨g, off, none⟩)) h K = K (.bool (get a)) := by
  have := (f.at (At.blk hg)).ld1 K
  rwa [Nat.zero_add] at this
theorem Fld.stV {α β : Type} {r : Rdr α} {s : Rdr β} {off g : Nat} {get : α → β} {set : α → β → α} {a : α} {b : β} {v : Value} {t : TypeId} {w0 w : World} {As : List Asn} {K : World → Prop} (f : Fld r s off get set) (hv : s.cells b = [v])
    (hs : Sep w0 w (blk g (r.cells a).toArray t :: As)) (h1 : v.oneCell' = true) (h : ∀ w', Sep w0 w' (blk g (r.cells (set a b)).toArray t :: As) → K w') : Go.Fx.st1 (.pointer (some ⟨g, off, none⟩)) v w K := by
  obtain ⟨pre, post, e1, e2, e3⟩ := f.spec a b
  have hl : (s.cells (get a)).length = 1 := by rw [s.len, ← s.len b, hv]; rfl
  obtain ⟨u, hu⟩ : ∃ u, s.cells (get a) = [u] := by
    match s.cells (get a), hl with
    | [u], _ => exact ⟨u, rfl⟩
  rw [e1, hu] at hs
  rw [e2, hv] at h
  refine st1_s hs (by simp; omega) h1 fun w' hs' => h w' ?_
  have e : (pre ++ [u] ++ post).toArray.setIfInBounds off v = (pre ++ [v] ++ post).toArray := by
    apply Array.ext'
    subst e3
    simp [List.set_append]
  rw [e] at hs'
  exact hs'
theorem eqT_up {P : Program} {t dep dep' : Nat} {α : Type} {r : Rdr α} [DecidableEq α] {ag : Bool} (h : EqT P t r ag dep) (hd : dep ≤ dep') : EqT P t r ag dep' := ⟨h.agg, h.siz, h.one, fun d hd' => h.eq d (Nat.le_trans hd hd')⟩
theorem cells_one {v : Value} (h : v.oneCell' = true) : v.cells = (qv.cells v).toArray := by
  cases v <;> simp_all [Value.cells, Value.oneCell', qv]
/-- A row's field, read in a region that draws. -/
theorem rdS_row {α β : Type} {q : Rdr α} {s : Rdr β} {off : Nat} {get : α → β} {set : α → β → α} (f : Fld q s off get set) {S : World → Prop} {w : World} {v u : Value} {l : List α} {j : Nat} {a : α} {K : Value → Prop} (hc : s.cells (get a) = [u]) (hp : 0 < q.size)
    (hw : S w) (hS : ∀ u, S u → Rows' q u.heap v l) (hj : l[j]? = some a) (k : IntKind) (h : K u) : ixs q.size v (.int k (j : Int)) fun t => fad off t fun p => rdS S (fun w => Go.Fx.ld1 p w.heap) K := by
  obtain ⟨g, o, c, rfl⟩ := (hS w hw).form hp hj
  have hlt := (List.getElem?_eq_some_iff.1 hj).1
  rw [ixs_mk _ _ _ _ _ _ _ _ (by omega) (by omega), Int.toNat_natCast, fad_mk]
  refine ⟨u, fun z hz => ?_, h⟩
  have hat := f.at (At.of hp (hS z hz) hj)
  rw [hc] at hat
  show Go.Fx.ld1 _ z.heap _
  rw [hat.ld1]
theorem fill_rows {α : Type} {q : Rdr α} {V : α → Value} (hV : ∀ a, (V a).cells = (q.cells a).toArray) : ∀ (l : List α) (k : Nat) (cur : Array Value), cur.size = (k + l.length) * q.size →
    Instr.fill (fun i => some (i * q.size, q.size)) cur ((l.zipIdx k).map fun x => (x.2, V x.1)) = some (cur.toList.take (k * q.size) ++ l.flatMap q.cells).toArray
  | [], k, cur, h => by
    simp only [List.length_nil, Nat.add_zero] at h
    simp only [List.zipIdx_nil, List.map_nil, Instr.fill, List.flatMap_nil, List.append_nil, ← h]
    congr 1
    apply Array.ext'
    rw [List.take_of_length_le (by simp)]
  | a :: l, k, cur, h => by
    simp only [List.length_cons] at h
    have hm : (k + (l.length + 1)) * q.size = k * q.size + q.size + l.length * q.size := by rw [Nat.add_mul, Nat.add_mul]; omega
    have hl := q.len a
    have hsz : (V a).cells.size = q.size := by rw [hV]; simpa using hl
    rw [List.zipIdx_cons, List.map_cons, Instr.fill]
    simp only
    have hn : ¬ ((V a).cells.size ≠ q.size || decide (k * q.size + (V a).cells.size > cur.size)) = true := by
      simp [hsz]; omega
    rw [if_neg (by simpa using hn)]
    have e : (V a).cells.zipIdx.foldl (fun cs x => cs.setIfInBounds (k * q.size + x.2) x.1) cur = splice cur (k * q.size) (q.cells a) := by
      rw [hV]
      have h1 := foldl_set (q.cells a) 0 (k * q.size) cur (by omega)
      rw [Nat.add_zero] at h1
      rw [← h1]
      simp [← Array.foldl_toList]
    have hs2 : (splice cur (k * q.size) (q.cells a)).size = (k + 1 + l.length) * q.size := by
      simp only [splice, List.size_toArray, List.length_append, List.length_take, List.length_drop, Array.length_toList, hl]
      have : (k + 1 + l.length) * q.size = k * q.size + q.size + l.length * q.size := by rw [Nat.add_mul, Nat.add_mul]; omega
      omega
    rw [e, fill_rows hV l (k + 1) _ hs2]
    congr 2
    rw [List.flatMap_cons, ← List.append_assoc]
    congr 1
    simp only [splice]
    rw [Nat.add_mul, Nat.one_mul, List.take_append_of_le_length (by simp [hl]; omega)]
    rw [List.take_append, List.take_of_length_le (by simp; omega)]
    congr 1
    rw [List.take_of_length_le (by simp [hl]; omega)]
/-- '[]T{a, b, ..}'. -/
theorem rows_lit {α : Type} {q : Rdr α} {P : Program} {T E bytes n : Nat} {l : List α} {V : α → Value} {parts : Array (Nat × Value)} {w0 w : World} {As : List Asn} {K : Value → World → Prop} (hs : Sep w0 w As) (hT : SlT P T E q.size bytes)
    (hV : ∀ a, (V a).cells = (q.cells a).toArray) (hp : parts.toList = l.zipIdx.map fun x => (x.2, V x.1)) (hn : n = l.length) (h0 : 0 < n) (hmax : n * q.size ≤ 16777216)
    (h : ∀ g w', Sep w0 w' (Go.Fx.rows q (.slice (some ⟨g, 0, none⟩) n n) l :: As) → K (.slice (some ⟨g, 0, none⟩) n n) w') : efP P (Instr.buildSlice T n parts) w K := by
  obtain ⟨i, z, hi, hsz, hby, hz, hzc⟩ := slT_info hT
  refine rows_build (E := E) hs hn ?_ h
  have hpos : ¬ n * q.size = 0 := by have := Nat.mul_pos h0 hT.pos; omega
  have hf := fill_rows hV l 0 ((Array.range (n * q.size)).map fun j => z.cells[j % z.cells.size]!) (by simp [hn])
  simp only [Nat.zero_mul, List.take_zero, List.nil_append] at hf
  have hle : ¬ n * q.size > 2 ^ 24 := by omega
  simp only [Instr.buildSlice, Sem.run_bind, run_underlying hT.und, Result.andThen_ok, run_sizeOf hT.siz, if_neg hle, if_neg hpos, Sem.run_pure]
  simp only [zeroValue, typeInfo, hi, hz, Sem.run_bind, run_program, Result.andThen_ok, Sem.run_pure, hp, hf]
  simp [newRow, hi, hz, hp, hf]
theorem rows_stV {α β : Type} {q : Rdr α} {s : Rdr β} {w0 w : World} {As : List Asn} {off off' : Nat} {get : α → β} {set : α → β → α} (f : Fld q s off get set) {g o c j : Nat} {l : List α} {a : α} {b : β} {u : Value} {K : World → Prop} (hcu : s.cells b = [u])
    (hs : Sep w0 w (Go.Fx.rows q (.slice (some ⟨g, o, none⟩) l.length c) l :: As)) (hj : l[j]? = some a) (hoff : off' = o + j * q.size + off) (h1 : u.oneCell' = true)
    (h : ∀ w', Sep w0 w' (Go.Fx.rows q (.slice (some ⟨g, o, none⟩) l.length c) (l.set j (set a b)) :: As) → K w') : st1 (.pointer (some ⟨g, off', none⟩)) u w K := by
  subst hoff
  obtain ⟨F, ho, hu⟩ := hs.upd
  have hlt := (List.getElem?_eq_some_iff.1 hj).1
  obtain ⟨pre, post, e1, e2, e3⟩ := f.spec a b
  obtain ⟨pre', post', d1, d2, d3⟩ := flatMap_set (q := q) (b := set a b) hj
  have hl1 : (s.cells (get a)).length = 1 := by rw [s.len, ← s.len b, hcu]; rfl
  obtain ⟨z, hz⟩ : ∃ z, s.cells (get a) = [z] := by
    match s.cells (get a), hl1 with
    | [z], _ => exact ⟨z, rfl⟩
  have hsz : q.size = pre.length + 1 + post.length := by rw [← q.len a, e1, hz]; simp; omega
  have hb : j * q.size + q.size ≤ l.length * q.size := by rw [← Nat.succ_mul]; exact Nat.mul_le_mul_right _ hlt
  obtain ⟨hl, ⟨hv, _⟩ | ⟨g', o', cap, cur, E, hv, hn, hg, hfit, hcs, rfl⟩⟩ := ho
  · cases hv
  · cases hv
    have hcap : l.length * q.size ≤ c * q.size := Nat.mul_le_mul_right _ hn
    refine st1_i hg (by omega) h1 fun w' hg' hf => h w' ?_
    have hll : (l.set j (set a b)).length = l.length := by simp
    refine hu w' [g] _ ?_ hf (Grew.refl _ _)
    show Own w'.heap _ q.size (l.set j (set a b)).length _ [g]
    rw [hll]
    refine ⟨by rw [parts_length q.len, hll], .inr ⟨g, o, c, _, E, rfl, hn, hg', by simpa using hfit, ?_, rfl⟩⟩
    rw [d2, e2, hcu]
    rw [d1, e1, hz] at hcs
    simp only [Array.toList_setIfInBounds]
    rw [List.drop_set, if_neg (by omega), List.take_set, hcs]
    have e : o + j * q.size + off - o = (pre' ++ pre).length := by simp; omega
    rw [e, show pre' ++ (pre ++ [z] ++ post) ++ post' = (pre' ++ pre) ++ ([z] ++ (post ++ post')) by simp, List.set_append_right _ _ (Nat.le_refl _), Nat.sub_self]
    simp
end Go.Fx
set_option linter.unusedVariables false
set_option linter.unusedSimpArgs false
namespace Go.Fx
/-- An entry: its key, its value, and when it came. -/
abbrev Ent (n : Nat) := Vec n × Value × Nat
abbrev kv {n : Nat} (k : Vec n) : Value := .agg (Rdr.cells (rVec n) k).toArray
def entM {n : Nat} (x : Ent n) : MapEntry := { key := kv x.1, val := x.2.1, born := x.2.2 }
def ents {n : Nat} (l : List (Ent n)) : Array MapEntry := (l.map entM).toArray
/-- Where a key stands, and what it has. -/
def findE {n : Nat} (k : Vec n) : List (Ent n) → Nat → Option (Nat × Value)
  | [], _ => none
  | x :: l, i => if k = x.1 then some (i, x.2.1) else findE k l (i + 1)
/-- The facts on a type of keys. -/
structure KeyT (P : Program) (T E n : Nat) : Prop where
  und : P.underlying T = some (.array n E)
  el : P.underlying E = some (.int .u8)
  siz : size? P E = some 1
  agg : aggr P E = some false
  eq : EqT P T (rVec n) true 2
section
variable {P : Program} {T E n : Nat} {w : World}
theorem run_key (hT : KeyT P T E n) (k : Vec n) (b : Bool) (d : Nat) : (Instr.checkKey b (d + 2) T (kv k)).run P w = .ok () w := by
  rw [show d + 2 = (d + 1) + 1 from rfl, Instr.checkKey]
  simp only [Sem.run_bind, run_underlying hT.und, Result.andThen_ok]
  simp only [Std.Legacy.Range.forIn_eq_forIn_range', Std.Legacy.Range.size, Nat.sub_zero, Nat.add_one_sub_one, Nat.div_one]
  have each : ∀ j ∈ List.range' 0 n, j < n := fun j hj => by simpa using hj
  generalize List.range' 0 n = is at each
  induction is with
  | nil => simp
  | cons j is ih =>
    have hj := each j (by simp)
    have hv : (Rdr.cells (rVec n) k).toArray[j]? = some (bv (k.1[j]'(by rw [k.2]; exact hj))) := by
      show (bvs k.1).toArray[j]? = _
      rw [List.getElem?_toArray]
      unfold bvs
      rw [List.getElem?_map, List.getElem?_eq_getElem (by rw [k.2]; exact hj)]
      rfl
    have p1 : (Go.part E (Rdr.cells (rVec n) k).toArray (j * 1)).run P w = .ok (bv (k.1[j]'(by rw [k.2]; exact hj))) w := by
      unfold Go.part
      simp [run_isAgg hT.agg, hv]
    have p2 : (Instr.checkKey b (d + 1) E (bv (k.1[j]'(by rw [k.2]; exact hj)))).run P w = .ok () w := by
      rw [Instr.checkKey]
      simp [run_underlying hT.el, bv]
    simp only [List.forIn_cons, Sem.run_bind, run_sizeOf hT.siz, Result.andThen_ok, p1, p2, Sem.run_pure]
    exact ih fun y hy => each y (by simp [hy])
theorem run_keyEq (hT : KeyT P T E n) (a b : Vec n) : (Op.equal T (kv a) (kv b)).run P w = .ok (decide (a = b)) w := hT.eq.eq 10000 (by decide) w a b
theorem run_find (hT : KeyT P T E n) (k : Vec n) : ∀ (l : List (Ent n)) (i : Nat), (Instr.findAsking T (kv k) (l.map entM) i).run P w = .ok (findE k l i) w
  | [], i => by simp [Instr.findAsking, findE]
  | x :: l, i => by
    rw [List.map_cons, Instr.findAsking]
    have h := run_keyEq (w := w) hT k x.1
    simp only [Sem.run_bind]
    rw [show (entM x).key = kv x.1 from rfl, h]
    simp only [Result.andThen_ok, findE]
    by_cases hk : k = x.1
    · simp [hk, entM]
    · simp only [hk, decide_false, Bool.false_eq_true, if_false]
      exact run_find hT k l (i + 1)
theorem run_findKey (hT : KeyT P T E n) (k : Vec n) (l : List (Ent n)) : (Instr.findKey T (kv k) (ents l).toList).run P w = .ok (findE k l 0) w := by
  rw [run_findKey_eq w (by rw [hT.und])]
  exact run_find hT k l 0
theorem get_map {g c : Nat} {es : Array MapEntry} (hg : w.heap[g]? = some (.map es c)) : (getObj g).run P w = .ok (.map es c) w := by simp [getObj, Sem.run, hg]
theorem set_map {g c : Nat} {es : Array MapEntry} (o : Obj) (hg : w.heap[g]? = some (.map es c)) : (setObj g o).run P w = .ok () (setBlk w g o) := by simp [setObj, Sem.run, hg, setBlk]
/-- What a key has. -/
def getE (k : Vec n) (l : List (Ent n)) : Option Value := (l.find? fun x => decide (k = x.1)).map (·.2.1)
theorem findE_get (k : Vec n) : ∀ (l : List (Ent n)) (i : Nat), (findE k l i).map (·.2) = getE k l
  | [], i => rfl
  | x :: l, i => by
    unfold findE getE
    by_cases h : k = x.1
    · simp [h]
    · simp only [h, if_false, List.find?_cons, decide_false]
      exact findE_get k l (i + 1)
theorem lookup_map {M V g c : Nat} {l : List (Ent n)} {z : Value} (hM : P.underlying M = some (.map T V)) (hT : KeyT P T E n) (hz : (zeroValue V).run P w = .ok z w) (hg : w.heap[g]? = some (.map (ents l) c)) (k : Vec n) (K : Value → Prop) :
    rdP P (Instr.lookup M (.map (some g)) (kv k) true) w K = K (.tuple #[(getE k l).getD z, .bool (getE k l).isSome]) := by
  refine rdP_eq ?_ K
  unfold Instr.lookup
  simp only [Sem.run_bind, run_underlying hM, Result.andThen_ok, get_map hg, Sem.run_pure, run_key hT k _ 9998, run_findKey hT k l]
  rw [← findE_get k l 0]
  cases h : findE k l 0 with
  | none => simp [hz]
  | some x => simp
theorem lookup_map1 {M V g c : Nat} {l : List (Ent n)} {z : Value} (hM : P.underlying M = some (.map T V)) (hT : KeyT P T E n) (hz : (zeroValue V).run P w = .ok z w) (hg : w.heap[g]? = some (.map (ents l) c)) (k : Vec n) (K : Value → Prop) :
    rdP P (Instr.lookup M (.map (some g)) (kv k) false) w K = K ((getE k l).getD z) := by
  refine rdP_eq ?_ K
  unfold Instr.lookup
  simp only [Sem.run_bind, run_underlying hM, Result.andThen_ok, get_map hg, Sem.run_pure, run_key hT k _ 9998, run_findKey hT k l]
  rw [← findE_get k l 0]
  cases h : findE k l 0 with
  | none => simp [hz]
  | some x => simp
theorem getE_none {k : Vec n} {l : List (Ent n)} (h : getE k l = none) (i : Nat) : findE k l i = none := by
  have := findE_get k l i
  rw [h] at this
  simpa using this
theorem map_erase {α β : Type} (f : α → β) : ∀ (l : List α) (i : Nat), (l.map f).eraseIdx i = (l.eraseIdx i).map f
  | [], _ => by simp
  | _ :: _, 0 => rfl
  | a :: l, i + 1 => by simp [map_erase f l i]
/-- What a key has no longer. -/
def delE (k : Vec n) (l : List (Ent n)) : List (Ent n) := match findE k l 0 with
  | some (i, _) => l.eraseIdx i
  | none => l
abbrev mp (g : Nat) (l : List (Ent n)) (c : Nat) : Asn := Asn.obj g (.map (ents l) c)
variable {w0 : World} {As : List Asn}
theorem makeMap_s {t : TypeId} {K : Value → World → Prop} (hs : Sep w0 w As) (h : ∀ g w', Sep w0 w' (mp (n := n) g [] 0 :: As) → K (.map (some g)) w') : efP P (Instr.makeMap t none) w K :=
  ⟨.map (some w.heap.size), w.alloc (.map #[] 0), rfl, h _ _ (hs.new (fr_alloc w _) (B := mp _ [] 0) ⟨alloc_new w _, rfl⟩ (by simp))⟩
theorem Sep.map {g c : Nat} {l : List (Ent n)} (hs : Sep w0 w (mp g l c :: As)) : w.heap[g]? = some (.map (ents l) c) := by
  obtain ⟨F, hF, _⟩ := hs.head
  exact hF
/-- A key that is not there yet. -/
theorem putNew_s {M V g c : Nat} {l : List (Ent n)} {k : Vec n} {v : Value} {K : World → Prop} (hM : P.underlying M = some (.map T V)) (hT : KeyT P T E n) (hs : Sep w0 w (mp g l c :: As)) (hk : getE k l = none)
    (h : ∀ w', Sep w0 w' (mp g (l ++ [(k, v, c)]) (c + 1) :: As) → K w') : efU P (Instr.mapUpdate M (.map (some g)) (kv k) v) w K := by
  have hg := hs.map
  obtain ⟨F, ⟨hb, rfl⟩, hu⟩ := hs.upd
  have e : (ents l).push (entM (k, v, c)) = ents (l ++ [(k, v, c)]) := by
    apply Array.ext'
    simp [ents]
  refine ⟨setBlk w g (.map (ents (l ++ [(k, v, c)])) (c + 1)), ?_, h _ (hu _ [g] (mp g _ _) ⟨setBlk_self w g _ _ hb, rfl⟩ (fr_setBlk w g _) (Grew.refl _ _))⟩
  unfold Instr.mapUpdate
  simp only [Sem.run_bind, run_underlying hM, Result.andThen_ok, get_map hg, run_key hT k _ 9998, run_findKey hT k l, getE_none hk 0]
  rw [← e]
  exact set_map _ hg
theorem del_s {M V g c t ty : Nat} {l : List (Ent n)} {k : Vec n} {K : Value → World → Prop} (hM : P.underlying M = some (.map T V)) (hT : KeyT P T E n) (hs : Sep w0 w (mp g l c :: As))
    (h : ∀ w', Sep w0 w' (mp g (delE k l) c :: As) → K (.tuple #[]) w') : efP P (Builtin.delete_ #[M, t] ty #[.map (some g), kv k]) w K := by
  have hg := hs.map
  obtain ⟨F, ⟨hb, rfl⟩, hu⟩ := hs.upd
  refine ⟨.tuple #[], setBlk w g (.map (ents (delE k l)) c), ?_, h _ (hu _ [g] (mp g _ _) ⟨setBlk_self w g _ _ hb, rfl⟩ (fr_setBlk w g _) (Grew.refl _ _))⟩
  unfold Builtin.delete_
  simp only [List.getElem?_toArray, List.getElem?_cons_zero, List.getElem?_cons_succ, Sem.run_bind, run_underlying hM, Result.andThen_ok, get_map hg, run_key hT k _ 9998, run_findKey hT k l]
  unfold delE
  cases hf : findE k l 0 with
  | none => simp [set_map _ hg]
  | some x =>
    obtain ⟨i, y⟩ := x
    have e : (ents l).eraseIdxIfInBounds i = ents (l.eraseIdx i) := by
      apply Array.ext'
      simp [ents, map_erase]
    simp [set_map _ hg, e]
theorem len_map {M V g c ty : Nat} {l : List (Ent n)} (hM : P.underlying M = some (.map T V)) (hg : w.heap[g]? = some (.map (ents l) c)) (hl : l.length ≤ 9223372036854775807) (K : Value → Prop) : rdP P (Builtin.len_ #[M] ty #[.map (some g)]) w K = K (.int .i64 l.length) := by
  refine rdP_eq ?_ K
  unfold Builtin.len_
  simp [run_underlying hM, get_map hg, ents, goInt]
end
end Go.Fx
set_option linter.unusedVariables false
set_option linter.unusedSimpArgs false
namespace Go.Fx
/-- No fence at all; in a function's frame, or in a round's. -/
abbrev Fw (ro : Option Nat) : Fence := { Fence.wide with round := ro }
theorem callsIn_fw {ro : Option Nat} {n : Nat} {P : Program} {f : FuncId} {args : Array Value} {w : World} {R : Ending → World → Prop} : CallsIn (Fw ro) n P f args w R ↔ Calls P f args w R :=
  callsIn_wide (n := n) (P := P) (f := f) (args := args) (w := w) (R := R)
theorem stepsIn_fw {ro : Option Nat} {P : Program} {m m' : Machine} : StepsIn (Machine.fenced P (Fw ro)) P m m' ↔ Steps P m m' := stepsIn_wide (P := P) (m := m) (m' := m')
theorem rowsIn_fw {ro : Option Nat} {n : Nat} {P : Program} {row : String} {args : Array Value} {w : World} {R : Value → World → Prop} (h : Rows P row args w R) : RowsIn (Fw ro) n P row args w R :=
  fun c cs _ => let ⟨v, w', r, s⟩ := h c cs; ⟨v, w', r, stepsIn_fw.2 s⟩
def noDefer (ops : Array Oper) : Bool := (List.range ops.size).all fun i => match ops[i]? with
  | some o => (match o.op with | .defer _ => false | _ => true)
  | none => true
theorem noDefer_spec {ops : Array Oper} (h : noDefer ops = true) {i : Nat} {o : Oper} (ho : ops[i]? = some o) : ∀ c, o.op ≠ .defer c := by
  intro c hc
  have hi := (Array.getElem?_eq_some_iff.1 ho).1
  have := List.all_eq_true.1 h i (by simpa using hi)
  simp only [ho, hc] at this
  cases this
section
variable {P : Program} {n : Nat} {ops : Array Oper} {Q : Exit → Act → World → Prop} {ro : Option Nat}
theorem oper_in {o : Oper} {a : Act} {w : World} {next : Act → World → Prop} (hd : ∀ c, o.op ≠ .defer c) (h : o.wp P a w next Q) : o.wpIn (Fw ro) 0 P a w next Q := by
  refine ⟨fun _ _ => trivial, ?_⟩
  rw [Oper.semAt_eq _ _ _ hd]
  unfold Oper.wp at h
  generalize (execOp a.eval o).run P w = r at h ⊢
  cases r with
  | ok x w' =>
    cases x <;> simp only [Oper.upon, Oper.uponIn] at h ⊢ <;>
      first
        | exact h
        | exact ⟨fun hh => by simp [Fw, Fence.wide] at hh, callsIn_fw.2 h⟩
        | exact ⟨fun hh => by simp [Fw, Fence.wide] at hh, rowsIn_fw h⟩
        | exact h.elim
  | halt x w' => cases x <;> simp only [Oper.upon, Oper.uponIn] at h ⊢ <;> exact h
theorem wpOps_in (hd : noDefer ops = true) (hQ : ¬ LetsOut Q) : ∀ (l : List Nat) (a : Act) (w : World), wpOps P ops Q l a w → wpOpsIn (Fw ro) 0 P ops Q l a w
  | [], a, w, h => h
  | i :: l, a, w, h => by
    unfold wpOps at h
    unfold wpOpsIn
    cases ho : ops[i]? with
    | none => rw [ho] at h; exact wpOps_in hd hQ l a w h
    | some o =>
      rw [ho] at h
      simp only at h ⊢
      split
      · rename_i hw
        rw [if_pos hw] at h
        rcases h with h | ⟨_, h⟩
        · exact Oper.wpIn_mono (fun a w => wpOps_in hd hQ l a w) (oper_in (noDefer_spec hd ho) h)
        · exact absurd h hQ
      · rename_i hw
        rw [if_neg hw] at h
        exact ⟨fun _ _ => trivial, wpOps_in hd hQ l _ w h⟩
theorem wpOp_in (hd : noDefer ops = true) (hQ : ¬ LetsOut Q) {i : Nat} {K K' : Act → World → Prop} (hk : ∀ a w, K a w → K' a w) {a : Act} {w : World} (h : wpOp P ops Q i K a w) : wpOpIn (Fw ro) 0 P ops Q i K' a w := by
  unfold wpOp at h
  unfold wpOpIn
  cases ho : ops[i]? with
  | none => rw [ho] at h; exact hk _ _ h
  | some o =>
    rw [ho] at h
    simp only at h ⊢
    split
    · rename_i hw
      rw [if_pos hw] at h
      rcases h with h | ⟨_, h⟩
      · exact Oper.wpIn_mono hk (oper_in (noDefer_spec hd ho) h)
      · exact absurd h hQ
    · rename_i hw
      rw [if_neg hw] at h
      exact ⟨fun _ _ => trivial, hk _ _ h⟩
theorem wpAny_in {md : Region.Mode} (hd : noDefer ops = true) (hQ : ¬ LetsOut Q) : ∀ (fuel : Nat) (listed : Array Bool) (a : Act) (w : World), wpAny P md ops Q fuel listed a w → wpAnyIn (Fw ro) 0 P md ops Q fuel listed a w
  | 0, _, _, _, h => h
  | fuel + 1, listed, a, w, h => ⟨h.1, fun i hi => wpOp_in hd hQ (fun a w => wpAny_in hd hQ fuel _ a w) (h.2 i hi)⟩
theorem RegOk.wpIn {draw : Bool} {id : Nat} {a : Act} {w : World} (hm : P.follows .mixedOrders = true) (hd : noDefer ops = true) (hQ : ¬ LetsOut Q) (h : RegOk P draw ops Q a w) : (Code.region id ops draw).wpIn (Fw ro) 0 P Q a w := by
  cases draw with
  | false => exact wpIn_region (wpOps_in hd hQ _ _ _ h)
  | true => exact wpIn_region_any hm (wpAny_in hd hQ _ _ _ _ h)
end

/-! ### A call of a round -/
def calY (P : Program) (g : Value) (args : List Value) (w : World) (K : Value → World → Prop) : Prop :=
  ∃ l f tmps assign body, g = .func (.yield l) #[] #[] ∧ (Instr.yield l args.toArray).run P w = .ok (.round l f tmps assign body) w ∧ RoundIn (Fw none) 0 P l f tmps assign body w (Ret K)
theorem calY_i {P : Program} {g : Value} {args : List Value} {w : World} {K K' : Value → World → Prop} (h : calY P g args w K) (hk : ∀ v w', K v w' → K' v w') : calY P g args w K' := by
  obtain ⟨l, f, tmps, assign, body, h1, h2, h3⟩ := h
  exact ⟨l, f, tmps, assign, body, h1, h2, h3.mono fun e w' ⟨v, he, hv⟩ => ⟨v, he, hk _ _ hv⟩⟩
/-- Where a region calls a value, that is a round. -/
def stepY (P : Program) (o : Oper) (e : Env) (w : World) (K : Value → World → Prop) : Prop :=
  match o.op with
  | .call ⟨.value (.func _), _, _⟩ => stepOp P .plain o e w K
  | .call ⟨.value g, args, _⟩ => calY P (ev e g) (args.toList.map (ev e)) w K
  | _ => stepOp P .plain o e w K
def runY (P : Program) (ops : Array Oper) : List Nat → Env → World → (Env → World → Prop) → Prop
  | [], e, w, K => K e w
  | i :: l, e, w, K => match ops[i]? with
    | some o => (match o.guard with
      | none => stepY P o e w fun v w' => runY P ops l (updO e o.dst v) w' K
      | some _ => False)
    | none => False

/-! ### Drawn regions whose last two operations come last in each order: a call of a round, and what is made of its answer -/
def opsA (ops : Array Oper) : Array Oper := ops.extract 0 (ops.size - 2)
def allB : Nat → List (List Bool)
  | 0 => [[]]
  | n + 1 => (allB n).flatMap fun l => [false :: l, true :: l]
theorem allB_mem : ∀ (l : List Bool), l ∈ allB l.length
  | [] => by simp [allB]
  | b :: l => by
    rw [List.length_cons, allB, List.mem_flatMap]
    exact ⟨l, allB_mem l, by cases b <;> simp⟩
def closedB (ops : Array Oper) (l : List Bool) : Bool := (List.range ops.size).all fun i => !(l.getD i false) || ((ops[i]?).map (·.after.all fun e => !Region.binds .any e || l.getD e.on false)).getD true
def sameL (a b : List Nat) : Bool := decide (a = b)
def splitB (ops : Array Oper) (l : List Bool) : Bool :=
  let r := Region.ready .any (opsA ops) l.toArray
  !closedB (opsA ops) l || bif r.isEmpty then sameL (Region.ready .any ops (l ++ [false, false]).toArray) [ops.size - 2] && (sameL (Region.ready .any ops (l ++ [true, false]).toArray) [ops.size - 1] && sameL (Region.ready .any ops (l ++ [true, true]).toArray) [])
    else sameL (Region.ready .any ops (l ++ [false, false]).toArray) r && r.all fun i => Nat.blt i (ops.size - 2) && closedB (opsA ops) (l.set i true)
def chkSplit (ops : Array Oper) : Bool := Nat.ble 2 ops.size && ((allB (ops.size - 2)).all (splitB ops) && (closedB (opsA ops) (List.replicate (ops.size - 2) false) && (List.range ops.size).all fun i => ((ops[i]?).map fun o => o.guard.isNone).getD true))
theorem Oper.wp_monoQ {P : Program} {o : Oper} {a : Act} {w : World} {K : Act → World → Prop} {Q Q' : Exit → Act → World → Prop} (hL : ¬ LetsOut Q) (hQ : ∀ x a w, x ≠ .normal → Q x a w → Q' x a w) (h : o.wp P a w K Q) : o.wp P a w K Q' := by
  unfold Oper.wp at *
  generalize (execOp a.eval o).run P w = r at *
  cases r with
  | ok n w' =>
    cases n <;> simp only [Oper.upon] at h ⊢ <;>
      first
        | exact h
        | exact Calls.mono h (fun e w'' he => by cases e <;> first | exact he | exact hQ _ _ _ (by simp) he | exact absurd he hL)
  | halt x w' => cases x <;> simp only [Oper.upon] at h ⊢ <;> first | exact h | exact hQ _ _ _ (by simp) h

/-! ### Marks and readings -/
inductive AnY where
  | o
  | s (a b : AnY)
  | b (a : AnY)
  | j (slots : List Nat) (a : AnY)
  | l (slots : List Nat) (a : AnY)
  | c (a : An)
  | y
  | d (a : An)
  | f (a b : AnY)
def AnY.noF : AnY → Bool
  | .s x z => x.noF && z.noF
  | .b x => x.noF
  | .j _ x => x.noF
  | .l _ x => x.noF
  | .f _ _ => false
  | _ => true
def putPs : List Nat → Nat → List Value → Env → Env
  | [], _, _, e => e
  | p :: ps, i, args, e => putPs ps (i + 1) args (upd e p (args.getD i undef))
def insN (x : Nat) (l : List Nat) : List Nat := bif l.any (Nat.beq x) then l else l ++ [x]
/-- The jumps out of a code: 0: a return; i + 1: out of block i. -/
def jumps : Code → List Nat
  | .ret => [0]
  | .exit i => [i + 1]
  | .seq a b => (jumps b).foldl (fun l x => insN x l) (jumps a)
  | .cond _ a b => (jumps b).foldl (fun l x => insN x l) (jumps a)
  | .block id c => (jumps c).filter fun x => !Nat.beq x (id + 1)
  | .loop c => jumps c
  | _ => []
def jmp : Nat → Code
  | 0 => .ret
  | i + 1 => .exit i
abbrev endSt (j : Option Code) : LoopState := if j.isNone then .ready else .done
def outL (j : Option Code) (w : World) : List (Option Code × (World → Prop)) → Prop
  | [] => False
  | (j', K) :: l => (j = j' ∧ K w) ∨ outL j w l
abbrev dfB : Obj := .deferred (some [])
/-- A range over a function: k values each round. -/
def rng (P : Program) (g : Value) (k : Nat) (w : World) (rnd : List Value → World → (World → (World → Prop) → Prop) → (Option Code → World → Prop) → Prop) (out : Nat → List (Option Code × (World → Prop))) : Prop :=
  ∃ gf cap, g = .func (.func gf) #[] cap ∧ callable P gf = true ∧ ∀ (y : Value) (rec : LoopState → Option Code → Obj), y.oneCell' = true →
    (∀ (args : List Value) (w2 : World) (K : Value → World → Prop), args.length = k → w2.heap[w.heap.size + 1]? = some (rec .ready none) →
      rnd args w2 (fun w3 K3 => w3.heap[w.heap.size + 1]? = some (rec .ready none) ∧ K3 (setBlk w3 (w.heap.size + 1) (rec .busy none)))
        (fun j w3 => w3.heap[w.heap.size + 1]? = some (rec .busy none) ∧ K (.bool j.isNone) (setBlk w3 (w.heap.size + 1) (rec (endSt j) j))) → calY P y args w2 K) →
    cal P gf (y :: cap.toList) ((w.alloc dfB).alloc (rec .ready none)) fun _ w' => ∃ j, w'.heap[w.heap.size + 1]? = some (rec (endSt j) j) ∧ outL j (setBlk w' (w.heap.size + 1) (rec .exhausted j)) (out w.heap.size)
def takeD : List Nat → World → (World → Prop) → Prop
  | [], w, K => K w
  | D :: ds, w, K => w.heap[D]? = some dfB ∧ takeD ds (setBlk w D (.deferred none)) K
abbrev KY := Env → List Nat → World → Prop
def intpY (P : Program) : AnY → Code → Env → List Nat → World → KY → (Nat → KY) → KY → Prop
  | .o, .skip, e, ds, w, KN, KX, KR => KN e ds w
  | .o, .ret, e, ds, w, KN, KX, KR => KR e ds w
  | .o, .exit i, e, ds, w, KN, KX, KR => KX i e ds w
  | .s a b, .seq x y, e, ds, w, KN, KX, KR => intpY P a x e ds w (fun e' ds' w' => intpY P b y e' ds' w' KN KX KR) KX KR
  | .s a b, .cond c x y, e, ds, w, KN, KX, KR => cnd (ev e c) (intpY P a x e ds w KN KX KR) (intpY P b y e ds w KN KX KR)
  | .b a, .block id x, e, ds, w, KN, KX, KR => intpY P a x e ds w KN (fun i e' ds' w' => bif Nat.beq i id then KN e' ds' w' else KX i e' ds' w') KR
  | .j slots a, c, e, ds, w, KN, KX, KR => joinN slots (writes c) e (fun k => intpY P a c e ds w (fun e' _ w' => k e' w') KX KR) fun e' w' => KN e' ds w'
  | .l slots a, .loop x, e, ds, w, KN, KX, KR => loopN slots (writes x) e w fun e' w' k => intpY P a x e' ds w' (fun e2 _ w2 => k e2 w2) KX KR
  | .c A, .region id ops draw, e, ds, w, KN, KX, KR => intp P A (.region id ops draw) e w (fun e' w' => KN e' ds w') (fun _ _ _ => False) (fun _ _ => False)
  | .y, .region _ ops false, e, ds, w, KN, KX, KR => runY P ops (List.range ops.size) e w fun e' w' => KN e' ds w'
  | .d A, .region id ops true, e, ds, w, KN, KX, KR => intp P A (.region id (opsA ops) true) e w (fun e' w' => runY P ops [ops.size - 2, ops.size - 1] e' w' fun e2 w2 => KN e2 ds w2) (fun _ _ _ => False) (fun _ _ => False)
  | .f a b, .rangeFunc g ps assign body, e, ds, w, KN, KX, KR => rng P (ev e g) ps.size w
      (fun args w2 beg fin => intpY P a assign (putPs ps.toList 0 args e) [] w2 (fun e1 _ w3 => beg w3 fun w4 => intpY P b body e1 [] w4 (fun _ _ w5 => fin none w5) (fun i _ _ w5 => fin (some (.exit i)) w5) (fun _ _ w5 => fin (some .ret) w5)) (fun _ _ _ _ => False) (fun _ _ _ => False))
      (fun D => (none, KN e (D :: ds)) :: (jumps body).map fun x => (some (jmp x), match x with | 0 => KR e (D :: ds) | i + 1 => KX i e (D :: ds)))
  | _, _, _, _, _, _, _, _ => False
def isReg : An → Bool
  | .r _ | .d _ _ | .dc _ _ _ | .dt _ _ _ => true
  | _ => false
def chkY (P : Program) (n : Nat) : AnY → Code → Bool
  | .o, _ => true
  | .s a b, .seq x y => chkY P n a x && chkY P n b y
  | .s a b, .cond _ x y => chkY P n a x && chkY P n b y
  | .b a, .block _ x => chkY P n a x
  | .j _ a, c => a.noF && chkY P n a c
  | .l _ a, .loop x => a.noF && chkY P n a x
  | .c A, .region id ops draw => isReg A && (chk P n A (.region id ops draw) && noDefer ops)
  | .y, .region _ ops false => chkOps P n ops && noDefer ops
  | .d A, .region id ops true => isReg A && (chk P n A (.region id (opsA ops) true) && (noDefer ops && (chkOps P n ops && chkSplit ops)))
  | .f a b, .rangeFunc _ ps assign body => (a.noF && b.noF) && ((chkY P n a assign && chkY P n b body) && ps.toList.all fun p => Nat.blt p n)
  | _, _ => true
end Go.Fx
set_option linter.unusedVariables false
set_option linter.unusedSimpArgs false
namespace Go.Fx
def marks (ds : List Nat) : List Deferred := ds.map fun D => { target := .collected D, args := #[] }
def PostY (fx : Bool) (ds : List Nat) (n : Nat) (W : List Nat) (e : Env) (KN : KY) (KX : Nat → KY) (KR : KY) : Exit → Act → World → Prop
  | .normal, a, w => ∃ e' ds', Rel (marks ds') n a e' ∧ Agree W e e' ∧ (fx = true → ds' = ds) ∧ KN e' ds' w
  | .exit i, a, w => ∃ e' ds', Rel (marks ds') n a e' ∧ Agree W e e' ∧ (fx = true → ds' = ds) ∧ KX i e' ds' w
  | .ret, a, w => ∃ e' ds', Rel (marks ds') n a e' ∧ Agree W e e' ∧ (fx = true → ds' = ds) ∧ KR e' ds' w
  | _, _, _ => False
section
variable {P : Program} {n : Nat} {ops : Array Oper} {Q : Exit → Act → World → Prop} {ro : Option Nat}
theorem PostY.mono {fx fx' : Bool} {ds ds0 : List Nat} {W W' : List Nat} {e e0 : Env} {KN KN' KR KR' : KY} {KX KX' : Nat → KY} (hW : ∀ t, t ∈ W → t ∈ W') (he : Agree W' e0 e) (hd : fx' = true → fx = true ∧ ds = ds0)
    (hN : ∀ e' ds' w, Agree W' e0 e' → (fx' = true → ds' = ds0) → KN e' ds' w → KN' e' ds' w) (hX : ∀ i e' ds' w, KX i e' ds' w → KX' i e' ds' w) (hR : ∀ e' ds' w, KR e' ds' w → KR' e' ds' w) (x : Exit) (a : Act) (w : World)
    (h : PostY fx ds n W e KN KX KR x a w) : PostY fx' ds0 n W' e0 KN' KX' KR' x a w := by
  have go : ∀ {ds' : List Nat}, (fx = true → ds' = ds) → fx' = true → ds' = ds0 := fun h hf => (h (hd hf).1).trans (hd hf).2
  cases x with
  | normal => obtain ⟨e', ds', h1, h2, h3, h4⟩ := h; exact ⟨e', ds', h1, he.trans (h2.mono hW), go h3, hN _ _ _ (he.trans (h2.mono hW)) (go h3) h4⟩
  | exit i => obtain ⟨e', ds', h1, h2, h3, h4⟩ := h; exact ⟨e', ds', h1, he.trans (h2.mono hW), go h3, hX _ _ _ _ h4⟩
  | ret => obtain ⟨e', ds', h1, h2, h3, h4⟩ := h; exact ⟨e', ds', h1, he.trans (h2.mono hW), go h3, hR _ _ _ h4⟩
  | _ => exact h
theorem noOut_post {ds : List Deferred} {W : List Nat} {e : Env} {KN KR : Env → World → Prop} {KX : Nat → Env → World → Prop} : ¬ LetsOut (Post ds n W e KN KX KR) := fun ⟨_, _, h⟩ => h
theorem region_ok {ds : List Deferred} {A : An} {id : Nat} {draw : Bool} {e : Env} {w : World} {a : Act} {KN : Env → World → Prop} (hi : isReg A = true) (hc : chk P n A (.region id ops draw) = true) (hr : Rel ds n a e)
    (h : intp P A (.region id ops draw) e w KN (fun _ _ _ => False) (fun _ _ => False)) :
    ∃ Q, RegOk P draw ops Q a w ∧ ¬ LetsOut Q ∧ ∀ x a' w', Q x a' w' → Post ds n (writesOps ops (List.range ops.size)) e KN (fun _ _ _ => False) (fun _ _ => False) x a' w' := by
  cases A with
  | r gs =>
    refine ⟨_, ?_, noOut_post, fun _ _ _ h => h⟩
    cases draw with
    | false => unfold intp at h; simp only [chk] at hc; exact region_plain hc hr h
    | true => unfold intp at h; simp only [chk, Bool.and_eq_true] at hc; exact region_draw hc.1 hc.2 hr h
  | d plan gs =>
    cases draw with
    | false => unfold intp at h; exact h.elim
    | true =>
      refine ⟨_, ?_, noOut_post, fun _ _ _ h => h⟩
      unfold intp at h
      simp only [chk, Bool.and_eq_true] at hc
      obtain ⟨S, hS, h⟩ := h
      refine region_held hc.1.1 (Nat.eq_of_beq_eq_true hc.1.2.1) (fun i hi => ?_) (planOk_of _ _ (planQ_ok _ _ _ Bits.init hc.1.2.2)) hr hS h
      have := List.all_eq_true.1 hc.2 i hi
      simpa [Nat.blt_eq] using this
  | dc plan cuts gs =>
    cases draw with
    | false => unfold intp at h; exact h.elim
    | true =>
      refine ⟨_, ?_, noOut_post, fun _ _ _ h => h⟩
      unfold intp at h
      simp only [chk, Bool.and_eq_true] at hc
      obtain ⟨S, hS, h⟩ := h
      refine region_cut hc.1.1 (Nat.eq_of_beq_eq_true hc.1.2.1) (fun i hi => ?_) (planQ_ok _ _ _ Bits.init hc.1.2.2) hr hS h
      have := List.all_eq_true.1 hc.2 i hi
      simpa [Nat.blt_eq] using this
  | dt pl cuts slots =>
    cases draw with
    | false => unfold intp at h; exact h.elim
    | true =>
      unfold intp at h
      simp only [chk, Bool.and_eq_true, Bool.not_eq_true'] at hc
      obtain ⟨hc, ⟨hp, ha, hg⟩, hd⟩ := hc
      obtain ⟨S, hS, h⟩ := h
      obtain ⟨k, hb, hrest⟩ := joinN_sound h
      refine ⟨_, region_tree (KX := fun _ _ _ => False) (KR := fun _ _ => False) hc hp ha hg (Nat.le_of_ble_eq_true hd) hr hS hb, noOut_post, ?_⟩
      intro x a' w' hx
      cases x with
      | normal =>
        obtain ⟨e', h2, h3, h4⟩ := hx
        obtain ⟨e'', he, hk⟩ := hrest e' w' h3 h4
        exact ⟨e'', h2.congr fun t => (he t).symm, fun t ht => (he t).trans (h3 t ht), hk⟩
      | _ => exact hx
  | _ => simp [isReg] at hi

/-! ### Regions that call a round -/
theorem wp_step {ds : List Deferred} {o : Oper} {a : Act} {e : Env} {w : World} {K : Value → World → Prop} {next : Act → World → Prop} (hr : Rel ds n a e) (hc : callOk P o.op = true) (h : stepOp P .plain o e w K)
    (hk : ∀ v w', K v w' → next (a.put o.dst v) w') : o.wp P a w next Q := by
  have hcl := cls_act (P := P) hr hc
  unfold stepOp at h
  simp only at h
  cases hcs : cls P (ev e) o.op o.type with
  | pure f =>
    rw [hcs] at h hcl
    obtain ⟨v, hv, hrun⟩ := hcl _ h
    exact wp_val (hrun w) (hk _ _ hv)
  | read f =>
    rw [hcs] at h hcl
    obtain ⟨v, hv, hrun⟩ := hcl _ _ h
    exact wp_val hrun (hk _ _ hv)
  | eff f =>
    rw [hcs] at h hcl
    exact wp_eff hcl h hk
theorem roundIn_fw {ro ro' : Option Nat} {l : Nat} {f : FuncId} {tmps : Array Value} {assign body : Code} {w : World} {R : Ending → World → Prop} (h : RoundIn (Fw ro) 0 P l f tmps assign body w R) : RoundIn (Fw ro') 0 P l f tmps assign body w R := h
theorem calY_in {o : Oper} {a : Act} {w : World} {g : Operand} {args : Array Operand} {ts : Array TypeId} {K : Value → World → Prop} {next : Act → World → Prop} (ho : o.op = .call ⟨.value g, args, ts⟩)
    (h : calY P (a.eval g) (args.toList.map a.eval) w K) (hk : ∀ v w', K v w' → next (a.put o.dst v) w') : o.wpIn (Fw ro) 0 P a w next Q := by
  obtain ⟨l, f, tmps, assign, body, hg, hy, hR⟩ := h
  refine ⟨fun _ _ => trivial, ?_⟩
  rw [Oper.semAt_eq _ _ _ (by rw [ho]; intro c hc; cases hc)]
  have hrun : (execOp a.eval o).run P w = .ok (.round l f tmps assign body) w := by
    rw [← hy]
    unfold execOp
    simp only [ho, resolve, hg, Deferred.ofValue, invoke, Sem.run_bind, Sem.run_pure, Result.andThen_ok, toArray_map]
    simp
  rw [hrun, Oper.uponIn_round]
  refine ⟨fun hh => by simp [Fw, Fence.wide] at hh, (roundIn_fw (ro' := ro) hR).mono fun e w' ⟨v, he, hv⟩ => ?_⟩
  subst he
  exact hk _ _ hv
theorem stepY_in {ds : List Deferred} {o : Oper} {a : Act} {e : Env} {w : World} {K : Value → World → Prop} {next : Act → World → Prop} (hr : Rel ds n a e) (hc : callOk P o.op = true) (hd : ∀ c, o.op ≠ .defer c) (h : stepY P o e w K)
    (hk : ∀ v w', K v w' → next (a.put o.dst v) w') : o.wpIn (Fw ro) 0 P a w next Q := by
  unfold stepY at h
  split at h
  · exact oper_in hd (wp_step hr hc h hk)
  · rename_i g args ts _ ho
    rw [← hr.eval] at h
    exact calY_in ho h hk
  · exact oper_in hd (wp_step hr hc h hk)
theorem runY_sound {ds : List Deferred} (hc : chkOps P n ops = true) (hd : noDefer ops = true) : ∀ (l : List Nat) (a : Act) (e : Env) (w : World) (K : Env → World → Prop), Rel ds n a e → runY P ops l e w K →
    (∀ a' e' w', Rel ds n a' e' → Agree (writesOps ops l) e e' → K e' w' → Q .normal a' w') → wpOpsIn (Fw ro) 0 P ops Q l a w
  | [], a, e, w, K, hr, h, hk => hk a e w hr (Agree.refl _ _) h
  | i :: l, a, e, w, K, hr, h, hk => by
    unfold runY at h
    unfold wpOpsIn
    cases ho : ops[i]? with
    | none => rw [ho] at h; exact h.elim
    | some o =>
      rw [ho] at h
      simp only at h ⊢
      cases hg : o.guard with
      | some g => rw [hg] at h; exact h.elim
      | none =>
        rw [hg] at h
        simp only at h
        rw [if_pos (wanted_none hg)]
        obtain ⟨h1, h2, _⟩ := chkOp_spec (chkOps_spec hc ho).1
        refine stepY_in hr h2 (noDefer_spec hd ho) h fun v w' hK => ?_
        refine runY_sound hc hd l _ _ w' K (hr.put o.dst v h1) hK fun a' e' w2 hr' ha hk' => hk a' e' w2 hr' ?_ hk'
        have e1 : writesOps ops (i :: l) = (dstOf ops i).toList ++ writesOps ops l := by
          unfold writesOps
          rw [List.filterMap_cons]
          cases dstOf ops i <;> rfl
        have e2 : dstOf ops i = o.dst := by simp [dstOf, ho]
        rw [e1]
        refine (Agree.updO e o.dst v _ fun d hd => ?_).trans (ha.mono fun t ht => by simp [ht])
        rw [e2, hd]
        simp

/-! ### Drawn regions that call a round last -/
theorem opsA_get {i : Nat} (hi : i < ops.size - 2) : (opsA ops)[i]? = ops[i]? := by
  unfold opsA
  rw [Array.getElem?_extract]
  simp only [Nat.zero_add]
  rw [if_pos (by omega)]
theorem opsA_size (h2 : 2 ≤ ops.size) : (opsA ops).size = ops.size - 2 := by
  unfold opsA
  rw [Array.size_extract]
  omega
theorem any_split {QA Q' : Exit → Act → World → Prop} (h2 : 2 ≤ ops.size) (hall : ∀ l : List Bool, l.length = ops.size - 2 → splitB ops l = true) (hg : ∀ (i : Nat) (o : Oper), ops[i]? = some o → o.guard = none) (hd : noDefer ops = true) (hLQ : ¬ LetsOut QA)
    (hQ : ∀ x a w, x ≠ .normal → QA x a w → Q' x a w) (hend : ∀ a w, QA .normal a w → wpOpsIn (Fw ro) 0 P ops Q' [ops.size - 2, ops.size - 1] a w) :
    ∀ (fuel : Nat) (l : List Bool) (a : Act) (w : World), l.length = ops.size - 2 → closedB (opsA ops) l = true → wpAny P .any (opsA ops) QA fuel l.toArray a w → wpAnyIn (Fw ro) 0 P .any ops Q' (fuel + 2) (l ++ [false, false]).toArray a w := by
  have fin : ∀ (f : Nat) (l : List Bool) (a : Act) (w : World), l.length = ops.size - 2 → closedB (opsA ops) l = true → Region.ready .any (opsA ops) l.toArray = [] → QA .normal a w → wpAnyIn (Fw ro) 0 P .any ops Q' (f + 2) (l ++ [false, false]).toArray a w := by
    intro f l a w hl hcl hr hq
    have hs := hall l hl
    simp only [splitB, hcl, hr, Bool.not_true, Bool.false_or, List.isEmpty_nil, cond_true, Bool.and_eq_true, sameL, decide_eq_true_eq] at hs
    obtain ⟨r1, r2, r3⟩ := hs
    have h := hend a w hq
    rw [wpOpsIn_cons] at h
    refine ⟨(fun h0 => by rw [r1] at h0; cases h0), fun i hi => ?_⟩
    rw [r1] at hi
    obtain rfl : i = ops.size - 2 := by simpa using hi
    refine wpOpIn_mono (fun a1 w1 h1 => ?_) h
    have e1 : ((l ++ [false, false]).toArray.setIfInBounds (ops.size - 2) true) = (l ++ [true, false]).toArray := by
      apply Array.ext'
      rw [Array.toList_setIfInBounds]
      show (l ++ [false, false]).set (ops.size - 2) true = _
      rw [← hl, List.set_append_right _ _ (Nat.le_refl _)]
      simp
    rw [e1]
    rw [wpOpsIn_cons] at h1
    refine ⟨(fun h0 => by rw [r2] at h0; cases h0), fun i hi => ?_⟩
    rw [r2] at hi
    obtain rfl : i = ops.size - 1 := by simpa using hi
    refine wpOpIn_mono (fun a2 w2 h3 => ?_) h1
    have e2 : ((l ++ [true, false]).toArray.setIfInBounds (ops.size - 1) true) = (l ++ [true, true]).toArray := by
      apply Array.ext'
      rw [Array.toList_setIfInBounds]
      show (l ++ [true, false]).set (ops.size - 1) true = _
      rw [show ops.size - 1 = l.length + 1 by omega, List.set_append_right _ _ (by omega)]
      simp
    rw [e2]
    cases f with
    | zero => exact ⟨r3, h3⟩
    | succ f => exact ⟨fun _ => h3, (fun i hi => by rw [r3] at hi; cases hi)⟩
  intro fuel
  induction fuel with
  | zero => intro l a w hl hcl h; exact fin 0 l a w hl hcl h.1 h.2
  | succ fuel ih =>
    intro l a w hl hcl h
    by_cases hr : Region.ready .any (opsA ops) l.toArray = []
    · exact fin (fuel + 1) l a w hl hcl hr (h.1 hr)
    have hs := hall l hl
    have hne : (Region.ready .any (opsA ops) l.toArray).isEmpty = false := by
      cases hq : Region.ready .any (opsA ops) l.toArray with
      | nil => exact absurd hq hr
      | cons _ _ => rfl
    simp only [splitB, hcl, hne, Bool.not_true, Bool.false_or, cond_false, Bool.and_eq_true, sameL, decide_eq_true_eq, List.all_eq_true, Nat.blt_eq] at hs
    obtain ⟨r1, r2⟩ := hs
    refine ⟨(fun h0 => by rw [r1] at h0; exact absurd h0 hr), fun i hi => ?_⟩
    rw [r1] at hi
    obtain ⟨hlt, hc2⟩ := r2 i hi
    have hi2 := h.2 i hi
    have e1 : ((l ++ [false, false]).toArray.setIfInBounds i true) = (l.set i true ++ [false, false]).toArray := by
      apply Array.ext'
      rw [Array.toList_setIfInBounds]
      show (l ++ [false, false]).set i true = _
      rw [List.set_append_left _ _ (by omega)]
    have e2 : (l.toArray.setIfInBounds i true) = (l.set i true).toArray := by
      apply Array.ext'
      rw [Array.toList_setIfInBounds]
    rw [e1]
    rw [e2] at hi2
    unfold wpOp at hi2
    unfold wpOpIn
    rw [opsA_get hlt] at hi2
    cases ho : ops[i]? with
    | none =>
      rw [Array.getElem?_eq_none_iff] at ho
      omega
    | some o =>
      rw [ho] at hi2
      simp only at hi2 ⊢
      rw [if_pos (wanted_none (hg i o ho))] at hi2 ⊢
      rcases hi2 with h3 | ⟨_, h3⟩
      · exact Oper.wpIn_mono (fun a1 w1 h1 => ih _ a1 w1 (by rw [List.length_set]; exact hl) hc2 h1) (oper_in (noDefer_spec hd ho) (Oper.wp_monoQ hLQ hQ h3))
      · exact absurd h3 hLQ
/-! ### Rounds -/
theorem putPs_get (args : List Value) : ∀ (ps : List Nat) (i : Nat) (a : Act) (e : Env) (ds : List Deferred), Rel ds n a e → (ps.all fun p => Nat.blt p n) = true → i + ps.length = args.length →
    Rel ds n { tmps := (ps.zip (args.drop i)).foldl (fun t (x : Nat × Value) => t.setIfInBounds x.1 x.2) a.tmps, defers := a.defers } (putPs ps i args e)
  | [], i, a, e, ds, hr, _, _ => by simpa [putPs] using hr
  | p :: ps, i, a, e, ds, hr, hp, hl => by
    simp only [List.all_cons, Bool.and_eq_true] at hp
    simp only [List.length_cons] at hl
    have hlt : i < args.length := by omega
    have hput := hr.put (some p) (args.getD i undef) fun d hd => by cases hd; simpa [Nat.blt_eq] using hp.1
    have ih := putPs_get args ps (i + 1) _ _ ds hput hp.2 (by omega)
    rw [putPs]
    have e1 : args.drop i = args.getD i undef :: args.drop (i + 1) := by
      rw [List.drop_eq_getElem_cons hlt]
      simp [List.getD_eq_getElem?_getD, hlt]
    rw [e1, List.zip_cons_cons, List.foldl_cons]
    exact ih
theorem zip_toArray (ps : Array Nat) (args : List Value) (t : Array Value) : (ps.zip args.toArray).foldl (fun tmps (x : Nat × Value) => tmps.setIfInBounds x.1 x.2) t = (ps.toList.zip args).foldl (fun tmps (x : Nat × Value) => tmps.setIfInBounds x.1 x.2) t := by
  rw [← Array.foldl_toList, Array.toList_zip]
def SndY (P : Program) (n : Nat) (A : AnY) : Prop := ∀ (ro : Option Nat) (c : Code) (e : Env) (ds : List Nat) (w : World) (a : Act) (KN : KY) (KX : Nat → KY) (KR : KY), (A.noF = true ∨ ro = none) → chkY P n A c = true →
  Rel (marks ds) n a e → intpY P A c e ds w KN KX KR → c.wpIn (Fw ro) 0 P (PostY A.noF ds n (writes c) e KN KX KR) a w
theorem rng_sound {A B : AnY} (ihA : SndY P n A) (ihB : SndY P n B) {g : Operand} {ps : Array Tmp} {assign body : Code} {e : Env} {ds : List Nat} {w : World} {a : Act} {KN : KY} {KX : Nat → KY} {KR : KY}
    (hA : A.noF = true) (hB : B.noF = true) (hcA : chkY P n A assign = true) (hcB : chkY P n B body = true) (hps : (ps.toList.all fun p => Nat.blt p n) = true) (hr : Rel (marks ds) n a e)
    (h : intpY P (.f A B) (.rangeFunc g ps assign body) e ds w KN KX KR) : (Code.rangeFunc g ps assign body).wpIn (Fw none) 0 P (PostY false ds n [] e KN KX KR) a w := by
  unfold intpY at h
  obtain ⟨gf, cap, hg, hcal, h⟩ := h
  refine wpIn_rangeFunc ?_
  intro fn _
  obtain ⟨rec, hrec⟩ : ∃ rec : LoopState → Option Code → Loop, rec = fun st pe => { state := st, pending := pe, fn, tmps := a.tmps, params := ps, assign, body, defers := w.heap.size } := ⟨_, rfl⟩
  obtain ⟨l, hl⟩ : ∃ l, l = w.heap.size + 1 := ⟨_, rfl⟩
  have hg' : a.eval g = .func (.func gf) #[] cap := by rw [hr.eval]; exact hg
  refine ⟨w.heap.size + 1, [{ target := .collected w.heap.size, args := #[] }], (w.alloc (.deferred (some []))).alloc (.loop (rec .ready none)), { target := .fn (.func gf) cap, args := #[.func (.yield (w.heap.size + 1)) #[] #[]] }, (w.alloc (.deferred (some []))).alloc (.loop (rec .ready none)), gf,
    #[.func (.yield (w.heap.size + 1)) #[] #[]] ++ cap, (w.alloc (.deferred (some []))).alloc (.loop (rec .ready none)), ?_, ?_, fun _ _ => trivial, ?_, fun hh => by simp [Fw, Fence.wide] at hh, ?_⟩
  · rw [hrec]; exact run_enterLoop_outer _ _ _ _ _
  · simp only [resolve, hg']
    simp [Deferred.ofValue, Act.eval]
  · simp only [invoke]
    exact run_callFunc hcal _ _
  refine callsIn_fw.2 ?_
  have hq := h (.func (.yield (w.heap.size + 1)) #[] #[]) (fun st pe => .loop (rec st pe)) rfl ?_
  · have e1 : (Value.func (Fn.yield (w.heap.size + 1)) #[] #[] :: cap.toList).toArray = #[Value.func (Fn.yield (w.heap.size + 1)) #[] #[]] ++ cap := by apply Array.ext'; simp
    unfold cal at hq
    rw [e1] at hq
    refine Calls.mono hq ?_
    rintro en w3 ⟨v, rfl, j, hj, hout⟩
    have hst : (rec (endSt j) j).state ≠ .busy := by rw [hrec]; cases j <;> simp [endSt]
    have hend : (Instr.endLoop (w.heap.size + 1)).run P w3 = .ok j (w3.putObj (w.heap.size + 1) (.loop (rec .exhausted j))) := by
      have := run_endLoop (P := P) hj hst
      rw [hrec] at this ⊢
      exact this
    have hr' : Rel (marks (w.heap.size :: ds)) n { a with defers := [{ target := .collected w.heap.size, args := #[] }] ++ a.defers } e := ⟨hr.size, hr.get, by rw [hr.dfr]; rfl⟩
    refine ⟨j, _, hend, ?_⟩
    simp only [outL] at hout
    rcases hout with ⟨rfl, hk⟩ | hout
    · exact ⟨e, _, hr', Agree.refl _ _, fun hf => (by cases hf), hk⟩
    · have go : ∀ (js : List Nat), outL j (setBlk w3 (w.heap.size + 1) (.loop (rec .exhausted j))) (js.map fun x => (some (jmp x), match x with | 0 => KR e (w.heap.size :: ds) | i + 1 => KX i e (w.heap.size :: ds))) →
          ∃ x, j = some (jmp x) ∧ (match x with | 0 => KR e (w.heap.size :: ds) | i + 1 => KX i e (w.heap.size :: ds)) (setBlk w3 (w.heap.size + 1) (.loop (rec .exhausted j))) := by
        intro js
        induction js with
        | nil => intro h; exact h.elim
        | cons x js ih =>
          intro h
          rcases h with ⟨h1, h2⟩ | h
          · exact ⟨x, h1, h2⟩
          · exact ih h
      obtain ⟨x, rfl, hk⟩ := go _ hout
      cases x with
      | zero => exact wpIn_ret ⟨e, _, hr', Agree.refl _ _, fun hf => (by cases hf), hk⟩
      | succ i => exact wpIn_exit ⟨e, _, hr', Agree.refl _ _, fun hf => (by cases hf), hk⟩
  · intro args w2 K hlen hready hrnd
    have hy : (Instr.yield (w.heap.size + 1) args.toArray).run P w2 = .ok (.round (w.heap.size + 1) fn ((ps.zip args.toArray).foldl (fun tmps (x : Nat × Value) => tmps.setIfInBounds x.1 x.2) a.tmps) assign body) w2 := by
      have := run_yield (P := P) (args := args.toArray) hready (by rw [hrec]; simp [hlen])
      rw [hrec] at this
      exact this
    refine ⟨w.heap.size + 1, fn, _, assign, body, rfl, hy, ?_⟩
    refine roundIn_of_wpIn trivial ?_
    have hr1 : Rel (marks []) n { tmps := a.tmps, defers := [] } e := ⟨hr.size, hr.get, rfl⟩
    have hr2 := putPs_get args ps.toList 0 _ e _ hr1 hps (by simp [hlen])
    rw [List.drop_zero, ← zip_toArray] at hr2
    refine wpIn_mono (ihA (some (w.heap.size + 1)) assign _ [] w2 _ _ _ _ (.inl hA) hcA hr2 hrnd) ?_
    intro x a1 w3 hx
    cases x with
    | normal =>
      obtain ⟨e1, ds1, hr3, _, hd1, hb, hk⟩ := hx
      obtain rfl := hd1 hA
      have hbeg : (Instr.beginRound (w.heap.size + 1)).run P w3 = .ok () (w3.putObj (w.heap.size + 1) (.loop (rec .busy none))) := by
        have := run_beginRound (P := P) hb (by rw [hrec])
        rw [hrec] at this ⊢
        exact this
      refine ⟨_, hbeg, ?_⟩
      refine wpIn_mono (ihB (some (w.heap.size + 1)) body _ [] _ _ _ _ _ (.inl hB) hcB hr3 hk) ?_
      have fin : ∀ (j : Option Code) (w5 : World), w5.heap[w.heap.size + 1]? = some (.loop (rec .busy none)) → K (.bool j.isNone) (setBlk w5 (w.heap.size + 1) (.loop (rec (endSt j) j))) →
          ∃ v w', (Instr.endRound (w.heap.size + 1) j).run P w5 = .ok v w' ∧ Ret K (.returned v) w' := fun j w5 h1 h2 => by
        have h3 : (Instr.endRound (w.heap.size + 1) j).run P w5 = .ok (.bool j.isNone) (w5.putObj (w.heap.size + 1) (.loop (rec (endSt j) j))) := by
          have := run_endRound (P := P) j h1
          rw [hrec] at this ⊢
          exact this
        exact ⟨_, _, h3, _, rfl, h2⟩
      intro x a2 w5 hx
      cases x with
      | normal => obtain ⟨_, _, _, _, _, h1, h2⟩ := hx; exact fin none w5 h1 h2
      | exit i => obtain ⟨_, _, _, _, _, h1, h2⟩ := hx; exact fin (some (.exit i)) w5 h1 h2
      | ret => obtain ⟨_, _, _, _, _, h1, h2⟩ := hx; exact fin (some .ret) w5 h1 h2
      | _ => exact hx.elim
    | exit i => obtain ⟨_, _, _, _, _, h⟩ := hx; exact h.elim
    | ret => obtain ⟨_, _, _, _, _, h⟩ := hx; exact h.elim
    | _ => exact hx.elim

/-! ### All of it -/
theorem intpY_all (hm : P.follows .mixedOrders = true) : ∀ (A : AnY), SndY P n A := by
  intro A
  induction A with
  | j slots A ih =>
    intro ro c e ds w a KN KX KR hn hc hr h
    have hc' : A.noF = true ∧ chkY P n A c = true := by cases c <;> simpa [chkY] using hc
    unfold intpY at h
    obtain ⟨k, hb, hrest⟩ := joinN_sound h
    have h1 := ih ro c e ds w a _ KX KR (.inl hc'.1) hc'.2 hr hb
    refine wpIn_mono h1 ?_
    intro x a' w' hx
    cases x with
    | normal =>
      obtain ⟨e', ds', h2, h3, h5, h4⟩ := hx
      obtain rfl := h5 hc'.1
      obtain ⟨e'', he, hk⟩ := hrest e' w' h3 h4
      exact ⟨e'', ds', h2.congr fun t => (he t).symm, fun t ht => (he t).trans (h3 t ht), fun _ => rfl, hk⟩
    | _ => exact hx
  | s A B ihA ihB =>
    intro ro c e ds w a KN KX KR hn hc hr h
    have hn1 : A.noF = true ∨ ro = none := hn.imp (fun h => by simp only [AnY.noF, Bool.and_eq_true] at h; exact h.1) id
    have hn2 : B.noF = true ∨ ro = none := hn.imp (fun h => by simp only [AnY.noF, Bool.and_eq_true] at h; exact h.2) id
    have hfA : (AnY.s A B).noF = true → A.noF = true := fun h => by simp only [AnY.noF, Bool.and_eq_true] at h; exact h.1
    have hfB : (AnY.s A B).noF = true → B.noF = true := fun h => by simp only [AnY.noF, Bool.and_eq_true] at h; exact h.2
    cases c with
    | seq x y =>
      unfold intpY at h
      simp only [chkY, Bool.and_eq_true] at hc
      refine wpIn_seq (wpIn_mono (ihA ro x e ds w a _ KX KR hn1 hc.1 hr h) ?_)
      intro z a' w' hz
      cases z with
      | normal =>
        obtain ⟨e', ds', h1, h2, h4, h3⟩ := hz
        refine wpIn_mono (ihB ro y e' ds' w' a' KN KX KR hn2 hc.2 h1 h3) ?_
        exact PostY.mono (fun t ht => by simp [writes, ht]) (h2.mono fun t ht => by simp [writes, ht]) (fun hf => ⟨hfB hf, h4 (hfA hf)⟩) (fun _ _ _ _ _ h => h) (fun _ _ _ _ h => h) (fun _ _ _ h => h)
      | exit i => obtain ⟨e', ds', h1, h2, h4, h3⟩ := hz; exact ⟨e', ds', h1, h2.mono fun t ht => by simp [writes, ht], fun hf => h4 (hfA hf), h3⟩
      | ret => obtain ⟨e', ds', h1, h2, h4, h3⟩ := hz; exact ⟨e', ds', h1, h2.mono fun t ht => by simp [writes, ht], fun hf => h4 (hfA hf), h3⟩
      | _ => exact hz
    | cond cn x y =>
      unfold intpY at h
      simp only [chkY, Bool.and_eq_true] at hc
      obtain ⟨b, hb, h1, h2⟩ := h
      refine wpIn_cond (t := b) (by rw [hr.eval]; exact hb) ?_
      cases b with
      | true => exact wpIn_mono (ihA ro x e ds w a KN KX KR hn1 hc.1 hr (h1 rfl)) (PostY.mono (fun t ht => by simp [writes, ht]) (Agree.refl _ _) (fun hf => ⟨hfA hf, rfl⟩) (fun _ _ _ _ _ h => h) (fun _ _ _ _ h => h) (fun _ _ _ h => h))
      | false => exact wpIn_mono (ihB ro y e ds w a KN KX KR hn2 hc.2 hr (h2 rfl)) (PostY.mono (fun t ht => by simp [writes, ht]) (Agree.refl _ _) (fun hf => ⟨hfB hf, rfl⟩) (fun _ _ _ _ _ h => h) (fun _ _ _ _ h => h) (fun _ _ _ h => h))
    | _ => unfold intpY at h; exact h.elim
  | b A ih =>
    intro ro c e ds w a KN KX KR hn hc hr h
    cases c with
    | block id x =>
      unfold intpY at h
      simp only [chkY] at hc
      refine wpIn_block (wpIn_mono (ih ro x e ds w a _ _ KR hn hc hr h) ?_)
      intro z a' w' hz
      cases z with
      | normal => exact hz
      | exit i =>
        obtain ⟨e', ds', h1, h2, h4, h3⟩ := hz
        cases hb : Nat.beq i id with
        | true =>
          obtain rfl := Nat.eq_of_beq_eq_true hb
          rw [hb] at h3
          simp only [Exit.inBlock, if_true]
          exact ⟨e', ds', h1, h2, h4, h3⟩
        | false =>
          rw [hb] at h3
          have hne : ¬ i = id := fun he => by rw [he, Nat.beq_refl] at hb; cases hb
          simp only [Exit.inBlock, hne, if_false]
          exact ⟨e', ds', h1, h2, h4, h3⟩
      | _ => exact hz
    | _ => unfold intpY at h; exact h.elim
  | l slots A ih =>
    intro ro c e ds w a KN KX KR hn hc hr h
    cases c with
    | loop x =>
      unfold intpY at h
      simp only [chkY, Bool.and_eq_true] at hc
      obtain ⟨I, μ, h0, hcongr, hbody⟩ := loopN_sound h
      refine wpIn_loop (fun a' w' => ∃ e', Rel (marks ds) n a' e' ∧ Agree (writes x) e e' ∧ I e' w') (fun a' w' => μ (fun t => a'.tmps.getD t undef) w') ⟨e, hr, Agree.refl _ _, h0⟩ ?_
      rintro a1 w1 ⟨e1, hr1, ha1, hI⟩
      obtain ⟨e2, he2, hb⟩ := hbody e1 w1 ha1 hI
      refine wpIn_mono (ih ro x e2 ds w1 a1 _ KX KR (.inl hc.1) hc.2 (hr1.congr fun t => (he2 t).symm) hb) ?_
      have ha2 : Agree (writes x) e e2 := fun t ht => (he2 t).trans (ha1 t ht)
      intro z a' w' hz
      cases z with
      | normal =>
        obtain ⟨e', ds', h1, h2, h5, h3, h4⟩ := hz
        obtain rfl := h5 hc.1
        refine ⟨⟨e', h1, ha2.trans h2, h3⟩, ?_⟩
        have e3 := (hcongr (fun t => a'.tmps.getD t undef) e' w' h1.get).2
        have e4 := (hcongr (fun t => a1.tmps.getD t undef) e1 w1 hr1.get).2
        show μ (fun t => a'.tmps.getD t undef) w' < μ (fun t => a1.tmps.getD t undef) w1
        rw [e3, e4]
        exact h4
      | exit i => obtain ⟨e', ds', h1, h2, h5, h3⟩ := hz; exact ⟨e', ds', h1, ha2.trans h2, fun _ => h5 hc.1, h3⟩
      | ret => obtain ⟨e', ds', h1, h2, h5, h3⟩ := hz; exact ⟨e', ds', h1, ha2.trans h2, fun _ => h5 hc.1, h3⟩
      | _ => exact hz
    | _ => unfold intpY at h; exact h.elim
  | o =>
    intro ro c e ds w a KN KX KR hn hc hr h
    cases c with
    | skip => unfold intpY at h; exact wpIn_skip ⟨e, ds, hr, Agree.refl _ _, fun _ => rfl, h⟩
    | ret => unfold intpY at h; exact wpIn_ret ⟨e, ds, hr, Agree.refl _ _, fun _ => rfl, h⟩
    | exit i => unfold intpY at h; exact wpIn_exit ⟨e, ds, hr, Agree.refl _ _, fun _ => rfl, h⟩
    | _ => unfold intpY at h; exact h.elim
  | c A =>
    intro ro c e ds w a KN KX KR hn hc hr h
    cases c with
    | region id ops draw =>
      unfold intpY at h
      simp only [chkY, Bool.and_eq_true] at hc
      obtain ⟨Q, h1, h2, h3⟩ := region_ok hc.1 hc.2.1 hr h
      refine wpIn_mono (h1.wpIn hm hc.2.2 h2) ?_
      intro x a' w' hx
      have hp := h3 x a' w' hx
      cases x with
      | normal => obtain ⟨e', h4, h5, h6⟩ := hp; exact ⟨e', ds, h4, h5, fun _ => rfl, h6⟩
      | exit i => obtain ⟨e', h4, h5, h6⟩ := hp; exact h6.elim
      | ret => obtain ⟨e', h4, h5, h6⟩ := hp; exact h6.elim
      | _ => exact hp
    | _ => unfold intpY at h; exact h.elim
  | y =>
    intro ro c e ds w a KN KX KR hn hc hr h
    cases c with
    | region id ops draw =>
      cases draw with
      | true => unfold intpY at h; exact h.elim
      | false =>
        unfold intpY at h
        simp only [chkY, Bool.and_eq_true] at hc
        exact wpIn_region (runY_sound hc.1 hc.2 _ a e w _ hr h fun a' e' w' hr' ha hk => ⟨e', ds, hr', ha, fun _ => rfl, hk⟩)
    | _ => unfold intpY at h; exact h.elim
  | d A =>
    intro ro c e ds w a KN KX KR hn hc hr h
    cases c with
    | region id ops draw =>
      cases draw with
      | false => unfold intpY at h; exact h.elim
      | true =>
        unfold intpY at h
        simp only [chkY, Bool.and_eq_true] at hc
        obtain ⟨c1, c2, c3, c4, c5⟩ := hc
        unfold chkSplit at c5
        simp only [Bool.and_eq_true, List.all_eq_true] at c5
        obtain ⟨d1, d2, d3, d4⟩ := c5
        have h2 : 2 ≤ ops.size := Nat.le_of_ble_eq_true d1
        obtain ⟨QA, h1, hLQ, h3⟩ := region_ok c1 c2 hr h
        have hsz := opsA_size h2
        have hg : ∀ (i : Nat) (o : Oper), ops[i]? = some o → o.guard = none := fun i o ho => by
          have hi := (Array.getElem?_eq_some_iff.1 ho).1
          have := d4 i (List.mem_range.2 hi)
          rw [ho] at this
          simpa using this
        have hall : ∀ l : List Bool, l.length = ops.size - 2 → splitB ops l = true := fun l hl => d2 l (hl ▸ allB_mem l)
        refine wpIn_region_any hm ?_
        have h4 : wpAny P .any (opsA ops) QA (ops.size - 2) (List.replicate (ops.size - 2) false).toArray a { w with drawn := w.drawn + 1 } := by
          have h5 := h1
          unfold RegOk at h5
          simp only [hsz] at h5
          have e : Array.replicate (ops.size - 2) false = (List.replicate (ops.size - 2) false).toArray := by simp
          rw [e] at h5
          exact h5
        have h6 := any_split (ro := ro) (Q' := PostY (AnY.d A).noF ds n (writes (.region id ops true)) e KN KX KR) h2 hall hg c3 hLQ (fun x a' w' hx hq => ?_) (fun a' w' hq => ?_) (ops.size - 2) (List.replicate (ops.size - 2) false) a _ (by simp) d3 h4
        · have e1 : (List.replicate (ops.size - 2) false ++ [false, false]).toArray = Array.replicate ops.size false := by
            apply Array.ext'
            rw [Array.toList_replicate]
            show List.replicate (ops.size - 2) false ++ List.replicate 2 false = _
            rw [List.replicate_append_replicate]
            congr 1
            omega
          rw [e1, show ops.size - 2 + 2 = ops.size by omega] at h6
          exact h6
        · have hp := h3 x a' w' hq
          cases x with
          | normal => exact absurd rfl hx
          | exit i => obtain ⟨e', _, _, h6⟩ := hp; exact h6.elim
          | ret => obtain ⟨e', _, _, h6⟩ := hp; exact h6.elim
          | _ => exact hp
        · obtain ⟨e', r1, r2, r3⟩ := h3 .normal a' w' hq
          refine runY_sound c4 c3 _ a' e' w' _ r1 r3 fun a2 e2 w2 hr2 ha2 hk2 => ⟨e2, ds, hr2, ?_, fun _ => rfl, hk2⟩
          refine (r2.mono fun t ht => ?_).trans (ha2.mono fun t ht => ?_)
          · obtain ⟨i, hi, hti⟩ := List.mem_filterMap.1 ht
            have hi := List.mem_range.1 hi
            rw [hsz] at hi
            refine List.mem_filterMap.2 ⟨i, List.mem_range.2 (by omega), ?_⟩
            unfold dstOf at hti ⊢
            rwa [opsA_get hi] at hti
          · obtain ⟨i, hi, hti⟩ := List.mem_filterMap.1 ht
            refine List.mem_filterMap.2 ⟨i, List.mem_range.2 ?_, hti⟩
            simp only [List.mem_cons, List.not_mem_nil, or_false] at hi
            omega
    | _ => unfold intpY at h; exact h.elim
  | f A B ihA ihB =>
    intro ro c e ds w a KN KX KR hn hc hr h
    obtain rfl : ro = none := hn.resolve_left (by simp [AnY.noF])
    cases c with
    | rangeFunc g ps assign body =>
      simp only [chkY, Bool.and_eq_true] at hc
      obtain ⟨⟨hA, hB⟩, ⟨hcA, hcB⟩, hps⟩ := hc
      exact rng_sound ihA ihB hA hB hcA hcB hps hr h
    | _ => unfold intpY at h; exact h.elim

/-! ### A call -/
def retY (P : Program) (rs : List ResultVar) (R : Value → World → Prop) : KY := fun e ds w => takeD ds w fun w' => retK P rs R e w'
theorem takeD_leaves {fn : Func} {tmps : Array Value} {R : Ending → World → Prop} : ∀ (ds : List Nat) (w : World) (K : World → Prop), takeD ds w K →
    (∀ w', K w' → ∃ v, (results fn tmps).run P w' = .ok v w' ∧ R (.returned v) w') → LeavesInM (Fw none) 0 P fn tmps R (marks ds) .returning w
  | [], w, K, h, hk => hk w h
  | D :: ds, w, K, ⟨h1, h2⟩, hk => by
    refine ⟨by simp, .inl ⟨D, _, rfl, run_takeDeferred h1, ?_⟩⟩
    exact takeD_leaves ds _ K h2 hk
theorem calls_ofY {f : FuncId} {fn : Func} {c : Code} {A : AnY} {args : List Value} {w : World} {R : Value → World → Prop} (hm : P.follows .mixedOrders = true)
    (hf : P.funcs[f]? = some fn) (hb : fn.body = some c) (hn : Nat.ble args.length fn.ntmps = true) (hc : chkY P fn.ntmps A c = true)
    (h : intpY P A c (ini args) [] w (retY P fn.results.toList R) (fun _ _ _ _ => False) (retY P fn.results.toList R)) : Calls P f args.toArray w (Ret R) := by
  refine (callsIn_fw (ro := none) (n := 0)).1 (callsIn_of_wp_marks hf hb trivial ?_)
  have hle := Nat.le_of_ble_eq_true hn
  have hr : Rel (marks []) fn.ntmps { tmps := args.toArray ++ Array.replicate (fn.ntmps - args.toArray.size) undef, defers := [] } (ini args) := by
    refine ⟨by simp; omega, fun t => ?_, rfl⟩
    rw [ini_get]
    simp only [Array.getD_eq_getD_getElem?, Array.getElem?_append, List.getD_eq_getElem?_getD]
    by_cases ht : t < args.length
    · simp [ht]
    · have h1 : args[t]? = none := List.getElem?_eq_none (by omega)
      simp [ht, Array.getElem?_replicate]
      split <;> rfl
  refine wpIn_mono (intpY_all hm A none c _ [] w _ _ _ _ (.inr rfl) hc hr h) ?_
  have fin : ∀ (a' : Act) (w' : World) (e' : Env) (ds' : List Nat), Rel (marks ds') fn.ntmps a' e' → retY P fn.results.toList R e' ds' w' → LeavesInM (Fw none) 0 P fn a'.tmps (Ret R) a'.defers .returning w' := fun a' w' e' ds' h1 h2 => by
    rw [h1.dfr]
    refine takeD_leaves ds' w' _ h2 fun w2 h3 => ?_
    obtain ⟨v, hv, hR⟩ := results_sound h1 h3
    exact ⟨v, hv, v, rfl, hR⟩
  intro z a' w' hz
  cases z with
  | normal => obtain ⟨e', ds', h1, h2, h4, h3⟩ := hz; exact fin a' w' e' ds' h1 h3
  | ret => obtain ⟨e', ds', h1, h2, h4, h3⟩ := hz; exact fin a' w' e' ds' h1 h3
  | exit i => obtain ⟨e', ds', h1, h2, h4, h3⟩ := hz; exact h3
  | _ => exact hz.elim
end
end Go.Fx
set_option linter.unusedVariables false
set_option maxRecDepth 100000
namespace Go.Fx
noncomputable abbrev P : Program := Go.Proofs.Tryd.prog
open Go.Proofs
def bodyOf (f : Func) : Code := match f.body with | some c => c | none => .skip
theorem mixed : P.follows .mixedOrders = true := by kernel_rfl
abbrev KR := Value → World → Prop
abbrev SQ (Q : KR) (c : KR → Prop) : Prop := ∀ R : KR, (∀ v w', Q v w' → R v w') → c R
noncomputable def kO (fn : Func) (A : An) : Bool := chk P fn.ntmps A (bodyOf fn)
def iO (fn : Func) (A : An) (l : List Value) (w : World) (R : KR) : Prop := intp P A (bodyOf fn) (ini l) w (retK P fn.results.toList R) (fun _ _ _ => False) (retK P fn.results.toList R)
theorem sO {f : FuncId} {fn : Func} {A : An} {l : List Value} {w : World} {Q : KR} {c : KR → Prop} (hf : P.funcs[f]? = some fn) (hb : fn.body = some (bodyOf fn)) (hn : Nat.ble l.length fn.ntmps = true) (hk : kO fn A = true)
    (he : iO fn A l w Q = c Q) (h : SQ Q c) : cal P f l w Q := calls_of mixed hf hb hn hk (Eq.mpr he (h Q fun _ _ h => h))
noncomputable def kOY (fn : Func) (A : AnY) : Bool := chkY P fn.ntmps A (bodyOf fn)
def iOY (fn : Func) (A : AnY) (l : List Value) (w : World) (R : KR) : Prop := intpY P A (bodyOf fn) (ini l) [] w (retY P fn.results.toList R) (fun _ _ _ _ => False) (retY P fn.results.toList R)
theorem sOY {f : FuncId} {fn : Func} {A : AnY} {l : List Value} {w : World} {Q : KR} {c : KR → Prop} (hf : P.funcs[f]? = some fn) (hb : fn.body = some (bodyOf fn)) (hn : Nat.ble l.length fn.ntmps = true) (hk : kOY fn A = true)
    (he : iOY fn A l w Q = c Q) (h : SQ Q c) : cal P f l w Q := calls_ofY mixed hf hb hn hk (Eq.mpr he (h Q fun _ _ h => h))
variable {t0 t1 t2 t3 t4 t5 t6 t7 t8 t9 : Value} {w : World} {Q : KR}
abbrev f_law19_TopoNone : FuncId := 3
abbrev f_law19_live : FuncId := 4
abbrev f_topo_Topo_Add : FuncId := 5
abbrev f_topo_Topo_Poll : FuncId := 6
abbrev f_topo_Topo_Snow : FuncId := 7
abbrev f_topo_Topo_Get : FuncId := 8
abbrev f_topo_Topo_Root : FuncId := 9
abbrev f_ref17_Same : FuncId := 10
abbrev f_ref03_Same : FuncId := 11
abbrev f_topo_Topo_Count : FuncId := 12
abbrev f_topo_Topo_Preference : FuncId := 13
abbrev f_topo_Topo_Preferred : FuncId := 14
abbrev f_topo_Topo_Tree : FuncId := 15
abbrev f_topo_Topo_Has : FuncId := 16
abbrev f_topo_Topo_Len : FuncId := 17
abbrev f_topo_Topo_Clone : FuncId := 18
abbrev f_block_First : FuncId := 19
abbrev f_block_ID : FuncId := 20
abbrev f_topo_New : FuncId := 21
abbrev f_law19_one : FuncId := 22
abbrev f_block_Child : FuncId := 23
abbrev f_slices_Equal_api_ID_api_ID : FuncId := 24
abbrev f_topo_Topo_none : FuncId := 25
abbrev f_tree_Tree_Clone : FuncId := 26
abbrev f_tree_Tree_Add : FuncId := 27
abbrev f_snow_Add : FuncId := 28
abbrev f_snow_New : FuncId := 29
abbrev f_bag_Check : FuncId := 30
abbrev f_bag_Total : FuncId := 31
abbrev f_topo_Topo_counts : FuncId := 32
abbrev f_tree_Tree_Root : FuncId := 33
abbrev f_snow_Prefers : FuncId := 34
abbrev f_tree_Tree_Move : FuncId := 35
abbrev f_topo_Topo_best : FuncId := 36
abbrev f_snow_Poll : FuncId := 37
abbrev f_topo_Topo_fails : FuncId := 38
abbrev f_tree_Tree_Get : FuncId := 39
abbrev f_tree_Tree_Within : FuncId := 40
abbrev f_tree_Tree_Has : FuncId := 41
abbrev f_tree_Tree_Len : FuncId := 42
abbrev f_block_made : FuncId := 43
abbrev f_block_Bytes : FuncId := 44
abbrev f_sha_Sum : FuncId := 45
abbrev f_snow_Params : FuncId := 46
abbrev f_tree_New : FuncId := 47
abbrev f_tree_Tree_none : FuncId := 48
abbrev f_slices_Clone_api_ID_api_ID : FuncId := 49
abbrev f_tree_Tree_level : FuncId := 50
abbrev f_block_Clone : FuncId := 51
abbrev f_snow_Check : FuncId := 52
abbrev f_snow_Has : FuncId := 53
abbrev f_snow_own : FuncId := 54
abbrev f_bag_Less : FuncId := 55
abbrev f_bag_good : FuncId := 56
abbrev f_topo_Topo_counts_1 : FuncId := 57
abbrev f_bag_Count : FuncId := 58
abbrev f_tree_Tree_Kids : FuncId := 59
abbrev f_tree_Tree_those : FuncId := 60
abbrev f_tree_Tree_Move_1 : FuncId := 61
abbrev f_tree_Tree_Move_2 : FuncId := 62
abbrev f_snow_place : FuncId := 63
abbrev f_snow_reach : FuncId := 64
abbrev f_snow_Fail : FuncId := 65
abbrev f_block_Check : FuncId := 66
abbrev f_pack_New : FuncId := 67
abbrev f_pack_Packer_Short : FuncId := 68
abbrev f_pack_Packer_Fixed : FuncId := 69
abbrev f_pack_Packer_Long : FuncId := 70
abbrev f_pack_Packer_Bytes : FuncId := 71
abbrev f_pack_Packer_Out : FuncId := 72
abbrev f_sha_New : FuncId := 73
abbrev f_sha_State_Write : FuncId := 74
abbrev f_sha_State_Sum : FuncId := 75
abbrev f_bytes_Clone : FuncId := 76
abbrev f_slices_Clone_api_Choice_api_Choice : FuncId := 77
abbrev f_bag_compare : FuncId := 78
abbrev f_tree_told : FuncId := 79
abbrev f_tree_Tree_Kids_1 : FuncId := 80
abbrev f_slices_IndexFunc_api_Choice_api_Choice : FuncId := 81
abbrev f_snow_place_1 : FuncId := 82
abbrev f_pack_Packer_put : FuncId := 83
abbrev f_pack_number : FuncId := 84
abbrev f_pack_Packer_Err : FuncId := 85
abbrev f_sha_first : FuncId := 86
abbrev f_sha_State_none : FuncId := 87
abbrev f_slices_Concat_byte_byte : FuncId := 88
abbrev f_sha_mixed : FuncId := 89
abbrev f_bytes_Compare : FuncId := 90
abbrev f_tree_told_1 : FuncId := 91
abbrev f_pack_Packer_works : FuncId := 92
abbrev f_pack_kept_fails : FuncId := 93
abbrev f_slices_Grow_byte_byte : FuncId := 94
abbrev f_sha_schedule : FuncId := 95
abbrev f_math_bits_RotateLeft32 : FuncId := 96
abbrev f_internal_bytealg_Compare : FuncId := 97
abbrev T_ : TypeId := 0
abbrev T_int64 : TypeId := 2
abbrev T_int : TypeId := 3
abbrev T_bool : TypeId := 4
abbrev T_uint8 : TypeId := 5
abbrev T_string : TypeId := 9
abbrev T_api_ID : TypeId := 23
abbrev T_sl_uint8 : TypeId := 24
abbrev T_api_Block : TypeId := 26
abbrev T_sl_api_Vote : TypeId := 27
abbrev T_p_topo_Topo : TypeId := 29
abbrev T_p_tree_Tree : TypeId := 30
abbrev T_api_Params : TypeId := 32
abbrev T_map_api_ID_api_Snow : TypeId := 33
abbrev T_topo_Topo : TypeId := 35
abbrev T_sl_p_topo_Topo : TypeId := 36
abbrev T_sl_api_ID : TypeId := 40
abbrev T_sl_api_Choice : TypeId := 43
abbrev T_api_Snow : TypeId := 45
abbrev T_api_Vote : TypeId := 67
abbrev T_map_api_ID_int : TypeId := 74
abbrev T_map_api_ID_bool : TypeId := 76
abbrev T_api_Choice : TypeId := 85
abbrev T_map_api_ID_api_Block : TypeId := 94
abbrev T_tree_Tree : TypeId := 96
abbrev T_func_api_ID_int : TypeId := 105
abbrev T_pack_Packer : TypeId := 137
abbrev T_uint32 : TypeId := 141
abbrev T_a8_uint32 : TypeId := 142
abbrev T_sha_State : TypeId := 145
abbrev T_sl_sl_uint8 : TypeId := 146
abbrev T_a64_uint32 : TypeId := 153
/-- flurry/flurrylaw19.TopoNone -/
def A_law19_TopoNone : An := (An.s (An.r []) (An.s (An.s (An.r [[26], [31]]) (An.s (An.s (An.r []) An.o) An.o)) (An.s (An.s (An.r []) (An.b (An.l [38] (An.s (An.r []) (An.s (An.s An.o An.o) (An.s (An.b (An.s (An.r []) (An.s (An.r []) (An.s (An.r []) (An.s (An.r []) (An.s (An.r []) (An.s (An.r []) (An.s (An.r [[77], [85], [89], [95], [99], [105], [109], [114], [118], [125], [131], [136], [141], [146], [151], [156]]) (An.s (An.s (An.r []) An.o) An.o))))))))) (An.r []))))))) (An.s (An.r []) An.o))))
def c_law19_TopoNone (t0 t1 t2 : Value) (w : World) (R : KR) : Prop :=
 bx T_api_Block t0 w fun t3 w =>
 bx T_api_ID t1 w fun t4 w =>
 cal P f_law19_live [] w fun t20 w =>
 notB t20 fun t21 =>
 jn1 (fun k0 =>
 gif t21 false
 (fad 33 t3 fun t23 =>
 ld1 t23 w.heap fun t24 =>
 lenS t24 fun t25 =>
 bi .gtr t25 (.int .i64 1000) fun t26 =>
 k0 t26 w)
 (k0 undef w)) fun _ t26_1 w =>
 pik t21 (.bool true) t26_1 fun t27 =>
 jn1 (fun k1 =>
 gif t27 false
 (lenS t2 fun t30 =>
 bi .gtr t30 (.int .i64 60) fun t31 =>
 k1 t31 w)
 (k1 undef w)) fun _ t31_1 w =>
 pik t27 (.bool true) t31_1 fun t32 =>
 cnd t32
 (cal P f_law19_live [] w fun t33 w =>
 R t33 w)
 (rdP P (Instr.build T_topo_Topo #[]) w fun t34 =>
 bx T_topo_Topo t34 w fun t35 w =>
 efP P (Instr.buildSlice T_sl_p_topo_Topo 2 #[(0, (.pointer none)), (1, t35)]) w fun t36 w =>
 lenS t36 fun t37 =>
 lp1 (.int .i64 0) w fun _ t38 w again2 =>
 bi .lss t38 t37 fun t39 =>
 cnd t39
 (ixs 1 t36 t38 fun t40 =>
 ld1 t40 w.heap fun t41 =>
 ldN 34 t3 w.heap fun t44 =>
 cal P f_topo_Topo_Add [t41, t44] w fun t45 w =>
 ext 0 t45 fun t46 =>
 ext 1 t45 fun t47 =>
 efP P (Instr.alloc T_api_ID true (.tuple #[])) w fun t9 w =>
 stN 32 t9 t46 w fun w =>
 cal P f_topo_Topo_Poll [t41, t2] w fun t51 w =>
 ext 0 t51 fun t52 =>
 ext 1 t51 fun t53 =>
 ext 2 t51 fun t54 =>
 ldN 32 t4 w.heap fun t57 =>
 cal P f_topo_Topo_Snow [t41, t57] w fun t58 w =>
 ext 0 t58 fun t59 =>
 ext 1 t58 fun t60 =>
 efP P (Instr.alloc T_api_Snow true (.tuple #[])) w fun t14 w =>
 stN 67 t14 t59 w fun w =>
 ldN 32 t4 w.heap fun t63 =>
 cal P f_topo_Topo_Get [t41, t63] w fun t64 w =>
 ext 0 t64 fun t65 =>
 ext 1 t64 fun t66 =>
 efP P (Instr.alloc T_api_Block true (.tuple #[])) w fun t16 w =>
 stN 34 t16 t65 w fun w =>
 cal P f_topo_Topo_Root [t41] w fun t69 w =>
 ext 0 t69 fun t70 =>
 ext 1 t69 fun t71 =>
 efP P (Instr.alloc T_api_ID true (.tuple #[])) w fun t18 w =>
 stN 32 t18 t70 w fun w =>
 ldN 32 t9 w.heap fun t72 =>
 rdP P (Instr.build T_api_ID #[]) w fun t73 =>
 rdP P (eqS .neq T_api_ID (Operand.tmp 72) (Operand.tmp 73) t72 t73) w fun t74 =>
 jn1 (fun k3 =>
 gif t74 false
 (bi .neq t47 (.int .i64 2) fun t77 =>
 k3 t77 w)
 (k3 undef w)) fun _ t77_1 w =>
 pik t74 (.bool true) t77_1 fun t78 =>
 jn1 (fun k4 =>
 gif t78 false
 (lenS t52 fun t81 =>
 lenS t53 fun t83 =>
 bi .add t81 t83 fun t84 =>
 bi .neq t84 (.int .i64 0) fun t85 =>
 k4 t85 w)
 (k4 undef w)) fun _ t85_1 w =>
 pik t78 (.bool true) t85_1 fun t86 =>
 jn1 (fun k5 =>
 gif t86 false
 (bi .neq t54 (.int .i64 2) fun t89 =>
 k5 t89 w)
 (k5 undef w)) fun _ t89_1 w =>
 pik t86 (.bool true) t89_1 fun t90 =>
 jn1 (fun k6 =>
 gif t90 false
 (ldN 67 t14 w.heap fun t92 =>
 rdP P (Instr.build T_api_Snow #[]) w fun t93 =>
 cal P f_ref17_Same [t92, t93] w fun t94 w =>
 notB t94 fun t95 =>
 k6 t95 w)
 (k6 undef w)) fun _ t95_1 w =>
 pik t90 (.bool true) t95_1 fun t96 =>
 jn1 (fun k7 =>
 gif t96 false
 (bi .neq t60 (.int .i64 2) fun t99 =>
 k7 t99 w)
 (k7 undef w)) fun _ t99_1 w =>
 pik t96 (.bool true) t99_1 fun t100 =>
 jn1 (fun k8 =>
 gif t100 false
 (ldN 34 t16 w.heap fun t102 =>
 rdP P (Instr.build T_api_Block #[]) w fun t103 =>
 cal P f_ref03_Same [t102, t103] w fun t104 w =>
 notB t104 fun t105 =>
 k8 t105 w)
 (k8 undef w)) fun _ t105_1 w =>
 pik t100 (.bool true) t105_1 fun t106 =>
 jn1 (fun k9 =>
 gif t106 false
 (bi .neq t66 (.int .i64 2) fun t109 =>
 k9 t109 w)
 (k9 undef w)) fun _ t109_1 w =>
 pik t106 (.bool true) t109_1 fun t110 =>
 jn1 (fun k10 =>
 gif t110 false
 (ldN 32 t18 w.heap fun t112 =>
 rdP P (Instr.build T_api_ID #[]) w fun t113 =>
 rdP P (eqS .neq T_api_ID (Operand.tmp 112) (Operand.tmp 113) t112 t113) w fun t114 =>
 k10 t114 w)
 (k10 undef w)) fun _ t114_1 w =>
 pik t110 (.bool true) t114_1 fun t115 =>
 jn1 (fun k11 =>
 gif t115 false
 (bi .neq t71 (.int .i64 0) fun t118 =>
 k11 t118 w)
 (k11 undef w)) fun _ t118_1 w =>
 pik t115 (.bool true) t118_1 fun t119 =>
 jn1 (fun k12 =>
 gif t119 false
 (ldN 32 t4 w.heap fun t123 =>
 cal P f_topo_Topo_Count [t41, t2, t123] w fun t124 w =>
 bi .neq t124 (.int .i64 0) fun t125 =>
 k12 t125 w)
 (k12 undef w)) fun _ t125_1 w =>
 pik t119 (.bool true) t125_1 fun t126 =>
 jn1 (fun k13 =>
 gif t126 false
 (cal P f_topo_Topo_Preference [t41] w fun t129 w =>
 rdP P (Instr.build T_api_ID #[]) w fun t130 =>
 rdP P (eqS .neq T_api_ID (Operand.tmp 129) (Operand.tmp 130) t129 t130) w fun t131 =>
 k13 t131 w)
 (k13 undef w)) fun _ t131_1 w =>
 pik t126 (.bool true) t131_1 fun t132 =>
 jn1 (fun k14 =>
 gif t132 false
 (ldN 32 t4 w.heap fun t135 =>
 cal P f_topo_Topo_Preferred [t41, t135] w fun t136 w =>
 k14 t136 w)
 (k14 undef w)) fun _ t136_1 w =>
 pik t132 (.bool true) t136_1 fun t137 =>
 jn1 (fun k15 =>
 gif t137 false
 (cal P f_topo_Topo_Tree [t41] w fun t140 w =>
 nilP true t140 fun t141 =>
 k15 t141 w)
 (k15 undef w)) fun _ t141_1 w =>
 pik t137 (.bool true) t141_1 fun t142 =>
 jn1 (fun k16 =>
 gif t142 false
 (ldN 32 t4 w.heap fun t145 =>
 cal P f_topo_Topo_Has [t41, t145] w fun t146 w =>
 k16 t146 w)
 (k16 undef w)) fun _ t146_1 w =>
 pik t142 (.bool true) t146_1 fun t147 =>
 jn1 (fun k17 =>
 gif t147 false
 (cal P f_topo_Topo_Len [t41] w fun t150 w =>
 bi .neq t150 (.int .i64 0) fun t151 =>
 k17 t151 w)
 (k17 undef w)) fun _ t151_1 w =>
 pik t147 (.bool true) t151_1 fun t152 =>
 jn1 (fun k18 =>
 gif t152 false
 (cal P f_topo_Topo_Clone [t41] w fun t155 w =>
 nilP true t155 fun t156 =>
 k18 t156 w)
 (k18 undef w)) fun _ t156_1 w =>
 pik t152 (.bool true) t156_1 fun t157 =>
 cnd t157
 (R (.bool false) w)
 (bi .add t38 (.int .i64 1) fun t158 =>
 again2 t158 w))
 (R (.bool true) w))
theorem k_law19_TopoNone : kO Tryd.f3 A_law19_TopoNone = true := by kernel_rfl
theorem s_law19_TopoNone (h : SQ Q (c_law19_TopoNone t0 t1 t2 w)) : cal P f_law19_TopoNone [t0, t1, t2] w Q := sO Tryd.func3 rfl (by kernel_rfl) k_law19_TopoNone (by kernel_rfl) h

/-- flurry/flurrylaw19.live -/
def A_law19_live : An := (An.s (An.r []) (An.s (An.r []) (An.s (An.r []) (An.s (An.dc [1, 0, 2, 3, 4, 5, 6, 7] [2] []) (An.s (An.s (An.r [[34], [38], [42]]) (An.s (An.s (An.r []) An.o) An.o)) (An.s (An.r []) (An.s (An.r []) (An.s (An.r []) (An.s (An.r []) (An.s (An.s (An.d [0, 1, 2, 3, 4, 5, 6, 7, 8, 9, 10, 11, 12, 13, 14, 15, 17, 16, 18, 19] [[74], [78], [82], [88]]) (An.s (An.s (An.r []) An.o) An.o)) (An.s (An.r []) (An.s (An.d [0, 1, 2, 3, 4, 5, 6, 7, 8, 9, 10, 11, 12, 13, 14, 15, 17, 16, 18, 19, 20, 21, 22, 23, 24, 25] [[106], [111], [117], [122]]) An.o))))))))))))
def c_law19_live (w : World) (R : KR) : Prop :=
 cal P f_block_First [(.slice none 0 0)] w fun t16 w =>
 ext 0 t16 fun t17 =>
 ext 1 t16 fun t18 =>
 efP P (Instr.alloc T_api_Block true (.tuple #[])) w fun t1 w =>
 stN 34 t1 t17 w fun w =>
 ldN 34 t1 w.heap fun t20 =>
 cal P f_block_ID [t20] w fun t21 w =>
 ext 0 t21 fun t22 =>
 ext 1 t21 fun t23 =>
 efP P (Instr.alloc T_api_ID true (.tuple #[])) w fun t3 w =>
 stN 32 t3 t22 w fun w =>
 drH w fun S w =>
 rdS S (fun w => ldN 32 t3 w.heap) fun t26 =>
 efS S (cal P f_law19_one []) w fun t25 w =>
 efC (cal P f_topo_New [t25, t26, (.int .i64 0), (.int .i64 9)]) w fun S t27 w =>
 ext 0 t27 fun t28 =>
 ext 1 t27 fun t29 =>
 bi .neq t18 (.int .i64 0) fun t31 =>
 jn1 (fun k0 =>
 gif t31 false
 (bi .neq t23 (.int .i64 0) fun t34 =>
 k0 t34 w)
 (k0 undef w)) fun _ t34_1 w =>
 pik t31 (.bool true) t34_1 fun t35 =>
 jn1 (fun k1 =>
 gif t35 false
 (bi .neq t29 (.int .i64 0) fun t38 =>
 k1 t38 w)
 (k1 undef w)) fun _ t38_1 w =>
 pik t35 (.bool true) t38_1 fun t39 =>
 jn1 (fun k2 =>
 gif t39 false
 (nilP false t28 fun t42 =>
 k2 t42 w)
 (k2 undef w)) fun _ t42_1 w =>
 pik t39 (.bool true) t42_1 fun t43 =>
 cnd t43
 (R (.bool false) w)
 (ldN 34 t1 w.heap fun t45 =>
 efP P (Instr.buildSlice T_sl_uint8 1 #[(0, (.int .u8 97))]) w fun t46 w =>
 efP P (convert T_sl_uint8 T_sl_uint8 t46) w fun t47 w =>
 cal P f_block_Child [t45, t47] w fun t48 w =>
 ext 0 t48 fun t49 =>
 ext 1 t48 fun t50 =>
 efP P (Instr.alloc T_api_Block true (.tuple #[])) w fun t7 w =>
 stN 34 t7 t49 w fun w =>
 ldN 34 t7 w.heap fun t52 =>
 efP P (Instr.buildSlice T_sl_uint8 1 #[(0, (.int .u8 98))]) w fun t53 w =>
 efP P (convert T_sl_uint8 T_sl_uint8 t53) w fun t54 w =>
 cal P f_block_Child [t52, t54] w fun t55 w =>
 ext 0 t55 fun t56 =>
 ext 1 t55 fun t57 =>
 efP P (Instr.alloc T_api_Block true (.tuple #[])) w fun t8 w =>
 stN 34 t8 t56 w fun w =>
 ldN 34 t7 w.heap fun t60 =>
 cal P f_topo_Topo_Add [t28, t60] w fun t61 w =>
 ext 0 t61 fun t62 =>
 ext 1 t61 fun t63 =>
 efP P (Instr.alloc T_api_ID true (.tuple #[])) w fun t9 w =>
 stN 32 t9 t62 w fun w =>
 ldN 34 t8 w.heap fun t66 =>
 cal P f_topo_Topo_Add [t28, t66] w fun t67 w =>
 ext 0 t67 fun t68 =>
 ext 1 t67 fun t69 =>
 efP P (Instr.alloc T_api_ID true (.tuple #[])) w fun t11 w =>
 stN 32 t11 t68 w fun w =>
 drH w fun S w =>
 bi .neq t50 (.int .i64 0) fun t71 =>
 jn1 (fun k3 =>
 gif t71 false
 (bi .neq t57 (.int .i64 0) fun t74 =>
 k3 t74 w)
 (k3 undef w)) fun _ t74_1 w =>
 pik t71 (.bool true) t74_1 fun t75 =>
 jn1 (fun k4 =>
 gif t75 false
 (bi .neq t63 (.int .i64 0) fun t78 =>
 k4 t78 w)
 (k4 undef w)) fun _ t78_1 w =>
 pik t75 (.bool true) t78_1 fun t79 =>
 jn1 (fun k5 =>
 gif t79 false
 (bi .neq t69 (.int .i64 0) fun t82 =>
 k5 t82 w)
 (k5 undef w)) fun _ t82_1 w =>
 pik t79 (.bool true) t82_1 fun t83 =>
 jn1 (fun k6 =>
 gif t83 false
 (rdS S (fun w => ldN 32 t11 w.heap) fun t87 =>
 efS S (cal P f_topo_Topo_Preference [t28]) w fun t86 w =>
 rdS S (rdP P (eqS .neq T_api_ID (Operand.tmp 86) (Operand.tmp 87) t86 t87)) fun t88 =>
 k6 t88 w)
 (k6 undef w)) fun _ t88_1 w =>
 pik t83 (.bool true) t88_1 fun t89 =>
 cnd t89
 (R (.bool false) w)
 (ldN 32 t11 w.heap fun t92 =>
 rdP P (Instr.build T_api_Vote #[(0, t92), (1, (.int .i64 1))]) w fun t93 =>
 efP P (Instr.buildSlice T_sl_api_Vote 1 #[(0, t93)]) w fun t94 w =>
 cal P f_topo_Topo_Poll [t28, t94] w fun t95 w =>
 ext 0 t95 fun t96 =>
 ext 1 t95 fun t97 =>
 ext 2 t95 fun t98 =>
 drH w fun S w =>
 bi .eql t98 (.int .i64 0) fun t100 =>
 jn1 (fun k7 =>
 gif t100 true
 (rdS S (fun w => ldN 32 t9 w.heap) fun t103 =>
 rdS S (fun w => ldN 32 t11 w.heap) fun t104 =>
 efS S (efP P (Instr.buildSlice T_sl_api_ID 2 #[(0, t103), (1, t104)])) w fun t105 w =>
 efS S (cal P f_slices_Equal_api_ID_api_ID [t96, t105]) w fun t106 w =>
 k7 t106 w)
 (k7 undef w)) fun _ t106_1 w =>
 pik t100 t106_1 (.bool false) fun t107 =>
 jn1 (fun k8 =>
 gif t107 true
 (lenS t97 fun t110 =>
 bi .eql t110 (.int .i64 0) fun t111 =>
 k8 t111 w)
 (k8 undef w)) fun _ t111_1 w =>
 pik t107 t111_1 (.bool false) fun t112 =>
 jn1 (fun k9 =>
 gif t112 true
 (rdS S (fun w => ldN 32 t11 w.heap) fun t116 =>
 efS S (cal P f_topo_Topo_Preference [t28]) w fun t115 w =>
 rdS S (rdP P (eqS .eql T_api_ID (Operand.tmp 115) (Operand.tmp 116) t115 t116)) fun t117 =>
 k9 t117 w)
 (k9 undef w)) fun _ t117_1 w =>
 pik t112 t117_1 (.bool false) fun t118 =>
 jn1 (fun k10 =>
 gif t118 true
 (efS S (cal P f_topo_Topo_Len [t28]) w fun t121 w =>
 bi .eql t121 (.int .i64 0) fun t122 =>
 k10 t122 w)
 (k10 undef w)) fun _ t122_1 w =>
 pik t118 t122_1 (.bool false) fun t123 =>
 R t123 w))
theorem k_law19_live : kO Tryd.f4 A_law19_live = true := by kernel_rfl
theorem s_law19_live (h : SQ Q (c_law19_live w)) : cal P f_law19_live [] w Q := sO Tryd.func4 rfl (by kernel_rfl) k_law19_live (by kernel_rfl) h

/-- (*flurry/topo.Topo).Add -/
def A_topo_Topo_Add : An := (An.s (An.r []) (An.s (An.s (An.r []) (An.s (An.s (An.r []) An.o) An.o)) (An.s (An.dc [0, 1, 2, 3, 4, 5, 6, 7, 8, 9, 10, 11, 12] [11] []) (An.s (An.s (An.r [[30]]) (An.s (An.s (An.s (An.dt (Pl.step 0 (Pl.step 1 (Pl.step 2 (Pl.step 3 (Pl.step 5 (Pl.br (Pl.alt 4 (Pl.br (Pl.alt 6 (Pl.step 7 (Pl.step 8 (Pl.step 9 (Pl.step 10 (Pl.step 11 (Pl.step 12 Pl.nil)))))) (Pl.alt 10 (Pl.step 6 (Pl.step 7 (Pl.step 8 (Pl.step 9 (Pl.step 11 (Pl.step 12 Pl.nil)))))) Pl.non))) (Pl.alt 10 (Pl.step 4 (Pl.step 6 (Pl.step 7 (Pl.step 8 (Pl.step 9 (Pl.step 11 (Pl.step 12 Pl.nil))))))) Pl.non)))))))) [6, 11] [9]) (An.s (An.r []) (An.s (An.s (An.r []) An.o) An.o))) (An.s (An.r []) An.o)) An.o)) (An.s (An.dt (Pl.step 0 (Pl.step 1 (Pl.step 2 (Pl.step 3 (Pl.step 4 (Pl.br (Pl.alt 5 (Pl.step 6 (Pl.step 7 (Pl.step 8 (Pl.step 9 (Pl.step 10 (Pl.step 11 Pl.nil)))))) (Pl.alt 9 (Pl.step 5 (Pl.step 6 (Pl.step 7 (Pl.step 8 (Pl.step 10 (Pl.step 11 Pl.nil)))))) Pl.non)))))))) [5, 10] [10, 11]) (An.s (An.s (An.r []) (An.s (An.s (An.r []) An.o) An.o)) (An.s (An.j [11] (An.s (An.r []) (An.s (An.dc [0, 1, 2, 3, 4, 5, 6, 7, 8, 9, 10, 11] [6, 10] []) (An.dc [0, 1, 2, 3, 4, 5, 6, 7, 8, 9, 10] [5, 9] [])))) (An.s (An.j [] (An.s (An.r []) (An.s (An.dc [0, 1, 2, 3, 4, 5, 6, 7] [7] []) An.o))) (An.s (An.r []) An.o)))))))))
def c_topo_Topo_Add (t0 t1 : Value) (w : World) (R : KR) : Prop :=
 bx T_api_Block t1 w fun t3 w =>
 efP P (Instr.alloc T_api_ID true (.tuple #[])) w fun t4 w =>
 cal P f_topo_Topo_none [t0] w fun t13 w =>
 cnd t13
 (rdP P (Instr.build T_api_ID #[]) w fun t14 =>
 stN 32 t4 t14 w fun w =>
 ldN 32 t4 w.heap fun r0 =>
 R (.tuple #[r0, (.int .i64 2)]) w)
 (drH w fun S w =>
 nilc t0 fun t17 =>
 fad 5 t17 fun t18 =>
 rdS S (fun w => ld1 t18 w.heap) fun t19 =>
 fad 0 t3 fun t20 =>
 rdS S (fun w => ldN 32 t20 w.heap) fun t21 =>
 rdS S (rdP P (Instr.lookup T_map_api_ID_api_Snow t19 t21 true)) fun t22 =>
 ext 0 t22 fun t23 =>
 ext 1 t22 fun t24 =>
 efS S (efP P (Instr.alloc T_api_Snow true (.tuple #[]))) w fun t6 w =>
 efC (fun w K => stN 67 t6 t23 w (K undef)) w fun S _ w =>
 jn1 (fun k1 =>
 gif t24 true
 (fad 0 t6 fun t27 =>
 ld1 t27 w.heap fun t28 =>
 lenS t28 fun t29 =>
 bi .geq t29 (.int .i64 32) fun t30 =>
 k1 t30 w)
 (k1 undef w)) fun _ t30_1 w =>
 pik t24 t30_1 (.bool false) fun t31 =>
 cnd t31
 (drH w fun S w =>
 jn1 (fun k2 =>
 nilc t0 fun t34 =>
 fad 0 t34 fun t35 =>
 rdS S (fun w => ld1 t35 w.heap) fun t36 =>
 rdS S (fun w => ldN 34 t3 w.heap) fun t38 =>
 (efS S (cal P f_tree_Tree_Clone [t36]) w fun t37_1 w =>
 (efC (cal P f_tree_Tree_Add [t37_1, t38]) w fun S t39_2 w =>
 ext 0 t39_2 fun t40_2 =>
 ext 1 t39_2 fun t41_2 =>
 efS S (efP P (Instr.alloc T_api_ID true (.tuple #[]))) w fun t8_2 w =>
 efC (fun w K => stN 32 t8_2 t40_2 w (K undef)) w fun S _ w =>
 k2 t41_2 w) ∧
 ((efS S (efP P (Instr.alloc T_api_ID true (.tuple #[]))) w fun t8_1 w =>
 efC (cal P f_tree_Tree_Add [t37_1, t38]) w fun S t39_1 w =>
 ext 0 t39_1 fun t40_1 =>
 ext 1 t39_1 fun t41_1 =>
 efC (fun w K => stN 32 t8_1 t40_1 w (K undef)) w fun S _ w =>
 k2 t41_1 w) ∧
 (True))) ∧
 ((efS S (efP P (Instr.alloc T_api_ID true (.tuple #[]))) w fun t8 w =>
 efS S (cal P f_tree_Tree_Clone [t36]) w fun t37 w =>
 efC (cal P f_tree_Tree_Add [t37, t38]) w fun S t39 w =>
 ext 0 t39 fun t40 =>
 ext 1 t39 fun t41 =>
 efC (fun w K => stN 32 t8 t40 w (K undef)) w fun S _ w =>
 k2 t41 w) ∧
 (True))) fun _ t9 w =>
 bi .neq t9 (.int .i64 0) fun t43 =>
 cnd t43
 (rdP P (Instr.build T_api_ID #[]) w fun t44 =>
 stN 32 t4 t44 w fun w =>
 ldN 32 t4 w.heap fun r3 =>
 R (.tuple #[r3, t9]) w)
 (rdP P (Instr.build T_api_ID #[]) w fun t46 =>
 stN 32 t4 t46 w fun w =>
 ldN 32 t4 w.heap fun r4 =>
 R (.tuple #[r4, (.int .i64 6)]) w))
 (drH w fun S w =>
 jn2 (fun k5 =>
 nilc t0 fun t49 =>
 fad 0 t49 fun t50 =>
 rdS S (fun w => ld1 t50 w.heap) fun t51 =>
 rdS S (fun w => ldN 34 t3 w.heap) fun t52 =>
 (efC (cal P f_tree_Tree_Add [t51, t52]) w fun S t53_1 w =>
 ext 0 t53_1 fun t54_1 =>
 ext 1 t53_1 fun t55_1 =>
 efS S (efP P (Instr.alloc T_api_ID true (.tuple #[]))) w fun t10_1 w =>
 efC (fun w K => stN 32 t10_1 t54_1 w (K undef)) w fun S _ w =>
 k5 t10_1 t55_1 w) ∧
 ((efS S (efP P (Instr.alloc T_api_ID true (.tuple #[]))) w fun t10 w =>
 efC (cal P f_tree_Tree_Add [t51, t52]) w fun S t53 w =>
 ext 0 t53 fun t54 =>
 ext 1 t53 fun t55 =>
 efC (fun w K => stN 32 t10 t54 w (K undef)) w fun S _ w =>
 k5 t10 t55 w) ∧
 (True))) fun _ t10_2 t11 w =>
 bi .neq t11 (.int .i64 0) fun t57 =>
 cnd t57
 (rdP P (Instr.build T_api_ID #[]) w fun t58 =>
 stN 32 t4 t58 w fun w =>
 ldN 32 t4 w.heap fun r6 =>
 R (.tuple #[r6, t11]) w)
 (jn1 (fun k7 =>
 cnd t24
 (drH w fun S w =>
 nilc t0 fun t63 =>
 fad 1 t63 fun t64 =>
 rdS S (fun w => ldN 4 t64 w.heap) fun t65 =>
 rdS S (fun w => ldN 67 t6 w.heap) fun t66 =>
 rdS S (fun w => ldN 32 t10_2 w.heap) fun t67 =>
 efC (cal P f_snow_Add [t65, t66, t67]) w fun S t68 w =>
 ext 0 t68 fun t69 =>
 ext 1 t68 fun t70 =>
 efC (fun w K => stN 67 t6 t69 w (K undef)) w fun S _ w =>
 k7 t70 w)
 (drH w fun S w =>
 nilc t0 fun t73 =>
 fad 1 t73 fun t74 =>
 rdS S (fun w => ldN 4 t74 w.heap) fun t75 =>
 rdS S (fun w => ldN 32 t10_2 w.heap) fun t76 =>
 efC (cal P f_snow_New [t75, t76]) w fun S t77 w =>
 ext 0 t77 fun t78 =>
 ext 1 t77 fun t79 =>
 efC (fun w K => stN 67 t6 t78 w (K undef)) w fun S _ w =>
 k7 t79 w)) fun _ t11_1 w =>
 jn0 (fun k8 =>
 bi .eql t11_1 (.int .i64 0) fun t81 =>
 cnd t81
 (drH w fun S w =>
 nilc t0 fun t83 =>
 fad 5 t83 fun t84 =>
 rdS S (fun w => ld1 t84 w.heap) fun t85 =>
 fad 0 t3 fun t86 =>
 rdS S (fun w => ldN 32 t86 w.heap) fun t87 =>
 rdS S (fun w => ldN 67 t6 w.heap) fun t88 =>
 efC (fun w K => efU P (Instr.mapUpdate T_map_api_ID_api_Snow t85 t87 t88) w (K undef)) w fun S _ w =>
 k8 w)
 (k8 w)) fun _ w =>
 ldN 32 t10_2 w.heap fun t89 =>
 stN 32 t4 t89 w fun w =>
 ldN 32 t4 w.heap fun r9 =>
 R (.tuple #[r9, (.int .i64 0)]) w)))
theorem k_topo_Topo_Add : kO Tryd.f5 A_topo_Topo_Add = true := by kernel_rfl
theorem s_topo_Topo_Add (h : SQ Q (c_topo_Topo_Add t0 t1 w)) : cal P f_topo_Topo_Add [t0, t1] w Q := sO Tryd.func5 rfl (by kernel_rfl) k_topo_Topo_Add (by kernel_rfl) h

/-- (*flurry/topo.Topo).Poll -/
def A_topo_Topo_Poll : An := (An.s (An.r []) (An.s (An.b (An.s (An.r []) (An.s (An.s (An.r []) An.o) (An.s (An.r []) (An.s (An.s (An.r []) An.o) (An.s (An.d [0, 2, 3, 4, 5, 6, 1, 7, 8] []) (An.s (An.s (An.r []) An.o) An.o))))))) (An.s (An.r []) (An.s (An.r []) (An.s (An.r []) (An.s (An.r []) (An.s (An.j [9, 10] (An.b (An.l [9, 10] (An.b (An.s (An.r []) (An.s (An.s (An.dc [0, 1, 2, 3, 4, 5, 6, 7, 8, 9, 10, 11] [10] []) (An.s (An.r [[73], [77]]) (An.s (An.s (An.r []) (An.s (An.dc [0, 1, 2, 3, 4, 5, 6, 7, 8, 9, 10] [5] []) (An.s (An.s (An.r []) (An.s An.o An.o)) (An.s (An.r []) (An.s (An.r []) (An.s (An.r []) An.o)))))) An.o))) (An.s (An.r []) (An.s (An.s (An.r []) (An.s An.o An.o)) (An.s (An.dt (Pl.step 0 (Pl.step 1 (Pl.step 2 (Pl.step 3 (Pl.step 4 (Pl.step 5 (Pl.step 6 (Pl.step 7 (Pl.step 8 (Pl.step 9 (Pl.step 10 (Pl.step 11 (Pl.br (Pl.alt 12 (Pl.step 13 (Pl.step 14 (Pl.step 15 (Pl.step 16 (Pl.step 17 (Pl.step 18 Pl.nil)))))) (Pl.alt 16 (Pl.step 12 (Pl.step 13 (Pl.step 14 (Pl.step 15 (Pl.step 17 (Pl.step 18 Pl.nil)))))) Pl.non))))))))))))))) [12, 17] [22, 23]) (An.s (An.s (An.r []) (An.s An.o An.o)) (An.s (An.dc [0, 1, 2, 3, 4, 5, 6] [6] []) (An.s (An.r []) (An.s (An.r [[146]]) (An.s (An.r []) An.o)))))))))))))) (An.s (An.r []) (An.s (An.r []) An.o)))))))))
def c_topo_Topo_Poll (t0 t1 : Value) (w : World) (R : KR) : Prop :=
 cal P f_topo_Topo_none [t0] w fun t26 w =>
 cnd t26
 (R (.tuple #[(.slice none 0 0), (.slice none 0 0), (.int .i64 2)]) w)
 (cal P f_bag_Check [t1] w fun t29 w =>
 bi .neq t29 (.int .i64 0) fun t30 =>
 cnd t30
 (R (.tuple #[(.slice none 0 0), (.slice none 0 0), (.int .i64 70)]) w)
 (drH w fun S w =>
 nilc t0 fun t35 =>
 fad 1 t35 fun t36 =>
 fad 0 t36 fun t37 =>
 rdS S (fun w => ld1 t37 w.heap) fun t38 =>
 efS S (cal P f_bag_Total [t1]) w fun t33 w =>
 bi .gtr t33 t38 fun t39 =>
 cnd t39
 (R (.tuple #[(.slice none 0 0), (.slice none 0 0), (.int .i64 1)]) w)
 (cal P f_topo_Topo_counts [t0, t1] w fun t42 w =>
 efP P (Instr.makeMap T_map_api_ID_bool none) w fun t43 w =>
 nilc t0 fun t46 =>
 fad 0 t46 fun t47 =>
 ld1 t47 w.heap fun t48 =>
 cal P f_tree_Tree_Root [t48] w fun t49 w =>
 ext 0 t49 fun t50 =>
 ext 1 t49 fun t51 =>
 efP P (Instr.alloc T_api_ID true (.tuple #[])) w fun t11 w =>
 stN 32 t11 t50 w fun w =>
 jn2 (fun k0 =>
 lp2 (.slice none 0 0) (.slice none 0 0) w fun _ t9 t10 w again1 =>
 nilc t0 fun t54 =>
 fad 0 t54 fun t55 =>
 ld1 t55 w.heap fun t56 =>
 cal P f_tree_Tree_Root [t56] w fun t57 w =>
 ext 0 t57 fun t58 =>
 ext 1 t57 fun t59 =>
 efP P (Instr.alloc T_api_ID true (.tuple #[])) w fun t13 w =>
 stN 32 t13 t58 w fun w =>
 drH w fun S w =>
 nilc t0 fun t62 =>
 fad 5 t62 fun t63 =>
 rdS S (fun w => ld1 t63 w.heap) fun t64 =>
 rdS S (fun w => ldN 32 t11 w.heap) fun t65 =>
 rdS S (rdP P (Instr.lookup T_map_api_ID_api_Snow t64 t65 true)) fun t66 =>
 ext 0 t66 fun t67 =>
 ext 1 t66 fun t68 =>
 efS S (efP P (Instr.alloc T_api_Snow true (.tuple #[]))) w fun t15 w =>
 efC (fun w K => stN 67 t15 t67 w (K undef)) w fun S _ w =>
 jn1 (fun k2 =>
 gif t68 true
 (ldN 32 t11 w.heap fun t71 =>
 ldN 32 t13 w.heap fun t72 =>
 rdP P (eqS .eql T_api_ID (Operand.tmp 71) (Operand.tmp 72) t71 t72) w fun t73 =>
 k2 t73 w)
 (k2 undef w)) fun _ t73_1 w =>
 pik t68 t73_1 (.bool false) fun t74 =>
 jn1 (fun k3 =>
 gif t74 true
 (fad 66 t15 fun t76 =>
 ld1 t76 w.heap fun t77 =>
 k3 t77 w)
 (k3 undef w)) fun _ t77_1 w =>
 pik t74 t77_1 (.bool false) fun t78 =>
 cnd t78
 (ldN 67 t15 w.heap fun t79 =>
 cal P f_snow_Prefers [t79] w fun t80 w =>
 efP P (Instr.alloc T_api_ID true (.tuple #[])) w fun t17 w =>
 stN 32 t17 t80 w fun w =>
 drH w fun S w =>
 nilc t0 fun t83 =>
 fad 0 t83 fun t84 =>
 rdS S (fun w => ld1 t84 w.heap) fun t85 =>
 rdS S (fun w => ldN 32 t17 w.heap) fun t86 =>
 efC (cal P f_tree_Tree_Move [t85, t86]) w fun S t87 w =>
 ext 0 t87 fun t88 =>
 ext 1 t87 fun t89 =>
 bi .neq t89 (.int .i64 0) fun t91 =>
 cnd t91
 (k0 t9 t10 w)
 (ldN 32 t17 w.heap fun t93 =>
 efP P (Instr.buildSlice T_sl_api_ID 1 #[(0, t93)]) w fun t94 w =>
 efP P (Builtin.append_ #[T_sl_api_ID, T_sl_api_ID] T_sl_api_ID #[t9, t94]) w fun t95 w =>
 efP P (Builtin.append_ #[T_sl_api_ID, T_sl_api_ID] T_sl_api_ID #[t10, t88]) w fun t98 w =>
 ldN 32 t17 w.heap fun t99 =>
 stN 32 t11 t99 w fun w =>
 again1 t95 t98 w))
 (ldN 32 t11 w.heap fun t103 =>
 cal P f_topo_Topo_best [t0, t42, t103] w fun t104 w =>
 ext 0 t104 fun t105 =>
 ext 1 t104 fun t106 =>
 efP P (Instr.alloc T_api_ID true (.tuple #[])) w fun t20 w =>
 stN 32 t20 t105 w fun w =>
 nilc t0 fun t109 =>
 fad 1 t109 fun t110 =>
 fad 1 t110 fun t111 =>
 ld1 t111 w.heap fun t112 =>
 bi .lss t106 t112 fun t113 =>
 cnd t113
 (k0 t9 t10 w)
 (drH w fun S w =>
 jn2 (fun k4 =>
 nilc t0 fun t116 =>
 fad 1 t116 fun t117 =>
 rdS S (fun w => ldN 4 t117 w.heap) fun t118 =>
 nilc t0 fun t120 =>
 fad 5 t120 fun t121 =>
 rdS S (fun w => ld1 t121 w.heap) fun t122 =>
 rdS S (fun w => ldN 32 t11 w.heap) fun t123 =>
 rdS S (rdP P (Instr.lookup T_map_api_ID_api_Snow t122 t123 false)) fun t124 =>
 rdS S (fun w => ldN 32 t20 w.heap) fun t125 =>
 (efC (cal P f_snow_Poll [t118, t124, t125, t106]) w fun S t127_1 w =>
 ext 0 t127_1 fun t128_1 =>
 ext 1 t127_1 fun t129_1 =>
 efS S (efP P (Instr.alloc T_api_Snow true (.tuple #[]))) w fun t22_1 w =>
 efC (fun w K => stN 67 t22_1 t128_1 w (K undef)) w fun S _ w =>
 k4 t22_1 t129_1 w) ∧
 ((efS S (efP P (Instr.alloc T_api_Snow true (.tuple #[]))) w fun t22 w =>
 efC (cal P f_snow_Poll [t118, t124, t125, t106]) w fun S t127 w =>
 ext 0 t127 fun t128 =>
 ext 1 t127 fun t129 =>
 efC (fun w K => stN 67 t22 t128 w (K undef)) w fun S _ w =>
 k4 t22 t129 w) ∧
 (True))) fun _ t22_2 t23 w =>
 bi .neq t23 (.int .i64 0) fun t131 =>
 cnd t131
 (k0 t9 t10 w)
 (drH w fun S w =>
 nilc t0 fun t133 =>
 fad 5 t133 fun t134 =>
 rdS S (fun w => ld1 t134 w.heap) fun t135 =>
 rdS S (fun w => ldN 32 t11 w.heap) fun t136 =>
 rdS S (fun w => ldN 67 t22_2 w.heap) fun t137 =>
 efC (fun w K => efU P (Instr.mapUpdate T_map_api_ID_api_Snow t135 t136 t137) w (K undef)) w fun S _ w =>
 ldN 32 t11 w.heap fun t139 =>
 efU P (Instr.mapUpdate T_map_api_ID_bool t43 t139 (.bool true)) w fun w =>
 ldN 32 t11 w.heap fun t140 =>
 ldN 32 t13 w.heap fun t141 =>
 rdP P (eqS .neq T_api_ID (Operand.tmp 140) (Operand.tmp 141) t140 t141) w fun t142 =>
 jn1 (fun k5 =>
 gif t142 false
 (fad 66 t22_2 fun t144 =>
 ld1 t144 w.heap fun t145 =>
 notB t145 fun t146 =>
 k5 t146 w)
 (k5 undef w)) fun _ t146_1 w =>
 pik t142 (.bool true) t146_1 fun t147 =>
 cnd t147
 (ldN 32 t20 w.heap fun t148 =>
 stN 32 t11 t148 w fun w =>
 again1 t9 t10 w)
 (again1 t9 t10 w))))) fun _ t9_1 t10_1 w =>
 cal P f_topo_Topo_fails [t0, t43] w fun t151 w =>
 R (.tuple #[t9_1, t10_1, (.int .i64 0)]) w)))
theorem k_topo_Topo_Poll : kO Tryd.f6 A_topo_Topo_Poll = true := by kernel_rfl
theorem s_topo_Topo_Poll (h : SQ Q (c_topo_Topo_Poll t0 t1 w)) : cal P f_topo_Topo_Poll [t0, t1] w Q := sO Tryd.func6 rfl (by kernel_rfl) k_topo_Topo_Poll (by kernel_rfl) h

/-- (*flurry/topo.Topo).Snow -/
def A_topo_Topo_Snow : An := (An.s (An.r []) (An.s (An.s (An.r []) (An.s (An.s (An.r []) An.o) An.o)) (An.s (An.dc [0, 1, 2, 3, 4, 5, 6, 7, 8, 9, 10, 11] [10] []) (An.s (An.s (An.r []) (An.s (An.s (An.r []) An.o) An.o)) (An.s (An.r []) (An.s (An.r []) An.o))))))
def c_topo_Topo_Snow (t0 t1 : Value) (w : World) (R : KR) : Prop :=
 bx T_api_ID t1 w fun t3 w =>
 efP P (Instr.alloc T_api_Snow true (.tuple #[])) w fun t4 w =>
 cal P f_topo_Topo_none [t0] w fun t9 w =>
 cnd t9
 (rdP P (Instr.build T_api_Snow #[]) w fun t10 =>
 stN 67 t4 t10 w fun w =>
 ldN 67 t4 w.heap fun r0 =>
 R (.tuple #[r0, (.int .i64 2)]) w)
 (drH w fun S w =>
 nilc t0 fun t13 =>
 fad 5 t13 fun t14 =>
 rdS S (fun w => ld1 t14 w.heap) fun t15 =>
 rdS S (fun w => ldN 32 t3 w.heap) fun t16 =>
 rdS S (rdP P (Instr.lookup T_map_api_ID_api_Snow t15 t16 true)) fun t17 =>
 ext 0 t17 fun t18 =>
 ext 1 t17 fun t19 =>
 efS S (efP P (Instr.alloc T_api_Snow true (.tuple #[]))) w fun t6 w =>
 efC (fun w K => stN 67 t6 t18 w (K undef)) w fun S _ w =>
 notB t19 fun t21 =>
 cnd t21
 (rdP P (Instr.build T_api_Snow #[]) w fun t22 =>
 stN 67 t4 t22 w fun w =>
 ldN 67 t4 w.heap fun r1 =>
 R (.tuple #[r1, (.int .i64 4)]) w)
 (fad 0 t6 fun t23 =>
 ld1 t23 w.heap fun t24 =>
 efP P (Builtin.append_ #[T_sl_api_Choice, T_sl_api_Choice] T_sl_api_Choice #[(.slice none 0 0), t24]) w fun t25 w =>
 fad 0 t6 fun t26 =>
 st1 t26 t25 w fun w =>
 ldN 67 t6 w.heap fun t27 =>
 stN 67 t4 t27 w fun w =>
 ldN 67 t4 w.heap fun r2 =>
 R (.tuple #[r2, (.int .i64 0)]) w))
theorem k_topo_Topo_Snow : kO Tryd.f7 A_topo_Topo_Snow = true := by kernel_rfl
theorem s_topo_Topo_Snow (h : SQ Q (c_topo_Topo_Snow t0 t1 w)) : cal P f_topo_Topo_Snow [t0, t1] w Q := sO Tryd.func7 rfl (by kernel_rfl) k_topo_Topo_Snow (by kernel_rfl) h

/-- (*flurry/topo.Topo).Get -/
def A_topo_Topo_Get : An := (An.s (An.r []) (An.s (An.s (An.r []) (An.s (An.s (An.r []) An.o) An.o)) (An.s (An.dc [0, 1, 2, 3, 4, 5, 6, 7, 8, 9] [5, 8] []) An.o)))
def c_topo_Topo_Get (t0 t1 : Value) (w : World) (R : KR) : Prop :=
 bx T_api_ID t1 w fun t3 w =>
 efP P (Instr.alloc T_api_Block true (.tuple #[])) w fun t4 w =>
 cal P f_topo_Topo_none [t0] w fun t7 w =>
 cnd t7
 (rdP P (Instr.build T_api_Block #[]) w fun t8 =>
 stN 34 t4 t8 w fun w =>
 ldN 34 t4 w.heap fun r0 =>
 R (.tuple #[r0, (.int .i64 2)]) w)
 (drH w fun S w =>
 nilc t0 fun t10 =>
 fad 0 t10 fun t11 =>
 rdS S (fun w => ld1 t11 w.heap) fun t12 =>
 rdS S (fun w => ldN 32 t3 w.heap) fun t13 =>
 efC (cal P f_tree_Tree_Get [t12, t13]) w fun S t14 w =>
 ext 0 t14 fun t15 =>
 ext 1 t14 fun t16 =>
 efC (fun w K => stN 34 t4 t15 w (K undef)) w fun S _ w =>
 ldN 34 t4 w.heap fun r1 =>
 R (.tuple #[r1, t16]) w)
theorem k_topo_Topo_Get : kO Tryd.f8 A_topo_Topo_Get = true := by kernel_rfl
theorem s_topo_Topo_Get (h : SQ Q (c_topo_Topo_Get t0 t1 w)) : cal P f_topo_Topo_Get [t0, t1] w Q := sO Tryd.func8 rfl (by kernel_rfl) k_topo_Topo_Get (by kernel_rfl) h

/-- (*flurry/topo.Topo).Root -/
def A_topo_Topo_Root : An := (An.s (An.r []) (An.s (An.s (An.r []) (An.s (An.s (An.r []) An.o) An.o)) (An.s (An.r []) An.o)))
def c_topo_Topo_Root (t0 : Value) (w : World) (R : KR) : Prop :=
 efP P (Instr.alloc T_api_ID true (.tuple #[])) w fun t2 w =>
 cal P f_topo_Topo_none [t0] w fun t5 w =>
 cnd t5
 (rdP P (Instr.build T_api_ID #[]) w fun t6 =>
 stN 32 t2 t6 w fun w =>
 ldN 32 t2 w.heap fun r0 =>
 R (.tuple #[r0, (.int .i64 0)]) w)
 (nilc t0 fun t8 =>
 fad 0 t8 fun t9 =>
 ld1 t9 w.heap fun t10 =>
 cal P f_tree_Tree_Root [t10] w fun t11 w =>
 ext 0 t11 fun t12 =>
 ext 1 t11 fun t13 =>
 stN 32 t2 t12 w fun w =>
 ldN 32 t2 w.heap fun r1 =>
 R (.tuple #[r1, t13]) w)
theorem k_topo_Topo_Root : kO Tryd.f9 A_topo_Topo_Root = true := by kernel_rfl
theorem s_topo_Topo_Root (h : SQ Q (c_topo_Topo_Root t0 w)) : cal P f_topo_Topo_Root [t0] w Q := sO Tryd.func9 rfl (by kernel_rfl) k_topo_Topo_Root (by kernel_rfl) h

/-- flurry/flurryref17.Same -/
def A_ref17_Same : An := (An.s (An.r []) (An.s (An.s (An.r [[18], [25], [32], [39]]) (An.s (An.s (An.r []) An.o) An.o)) (An.s (An.s (An.r []) (An.b (An.l [5] (An.s (An.s (An.r []) (An.s An.o An.o)) (An.s (An.b (An.s (An.r []) (An.s (An.s (An.r []) An.o) An.o))) (An.r [])))))) (An.s (An.r []) An.o))))
def c_ref17_Same (t0 t1 : Value) (w : World) (R : KR) : Prop :=
 bx T_api_Snow t0 w fun t2 w =>
 bx T_api_Snow t1 w fun t3 w =>
 fad 0 t2 fun t6 =>
 ld1 t6 w.heap fun t7 =>
 lenS t7 fun t8 =>
 fad 0 t3 fun t9 =>
 ld1 t9 w.heap fun t10 =>
 lenS t10 fun t11 =>
 bi .neq t8 t11 fun t12 =>
 jn1 (fun k0 =>
 gif t12 false
 (fad 1 t2 fun t14 =>
 ldN 32 t14 w.heap fun t15 =>
 fad 1 t3 fun t16 =>
 ldN 32 t16 w.heap fun t17 =>
 rdP P (eqS .neq T_api_ID (Operand.tmp 15) (Operand.tmp 17) t15 t17) w fun t18 =>
 k0 t18 w)
 (k0 undef w)) fun _ t18_1 w =>
 pik t12 (.bool true) t18_1 fun t19 =>
 jn1 (fun k1 =>
 gif t19 false
 (fad 33 t2 fun t21 =>
 ldN 32 t21 w.heap fun t22 =>
 fad 33 t3 fun t23 =>
 ldN 32 t23 w.heap fun t24 =>
 rdP P (eqS .neq T_api_ID (Operand.tmp 22) (Operand.tmp 24) t22 t24) w fun t25 =>
 k1 t25 w)
 (k1 undef w)) fun _ t25_1 w =>
 pik t19 (.bool true) t25_1 fun t26 =>
 jn1 (fun k2 =>
 gif t26 false
 (fad 65 t2 fun t28 =>
 ld1 t28 w.heap fun t29 =>
 fad 65 t3 fun t30 =>
 ld1 t30 w.heap fun t31 =>
 bi .neq t29 t31 fun t32 =>
 k2 t32 w)
 (k2 undef w)) fun _ t32_1 w =>
 pik t26 (.bool true) t32_1 fun t33 =>
 jn1 (fun k3 =>
 gif t33 false
 (fad 66 t2 fun t35 =>
 ld1 t35 w.heap fun t36 =>
 fad 66 t3 fun t37 =>
 ld1 t37 w.heap fun t38 =>
 rdP P (eqS .neq T_bool (Operand.tmp 36) (Operand.tmp 38) t36 t38) w fun t39 =>
 k3 t39 w)
 (k3 undef w)) fun _ t39_1 w =>
 pik t33 (.bool true) t39_1 fun t40 =>
 cnd t40
 (R (.bool false) w)
 (lp1 (.int .i64 0) w fun _ t5 w again4 =>
 fad 0 t2 fun t42 =>
 ld1 t42 w.heap fun t43 =>
 lenS t43 fun t44 =>
 bi .lss t5 t44 fun t45 =>
 cnd t45
 (drw w fun w =>
 fad 0 t2 fun t48 =>
 ld1 t48 w.heap fun t49 =>
 ixs 33 t49 t5 fun t51 =>
 ldN 33 t51 w.heap fun t52 =>
 fad 0 t3 fun t53 =>
 ld1 t53 w.heap fun t54 =>
 ixs 33 t54 t5 fun t56 =>
 ldN 33 t56 w.heap fun t57 =>
 rdP P (eqS .neq T_api_Choice (Operand.tmp 52) (Operand.tmp 57) t52 t57) w fun t58 =>
 cnd t58
 (R (.bool false) w)
 (bi .add t5 (.int .i64 1) fun t47 =>
 again4 t47 w))
 (R (.bool true) w))
theorem k_ref17_Same : kO Tryd.f10 A_ref17_Same = true := by kernel_rfl
theorem s_ref17_Same (h : SQ Q (c_ref17_Same t0 t1 w)) : cal P f_ref17_Same [t0, t1] w Q := sO Tryd.func10 rfl (by kernel_rfl) k_ref17_Same (by kernel_rfl) h

/-- flurry/flurryref03.Same -/
def A_ref03_Same : An := (An.s (An.r []) (An.s (An.r [[15], [24]]) An.o))
def c_ref03_Same (t0 t1 : Value) (w : World) (R : KR) : Prop :=
 bx T_api_Block t0 w fun t2 w =>
 bx T_api_Block t1 w fun t3 w =>
 fad 0 t2 fun t5 =>
 ldN 32 t5 w.heap fun t6 =>
 fad 0 t3 fun t7 =>
 ldN 32 t7 w.heap fun t8 =>
 rdP P (eqS .eql T_api_ID (Operand.tmp 6) (Operand.tmp 8) t6 t8) w fun t9 =>
 jn1 (fun k0 =>
 gif t9 true
 (fad 32 t2 fun t11 =>
 ld1 t11 w.heap fun t12 =>
 fad 32 t3 fun t13 =>
 ld1 t13 w.heap fun t14 =>
 bi .eql t12 t14 fun t15 =>
 k0 t15 w)
 (k0 undef w)) fun _ t15_1 w =>
 pik t9 t15_1 (.bool false) fun t16 =>
 jn1 (fun k1 =>
 gif t16 true
 (fad 33 t2 fun t18 =>
 ld1 t18 w.heap fun t19 =>
 rdP P (convert T_sl_uint8 T_string t19) w fun t20 =>
 fad 33 t3 fun t21 =>
 ld1 t21 w.heap fun t22 =>
 rdP P (convert T_sl_uint8 T_string t22) w fun t23 =>
 rdP P (eqS .eql T_string (Operand.tmp 20) (Operand.tmp 23) t20 t23) w fun t24 =>
 k1 t24 w)
 (k1 undef w)) fun _ t24_1 w =>
 pik t16 t24_1 (.bool false) fun t25 =>
 R t25 w
theorem k_ref03_Same : kO Tryd.f11 A_ref03_Same = true := by kernel_rfl
theorem s_ref03_Same (h : SQ Q (c_ref03_Same t0 t1 w)) : cal P f_ref03_Same [t0, t1] w Q := sO Tryd.func11 rfl (by kernel_rfl) k_ref03_Same (by kernel_rfl) h

/-- (*flurry/topo.Topo).Count -/
def A_topo_Topo_Count : An := (An.s (An.r []) (An.s (An.s (An.r [[12]]) (An.s (An.s (An.r []) An.o) An.o)) (An.s (An.dt (Pl.step 0 (Pl.step 1 (Pl.br (Pl.alt 2 (Pl.step 3 (Pl.step 4 (Pl.step 5 Pl.nil))) (Pl.alt 3 (Pl.step 2 (Pl.step 4 (Pl.step 5 Pl.nil))) Pl.non))))) [2] [6]) An.o)))
def c_topo_Topo_Count (t0 t1 t2 : Value) (w : World) (R : KR) : Prop :=
 bx T_api_ID t2 w fun t5 w =>
 cal P f_topo_Topo_none [t0] w fun t8 w =>
 jn1 (fun k0 =>
 gif t8 false
 (cal P f_bag_Check [t1] w fun t11 w =>
 bi .neq t11 (.int .i64 0) fun t12 =>
 k0 t12 w)
 (k0 undef w)) fun _ t12_1 w =>
 pik t8 (.bool true) t12_1 fun t13 =>
 cnd t13
 (R (.int .i64 0) w)
 (drH w fun S w =>
 jn1 (fun k1 =>
 (efC (cal P f_topo_Topo_counts [t0, t1]) w fun S t16_1 w =>
 rdS S (fun w => ldN 32 t5 w.heap) fun t17_1 =>
 rdS S (rdP P (Instr.lookup T_map_api_ID_int t16_1 t17_1 false)) fun t18_1 =>
 k1 t18_1 w) ∧
 ((rdS S (fun w => ldN 32 t5 w.heap) fun t17 =>
 efC (cal P f_topo_Topo_counts [t0, t1]) w fun S t16 w =>
 rdS S (rdP P (Instr.lookup T_map_api_ID_int t16 t17 false)) fun t18 =>
 k1 t18 w) ∧
 (True))) fun _ t6 w =>
 R t6 w)
theorem k_topo_Topo_Count : kO Tryd.f12 A_topo_Topo_Count = true := by kernel_rfl
theorem s_topo_Topo_Count (h : SQ Q (c_topo_Topo_Count t0 t1 t2 w)) : cal P f_topo_Topo_Count [t0, t1, t2] w Q := sO Tryd.func12 rfl (by kernel_rfl) k_topo_Topo_Count (by kernel_rfl) h

/-- (*flurry/topo.Topo).Preference -/
def A_topo_Topo_Preference : An := (An.s (An.r []) (An.s (An.s (An.r []) (An.s (An.s (An.r []) An.o) An.o)) (An.s (An.r []) (An.b (An.l [] (An.b (An.s (An.dc [0, 1, 2, 3, 4, 5, 6, 7, 8, 9, 10, 11] [10] []) (An.s (An.s (An.r []) (An.s (An.s (An.r []) An.o) An.o)) (An.r [])))))))))
def c_topo_Topo_Preference (t0 : Value) (w : World) (R : KR) : Prop :=
 efP P (Instr.alloc T_api_ID true (.tuple #[])) w fun t2 w =>
 cal P f_topo_Topo_none [t0] w fun t8 w =>
 cnd t8
 (rdP P (Instr.build T_api_ID #[]) w fun t9 =>
 stN 32 t2 t9 w fun w =>
 ldN 32 t2 w.heap fun r0 =>
 R r0 w)
 (nilc t0 fun t12 =>
 fad 0 t12 fun t13 =>
 ld1 t13 w.heap fun t14 =>
 cal P f_tree_Tree_Root [t14] w fun t15 w =>
 ext 0 t15 fun t16 =>
 ext 1 t15 fun t17 =>
 efP P (Instr.alloc T_api_ID true (.tuple #[])) w fun t3 w =>
 stN 32 t3 t16 w fun w =>
 lp0 w fun _ w again1 =>
 drH w fun S w =>
 nilc t0 fun t20 =>
 fad 5 t20 fun t21 =>
 rdS S (fun w => ld1 t21 w.heap) fun t22 =>
 rdS S (fun w => ldN 32 t3 w.heap) fun t23 =>
 rdS S (rdP P (Instr.lookup T_map_api_ID_api_Snow t22 t23 true)) fun t24 =>
 ext 0 t24 fun t25 =>
 ext 1 t24 fun t26 =>
 efS S (efP P (Instr.alloc T_api_Snow true (.tuple #[]))) w fun t5 w =>
 efC (fun w K => stN 67 t5 t25 w (K undef)) w fun S _ w =>
 notB t26 fun t28 =>
 cnd t28
 (ldN 32 t3 w.heap fun t29 =>
 stN 32 t2 t29 w fun w =>
 ldN 32 t2 w.heap fun r2 =>
 R r2 w)
 (ldN 67 t5 w.heap fun t30 =>
 cal P f_snow_Prefers [t30] w fun t31 w =>
 stN 32 t3 t31 w fun w =>
 again1 w))
theorem k_topo_Topo_Preference : kO Tryd.f13 A_topo_Topo_Preference = true := by kernel_rfl
theorem s_topo_Topo_Preference (h : SQ Q (c_topo_Topo_Preference t0 w)) : cal P f_topo_Topo_Preference [t0] w Q := sO Tryd.func13 rfl (by kernel_rfl) k_topo_Topo_Preference (by kernel_rfl) h

/-- (*flurry/topo.Topo).Preferred -/
def A_topo_Topo_Preferred : An := (An.s (An.r []) (An.s (An.dc [0, 1, 2, 3, 4, 5, 6, 7, 8, 10, 9, 11, 12, 13] [1] [[16]]) An.o))
def c_topo_Topo_Preferred (t0 t1 : Value) (w : World) (R : KR) : Prop :=
 bx T_api_ID t1 w fun t3 w =>
 drH w fun S w =>
 efC (cal P f_topo_Topo_none [t0]) w fun S t6 w =>
 notB t6 fun t7 =>
 jn1 (fun k0 =>
 gif t7 true
 (nilc t0 fun t10 =>
 fad 0 t10 fun t11 =>
 rdS S (fun w => ld1 t11 w.heap) fun t12 =>
 rdS S (fun w => ldN 32 t3 w.heap) fun t15 =>
 efS S (cal P f_topo_Topo_Preference [t0]) w fun t14 w =>
 efS S (cal P f_tree_Tree_Within [t12, t14, t15]) w fun t16 w =>
 k0 t16 w)
 (k0 undef w)) fun _ t16_1 w =>
 pik t7 t16_1 (.bool false) fun t17 =>
 R t17 w
theorem k_topo_Topo_Preferred : kO Tryd.f14 A_topo_Topo_Preferred = true := by kernel_rfl
theorem s_topo_Topo_Preferred (h : SQ Q (c_topo_Topo_Preferred t0 t1 w)) : cal P f_topo_Topo_Preferred [t0, t1] w Q := sO Tryd.func14 rfl (by kernel_rfl) k_topo_Topo_Preferred (by kernel_rfl) h

/-- (*flurry/topo.Topo).Tree -/
def A_topo_Topo_Tree : An := (An.s (An.r []) (An.s (An.s (An.r []) (An.s (An.s (An.r []) An.o) An.o)) (An.s (An.r []) An.o)))
def c_topo_Topo_Tree (t0 : Value) (w : World) (R : KR) : Prop :=
 cal P f_topo_Topo_none [t0] w fun t4 w =>
 cnd t4
 (R (.pointer none) w)
 (nilc t0 fun t6 =>
 fad 0 t6 fun t7 =>
 ld1 t7 w.heap fun t8 =>
 cal P f_tree_Tree_Clone [t8] w fun t9 w =>
 R t9 w)
theorem k_topo_Topo_Tree : kO Tryd.f15 A_topo_Topo_Tree = true := by kernel_rfl
theorem s_topo_Topo_Tree (h : SQ Q (c_topo_Topo_Tree t0 w)) : cal P f_topo_Topo_Tree [t0] w Q := sO Tryd.func15 rfl (by kernel_rfl) k_topo_Topo_Tree (by kernel_rfl) h

/-- (*flurry/topo.Topo).Has -/
def A_topo_Topo_Has : An := (An.s (An.r []) (An.s (An.dc [0, 1, 2, 3, 4, 5, 6, 7, 8, 9, 10, 11] [1] [[14]]) An.o))
def c_topo_Topo_Has (t0 t1 : Value) (w : World) (R : KR) : Prop :=
 bx T_api_ID t1 w fun t3 w =>
 drH w fun S w =>
 efC (cal P f_topo_Topo_none [t0]) w fun S t6 w =>
 notB t6 fun t7 =>
 jn1 (fun k0 =>
 gif t7 true
 (nilc t0 fun t10 =>
 fad 0 t10 fun t11 =>
 rdS S (fun w => ld1 t11 w.heap) fun t12 =>
 rdS S (fun w => ldN 32 t3 w.heap) fun t13 =>
 efS S (cal P f_tree_Tree_Has [t12, t13]) w fun t14 w =>
 k0 t14 w)
 (k0 undef w)) fun _ t14_1 w =>
 pik t7 t14_1 (.bool false) fun t15 =>
 R t15 w
theorem k_topo_Topo_Has : kO Tryd.f16 A_topo_Topo_Has = true := by kernel_rfl
theorem s_topo_Topo_Has (h : SQ Q (c_topo_Topo_Has t0 t1 w)) : cal P f_topo_Topo_Has [t0, t1] w Q := sO Tryd.func16 rfl (by kernel_rfl) k_topo_Topo_Has (by kernel_rfl) h

/-- (*flurry/topo.Topo).Len -/
def A_topo_Topo_Len : An := (An.s (An.r []) (An.s (An.s (An.r []) (An.s (An.s (An.r []) An.o) An.o)) (An.s (An.r []) An.o)))
def c_topo_Topo_Len (t0 : Value) (w : World) (R : KR) : Prop :=
 cal P f_topo_Topo_none [t0] w fun t4 w =>
 cnd t4
 (R (.int .i64 0) w)
 (nilc t0 fun t6 =>
 fad 0 t6 fun t7 =>
 ld1 t7 w.heap fun t8 =>
 cal P f_tree_Tree_Len [t8] w fun t9 w =>
 R t9 w)
theorem k_topo_Topo_Len : kO Tryd.f17 A_topo_Topo_Len = true := by kernel_rfl
theorem s_topo_Topo_Len (h : SQ Q (c_topo_Topo_Len t0 w)) : cal P f_topo_Topo_Len [t0] w Q := sO Tryd.func17 rfl (by kernel_rfl) k_topo_Topo_Len (by kernel_rfl) h

/-- (*flurry/topo.Topo).Clone -/
def A_topo_Topo_Clone : An := (An.s (An.r []) (An.s (An.s (An.r []) (An.s (An.s (An.r []) An.o) An.o)) (An.s (An.dt (Pl.step 0 (Pl.step 1 (Pl.step 2 (Pl.step 3 (Pl.step 5 (Pl.step 6 (Pl.step 7 (Pl.step 8 (Pl.br (Pl.alt 4 (Pl.step 9 (Pl.step 10 (Pl.step 11 (Pl.step 12 Pl.nil)))) (Pl.alt 9 (Pl.step 4 (Pl.step 10 (Pl.step 11 (Pl.step 12 Pl.nil)))) Pl.non))))))))))) [11] [3]) (An.s (An.s (An.r []) (An.b (An.l [] (An.s (An.r []) (An.s (An.s An.o An.o) (An.b (An.s (An.r []) (An.dc [0, 1, 2, 3, 4, 5, 6] [6] [])))))))) (An.s (An.r []) An.o)))))
def c_topo_Topo_Clone (t0 : Value) (w : World) (R : KR) : Prop :=
 cal P f_topo_Topo_none [t0] w fun t7 w =>
 cnd t7
 (R (.pointer none) w)
 (drH w fun S w =>
 jn1 (fun k0 =>
 nilc t0 fun t9 =>
 fad 0 t9 fun t10 =>
 rdS S (fun w => ld1 t10 w.heap) fun t11 =>
 nilc t0 fun t14 =>
 fad 1 t14 fun t15 =>
 rdS S (fun w => ldN 4 t15 w.heap) fun t16 =>
 (efS S (cal P f_tree_Tree_Clone [t11]) w fun t12_1 w =>
 efS S (efP P (Instr.makeMap T_map_api_ID_api_Snow none)) w fun t17_1 w =>
 rdS S (rdP P (Instr.build T_topo_Topo #[(0, t12_1), (1, t16), (2, t17_1)])) fun t18_1 =>
 efC (bx T_topo_Topo t18_1) w fun S t19_1 w =>
 k0 t19_1 w) ∧
 ((efS S (efP P (Instr.makeMap T_map_api_ID_api_Snow none)) w fun t17 w =>
 efS S (cal P f_tree_Tree_Clone [t11]) w fun t12 w =>
 rdS S (rdP P (Instr.build T_topo_Topo #[(0, t12), (1, t16), (2, t17)])) fun t18 =>
 efC (bx T_topo_Topo t18) w fun S t19 w =>
 k0 t19 w) ∧
 (True))) fun _ t3 w =>
 nilc t0 fun t21 =>
 fad 5 t21 fun t22 =>
 ld1 t22 w.heap fun t23 =>
 efP P (Instr.range T_map_api_ID_api_Snow t23) w fun t24 w =>
 lp0 w fun _ w again1 =>
 efP P (Instr.next t24 false T_) w fun t25 w =>
 ext 0 t25 fun t26 =>
 cnd t26
 (rdP P (Instr.entry t24) w fun t27 =>
 ext 0 t27 fun t28 =>
 ext 1 t27 fun t29 =>
 efP P (Instr.alloc T_api_ID true (.tuple #[])) w fun t4 w =>
 efP P (Instr.alloc T_api_Snow true (.tuple #[])) w fun t5 w =>
 stN 32 t4 t28 w fun w =>
 stN 67 t5 t29 w fun w =>
 drH w fun S w =>
 nilc t3 fun t31 =>
 fad 5 t31 fun t32 =>
 rdS S (fun w => ld1 t32 w.heap) fun t33 =>
 rdS S (fun w => ldN 32 t4 w.heap) fun t34 =>
 rdS S (fun w => ldN 67 t5 w.heap) fun t35 =>
 efC (fun w K => efU P (Instr.mapUpdate T_map_api_ID_api_Snow t33 t34 t35) w (K undef)) w fun S _ w =>
 again1 w)
 (R t3 w))
theorem k_topo_Topo_Clone : kO Tryd.f18 A_topo_Topo_Clone = true := by kernel_rfl
theorem s_topo_Topo_Clone (h : SQ Q (c_topo_Topo_Clone t0 w)) : cal P f_topo_Topo_Clone [t0] w Q := sO Tryd.func18 rfl (by kernel_rfl) k_topo_Topo_Clone (by kernel_rfl) h

/-- flurry/block.First -/
def A_block_First : An := (An.s (An.r []) (An.s (An.r []) An.o))
def c_block_First (t0 : Value) (w : World) (R : KR) : Prop :=
 efP P (Instr.alloc T_api_Block true (.tuple #[])) w fun t2 w =>
 rdP P (Instr.build T_api_Block #[(2, t0)]) w fun t5 =>
 cal P f_block_made [t5] w fun t6 w =>
 ext 0 t6 fun t7 =>
 ext 1 t6 fun t8 =>
 stN 34 t2 t7 w fun w =>
 ldN 34 t2 w.heap fun r0 =>
 R (.tuple #[r0, t8]) w
theorem k_block_First : kO Tryd.f19 A_block_First = true := by kernel_rfl
theorem s_block_First (h : SQ Q (c_block_First t0 w)) : cal P f_block_First [t0] w Q := sO Tryd.func19 rfl (by kernel_rfl) k_block_First (by kernel_rfl) h

/-- flurry/block.ID -/
def A_block_ID : An := (An.s (An.r []) (An.s (An.r []) (An.s (An.s (An.r []) (An.s (An.s (An.r []) An.o) An.o)) (An.s (An.r []) An.o))))
def c_block_ID (t0 : Value) (w : World) (R : KR) : Prop :=
 bx T_api_Block t0 w fun t1 w =>
 efP P (Instr.alloc T_api_ID true (.tuple #[])) w fun t2 w =>
 ldN 34 t1 w.heap fun t7 =>
 cal P f_block_Bytes [t7] w fun t8 w =>
 ext 0 t8 fun t9 =>
 ext 1 t8 fun t10 =>
 bi .neq t10 (.int .i64 0) fun t12 =>
 cnd t12
 (rdP P (Instr.build T_api_ID #[]) w fun t13 =>
 stN 32 t2 t13 w fun w =>
 ldN 32 t2 w.heap fun r0 =>
 R (.tuple #[r0, t10]) w)
 (cal P f_sha_Sum [t9] w fun t16 w =>
 stN 32 t2 t16 w fun w =>
 ldN 32 t2 w.heap fun r1 =>
 R (.tuple #[r1, (.int .i64 0)]) w)
theorem k_block_ID : kO Tryd.f20 A_block_ID = true := by kernel_rfl
theorem s_block_ID (h : SQ Q (c_block_ID t0 w)) : cal P f_block_ID [t0] w Q := sO Tryd.func20 rfl (by kernel_rfl) k_block_ID (by kernel_rfl) h

/-- flurry/topo.New -/
def A_topo_New : An := (An.s (An.r []) (An.s (An.s (An.r []) (An.s (An.r []) (An.s (An.s (An.r []) An.o) An.o))) (An.s (An.r []) (An.s (An.s (An.r []) (An.s (An.s (An.r []) An.o) An.o)) (An.s (An.r []) An.o)))))
def c_topo_New (t0 t1 t2 t3 : Value) (w : World) (R : KR) : Prop :=
 bx T_api_Params t0 w fun t4 w =>
 bx T_api_ID t1 w fun t5 w =>
 ldN 4 t4 w.heap fun t13 =>
 cal P f_snow_Params [t13] w fun t14 w =>
 bi .neq t14 (.int .i64 0) fun t16 =>
 cnd t16
 (R (.tuple #[(.pointer none), t14]) w)
 (ldN 32 t5 w.heap fun t19 =>
 cal P f_tree_New [t19, t2, t3] w fun t22 w =>
 ext 0 t22 fun t23 =>
 ext 1 t22 fun t24 =>
 bi .neq t24 (.int .i64 0) fun t26 =>
 cnd t26
 (R (.tuple #[(.pointer none), t24]) w)
 (ldN 4 t4 w.heap fun t29 =>
 efP P (Instr.makeMap T_map_api_ID_api_Snow none) w fun t30 w =>
 rdP P (Instr.build T_topo_Topo #[(0, t23), (1, t29), (2, t30)]) w fun t31 =>
 bx T_topo_Topo t31 w fun t32 w =>
 R (.tuple #[t32, (.int .i64 0)]) w))
theorem k_topo_New : kO Tryd.f21 A_topo_New = true := by kernel_rfl
theorem s_topo_New (h : SQ Q (c_topo_New t0 t1 t2 t3 w)) : cal P f_topo_New [t0, t1, t2, t3] w Q := sO Tryd.func21 rfl (by kernel_rfl) k_topo_New (by kernel_rfl) h

/-- flurry/flurrylaw19.one -/
def A_law19_one : An := (An.s (An.r []) (An.s (An.r []) An.o))
def c_law19_one (w : World) (R : KR) : Prop :=
 efP P (Instr.alloc T_api_Params true (.tuple #[])) w fun t0 w =>
 rdP P (Instr.build T_api_Params #[(0, (.int .i64 1)), (1, (.int .i64 1)), (2, (.int .i64 1)), (3, (.int .i64 1))]) w fun t1 =>
 stN 4 t0 t1 w fun w =>
 ldN 4 t0 w.heap fun r0 =>
 R r0 w
theorem k_law19_one : kO Tryd.f22 A_law19_one = true := by kernel_rfl
theorem s_law19_one (h : SQ Q (c_law19_one w)) : cal P f_law19_one [] w Q := sO Tryd.func22 rfl (by kernel_rfl) k_law19_one (by kernel_rfl) h

/-- flurry/block.Child -/
def A_block_Child : An := (An.s (An.r []) (An.s (An.r []) (An.s (An.s (An.r [[18]]) (An.s (An.s (An.r []) An.o) An.o)) (An.s (An.r []) An.o))))
def c_block_Child (t0 t1 : Value) (w : World) (R : KR) : Prop :=
 bx T_api_Block t0 w fun t2 w =>
 efP P (Instr.alloc T_api_Block true (.tuple #[])) w fun t4 w =>
 ldN 34 t2 w.heap fun t9 =>
 cal P f_block_ID [t9] w fun t10 w =>
 ext 0 t10 fun t11 =>
 ext 1 t10 fun t12 =>
 efP P (Instr.alloc T_api_ID true (.tuple #[])) w fun t6 w =>
 stN 32 t6 t11 w fun w =>
 bi .neq t12 (.int .i64 0) fun t14 =>
 jn1 (fun k0 =>
 gif t14 false
 (fad 32 t2 fun t16 =>
 ld1 t16 w.heap fun t17 =>
 bi .eql t17 (.int .i64 9223372036854775807) fun t18 =>
 k0 t18 w)
 (k0 undef w)) fun _ t18_1 w =>
 pik t14 (.bool true) t18_1 fun t19 =>
 cnd t19
 (rdP P (Instr.build T_api_Block #[]) w fun t20 =>
 stN 34 t4 t20 w fun w =>
 ldN 34 t4 w.heap fun r1 =>
 R (.tuple #[r1, (.int .i64 30)]) w)
 (ldN 32 t6 w.heap fun t21 =>
 fad 32 t2 fun t22 =>
 ld1 t22 w.heap fun t23 =>
 bi .add t23 (.int .i64 1) fun t24 =>
 rdP P (Instr.build T_api_Block #[(0, t21), (1, t24), (2, t1)]) w fun t26 =>
 cal P f_block_made [t26] w fun t27 w =>
 ext 0 t27 fun t28 =>
 ext 1 t27 fun t29 =>
 stN 34 t4 t28 w fun w =>
 ldN 34 t4 w.heap fun r2 =>
 R (.tuple #[r2, t29]) w)
theorem k_block_Child : kO Tryd.f23 A_block_Child = true := by kernel_rfl
theorem s_block_Child (h : SQ Q (c_block_Child t0 t1 w)) : cal P f_block_Child [t0, t1] w Q := sO Tryd.func23 rfl (by kernel_rfl) k_block_Child (by kernel_rfl) h

/-- slices.Equal[[]flurry/api.ID,flurry/api.ID] -/
def A_slices_Equal_api_ID_api_ID : An := (An.s (An.r []) (An.s (An.s (An.r []) (An.s (An.s (An.r []) An.o) An.o)) (An.s (An.s (An.r []) (An.b (An.l [13] (An.s (An.r []) (An.s (An.s An.o An.o) (An.s (An.b (An.s (An.r []) (An.s (An.r []) (An.s (An.s (An.r []) An.o) An.o)))) (An.r []))))))) (An.s (An.r []) An.o))))
def c_slices_Equal_api_ID_api_ID (t0 t1 : Value) (w : World) (R : KR) : Prop :=
 lenS t0 fun t7 =>
 lenS t1 fun t9 =>
 bi .neq t7 t9 fun t10 =>
 cnd t10
 (R (.bool false) w)
 (lenS t0 fun t12 =>
 lp1 (.int .i64 0) w fun _ t13 w again0 =>
 bi .lss t13 t12 fun t14 =>
 cnd t14
 (drw w fun w =>
 ixs 32 t0 t13 fun t18 =>
 ldN 32 t18 w.heap fun t19 =>
 ixs 32 t1 t13 fun t22 =>
 ldN 32 t22 w.heap fun t23 =>
 rdP P (eqS .neq T_api_ID (Operand.tmp 19) (Operand.tmp 23) t19 t23) w fun t24 =>
 cnd t24
 (R (.bool false) w)
 (bi .add t13 (.int .i64 1) fun t25 =>
 again0 t25 w))
 (R (.bool true) w))
theorem k_slices_Equal_api_ID_api_ID : kO Tryd.f24 A_slices_Equal_api_ID_api_ID = true := by kernel_rfl
theorem s_slices_Equal_api_ID_api_ID (h : SQ Q (c_slices_Equal_api_ID_api_ID t0 t1 w)) : cal P f_slices_Equal_api_ID_api_ID [t0, t1] w Q := sO Tryd.func24 rfl (by kernel_rfl) k_slices_Equal_api_ID_api_ID (by kernel_rfl) h

/-- (*flurry/topo.Topo).none -/
def A_topo_Topo_none : An := (An.s (An.r []) (An.s (An.r [[10]]) An.o))
def c_topo_Topo_none (t0 : Value) (w : World) (R : KR) : Prop :=
 nilP false t0 fun t4 =>
 jn1 (fun k0 =>
 gif t4 false
 (nilc t0 fun t7 =>
 fad 0 t7 fun t8 =>
 ld1 t8 w.heap fun t9 =>
 nilP false t9 fun t10 =>
 k0 t10 w)
 (k0 undef w)) fun _ t10_1 w =>
 pik t4 (.bool true) t10_1 fun t11 =>
 R t11 w
theorem k_topo_Topo_none : kO Tryd.f25 A_topo_Topo_none = true := by kernel_rfl
theorem s_topo_Topo_none (h : SQ Q (c_topo_Topo_none t0 w)) : cal P f_topo_Topo_none [t0] w Q := sO Tryd.func25 rfl (by kernel_rfl) k_topo_Topo_none (by kernel_rfl) h

/-- (*flurry/tree.Tree).Clone -/
def A_tree_Tree_Clone : An := (An.s (An.r []) (An.s (An.s (An.r []) (An.s (An.s (An.r []) An.o) An.o)) (An.s (An.dt (Pl.step 0 (Pl.step 1 (Pl.step 2 (Pl.step 3 (Pl.step 4 (Pl.step 5 (Pl.step 6 (Pl.step 7 (Pl.step 8 (Pl.step 9 (Pl.step 10 (Pl.step 11 (Pl.step 13 (Pl.step 14 (Pl.step 15 (Pl.step 16 (Pl.br (Pl.alt 12 (Pl.step 17 (Pl.step 18 (Pl.step 19 (Pl.step 20 Pl.nil)))) (Pl.alt 17 (Pl.step 12 (Pl.step 18 (Pl.step 19 (Pl.step 20 Pl.nil)))) Pl.non))))))))))))))))))) [19] [3]) (An.s (An.s (An.r []) (An.b (An.l [] (An.s (An.r []) (An.s (An.s An.o An.o) (An.b (An.s (An.r []) (An.dc [0, 1, 2, 3, 4, 5, 6] [6] [])))))))) (An.s (An.r []) An.o)))))
def c_tree_Tree_Clone (t0 : Value) (w : World) (R : KR) : Prop :=
 cal P f_tree_Tree_none [t0] w fun t7 w =>
 cnd t7
 (R (.pointer none) w)
 (drH w fun S w =>
 jn1 (fun k0 =>
 nilc t0 fun t9 =>
 fad 1 t9 fun t10 =>
 rdS S (fun w => ldN 32 t10 w.heap) fun t11 =>
 nilc t0 fun t13 =>
 fad 33 t13 fun t14 =>
 rdS S (fun w => ld1 t14 w.heap) fun t15 =>
 nilc t0 fun t17 =>
 fad 34 t17 fun t18 =>
 rdS S (fun w => ld1 t18 w.heap) fun t19 =>
 nilc t0 fun t22 =>
 fad 36 t22 fun t23 =>
 rdS S (fun w => ld1 t23 w.heap) fun t24 =>
 (efS S (efP P (Instr.makeMap T_map_api_ID_api_Block none)) w fun t20_1 w =>
 efS S (cal P f_slices_Clone_api_ID_api_ID [t24]) w fun t25_1 w =>
 rdS S (rdP P (Instr.build T_tree_Tree #[(0, (.bool true)), (1, t11), (2, t15), (3, t19), (4, t20_1), (5, t25_1)])) fun t26_1 =>
 efC (bx T_tree_Tree t26_1) w fun S t27_1 w =>
 k0 t27_1 w) ∧
 ((efS S (cal P f_slices_Clone_api_ID_api_ID [t24]) w fun t25 w =>
 efS S (efP P (Instr.makeMap T_map_api_ID_api_Block none)) w fun t20 w =>
 rdS S (rdP P (Instr.build T_tree_Tree #[(0, (.bool true)), (1, t11), (2, t15), (3, t19), (4, t20), (5, t25)])) fun t26 =>
 efC (bx T_tree_Tree t26) w fun S t27 w =>
 k0 t27 w) ∧
 (True))) fun _ t3 w =>
 nilc t0 fun t29 =>
 fad 35 t29 fun t30 =>
 ld1 t30 w.heap fun t31 =>
 efP P (Instr.range T_map_api_ID_api_Block t31) w fun t32 w =>
 lp0 w fun _ w again1 =>
 efP P (Instr.next t32 false T_) w fun t33 w =>
 ext 0 t33 fun t34 =>
 cnd t34
 (rdP P (Instr.entry t32) w fun t35 =>
 ext 0 t35 fun t36 =>
 ext 1 t35 fun t37 =>
 efP P (Instr.alloc T_api_ID true (.tuple #[])) w fun t4 w =>
 efP P (Instr.alloc T_api_Block true (.tuple #[])) w fun t5 w =>
 stN 32 t4 t36 w fun w =>
 stN 34 t5 t37 w fun w =>
 drH w fun S w =>
 nilc t3 fun t39 =>
 fad 35 t39 fun t40 =>
 rdS S (fun w => ld1 t40 w.heap) fun t41 =>
 rdS S (fun w => ldN 32 t4 w.heap) fun t42 =>
 rdS S (fun w => ldN 34 t5 w.heap) fun t43 =>
 efC (fun w K => efU P (Instr.mapUpdate T_map_api_ID_api_Block t41 t42 t43) w (K undef)) w fun S _ w =>
 again1 w)
 (R t3 w))
theorem k_tree_Tree_Clone : kO Tryd.f26 A_tree_Tree_Clone = true := by kernel_rfl
theorem s_tree_Tree_Clone (h : SQ Q (c_tree_Tree_Clone t0 w)) : cal P f_tree_Tree_Clone [t0] w Q := sO Tryd.func26 rfl (by kernel_rfl) k_tree_Tree_Clone (by kernel_rfl) h

/-- (*flurry/tree.Tree).Add -/
def A_tree_Tree_Add : An := (An.s (An.r []) (An.s (An.s (An.r []) (An.s (An.s (An.r []) An.o) An.o)) (An.s (An.r []) (An.s (An.s (An.r []) (An.s (An.s (An.r []) An.o) An.o)) (An.s (An.s (An.r []) (An.s (An.s (An.r []) An.o) An.o)) (An.s (An.r []) (An.s (An.s (An.r [[38], [45]]) (An.s (An.s (An.r []) An.o) An.o)) (An.s (An.s (An.r []) (An.s (An.s (An.r []) An.o) An.o)) (An.s (An.dc [0, 1, 2, 3, 4, 5, 6, 7] [7] []) (An.s (An.dc [0, 1, 2, 3, 4, 5, 6, 7, 8, 9, 10] [7, 10] []) (An.s (An.r []) An.o)))))))))))
def c_tree_Tree_Add (t0 t1 : Value) (w : World) (R : KR) : Prop :=
 bx T_api_Block t1 w fun t3 w =>
 efP P (Instr.alloc T_api_ID true (.tuple #[])) w fun t4 w =>
 cal P f_tree_Tree_none [t0] w fun t11 w =>
 cnd t11
 (rdP P (Instr.build T_api_ID #[]) w fun t12 =>
 stN 32 t4 t12 w fun w =>
 ldN 32 t4 w.heap fun r0 =>
 R (.tuple #[r0, (.int .i64 2)]) w)
 (ldN 34 t3 w.heap fun t14 =>
 cal P f_block_ID [t14] w fun t15 w =>
 ext 0 t15 fun t16 =>
 ext 1 t15 fun t17 =>
 efP P (Instr.alloc T_api_ID true (.tuple #[])) w fun t6 w =>
 stN 32 t6 t16 w fun w =>
 bi .neq t17 (.int .i64 0) fun t19 =>
 cnd t19
 (rdP P (Instr.build T_api_ID #[]) w fun t20 =>
 stN 32 t4 t20 w fun w =>
 ldN 32 t4 w.heap fun r1 =>
 R (.tuple #[r1, t17]) w)
 (ldN 32 t6 w.heap fun t23 =>
 cal P f_tree_Tree_Has [t0, t23] w fun t24 w =>
 cnd t24
 (rdP P (Instr.build T_api_ID #[]) w fun t25 =>
 stN 32 t4 t25 w fun w =>
 ldN 32 t4 w.heap fun r2 =>
 R (.tuple #[r2, (.int .i64 110)]) w)
 (fad 0 t3 fun t28 =>
 ldN 32 t28 w.heap fun t29 =>
 cal P f_tree_Tree_level [t0, t29] w fun t30 w =>
 ext 0 t30 fun t31 =>
 ext 1 t30 fun t32 =>
 notB t32 fun t34 =>
 jn1 (fun k3 =>
 gif t34 false
 (fad 32 t3 fun t36 =>
 ld1 t36 w.heap fun t37 =>
 bi .lss t37 (.int .i64 1) fun t38 =>
 k3 t38 w)
 (k3 undef w)) fun _ t38_1 w =>
 pik t34 (.bool true) t38_1 fun t39 =>
 jn1 (fun k4 =>
 gif t39 false
 (fad 32 t3 fun t41 =>
 ld1 t41 w.heap fun t42 =>
 bi .sub t42 (.int .i64 1) fun t43 =>
 bi .neq t43 t31 fun t45 =>
 k4 t45 w)
 (k4 undef w)) fun _ t45_1 w =>
 pik t39 (.bool true) t45_1 fun t46 =>
 cnd t46
 (rdP P (Instr.build T_api_ID #[]) w fun t47 =>
 stN 32 t4 t47 w fun w =>
 ldN 32 t4 w.heap fun r5 =>
 R (.tuple #[r5, (.int .i64 31)]) w)
 (drw w fun w =>
 nilc t0 fun t49 =>
 fad 35 t49 fun t50 =>
 ld1 t50 w.heap fun t51 =>
 rdP P (Builtin.len_ #[T_map_api_ID_api_Block] T_int #[t51]) w fun t52 =>
 nilc t0 fun t54 =>
 fad 34 t54 fun t55 =>
 ld1 t55 w.heap fun t56 =>
 bi .geq t52 t56 fun t57 =>
 cnd t57
 (rdP P (Instr.build T_api_ID #[]) w fun t58 =>
 stN 32 t4 t58 w fun w =>
 ldN 32 t4 w.heap fun r6 =>
 R (.tuple #[r6, (.int .i64 6)]) w)
 (drH w fun S w =>
 nilc t0 fun t60 =>
 fad 35 t60 fun t61 =>
 rdS S (fun w => ld1 t61 w.heap) fun t62 =>
 rdS S (fun w => ldN 32 t6 w.heap) fun t63 =>
 rdS S (fun w => ldN 34 t3 w.heap) fun t64 =>
 efS S (cal P f_block_Clone [t64]) w fun t65 w =>
 efC (fun w K => efU P (Instr.mapUpdate T_map_api_ID_api_Block t62 t63 t65) w (K undef)) w fun S _ w =>
 drH w fun S w =>
 nilc t0 fun t68 =>
 fad 36 t68 fun t69 =>
 rdS S (fun w => ld1 t69 w.heap) fun t70 =>
 rdS S (fun w => ldN 32 t6 w.heap) fun t71 =>
 efS S (efP P (Instr.buildSlice T_sl_api_ID 1 #[(0, t71)])) w fun t72 w =>
 efC (efP P (Builtin.append_ #[T_sl_api_ID, T_sl_api_ID] T_sl_api_ID #[t70, t72])) w fun S t73 w =>
 nilc t0 fun t74 =>
 fad 36 t74 fun t75 =>
 efC (fun w K => st1 t75 t73 w (K undef)) w fun S _ w =>
 ldN 32 t6 w.heap fun t76 =>
 stN 32 t4 t76 w fun w =>
 ldN 32 t4 w.heap fun r7 =>
 R (.tuple #[r7, (.int .i64 0)]) w)))))
theorem k_tree_Tree_Add : kO Tryd.f27 A_tree_Tree_Add = true := by kernel_rfl
theorem s_tree_Tree_Add (h : SQ Q (c_tree_Tree_Add t0 t1 w)) : cal P f_tree_Tree_Add [t0, t1] w Q := sO Tryd.func27 rfl (by kernel_rfl) k_tree_Tree_Add (by kernel_rfl) h

/-- flurry/snow.Add -/
def A_snow_Add : An := (An.s (An.r []) (An.s (An.s (An.r []) (An.s (An.r []) (An.s (An.s (An.r []) An.o) An.o))) (An.s (An.b (An.s (An.r []) (An.s (An.s (An.r []) An.o) (An.s (An.r []) (An.s (An.s (An.r []) An.o) An.o))))) (An.s (An.r []) (An.s (An.r []) (An.s (An.r []) An.o))))))
def c_snow_Add (t0 t1 t2 : Value) (w : World) (R : KR) : Prop :=
 bx T_api_Params t0 w fun t3 w =>
 bx T_api_Snow t1 w fun t4 w =>
 bx T_api_ID t2 w fun t5 w =>
 efP P (Instr.alloc T_api_Snow true (.tuple #[])) w fun t6 w =>
 ldN 4 t3 w.heap fun t9 =>
 ldN 67 t4 w.heap fun t10 =>
 cal P f_snow_Check [t9, t10] w fun t11 w =>
 bi .neq t11 (.int .i64 0) fun t13 =>
 cnd t13
 (rdP P (Instr.build T_api_Snow #[]) w fun t14 =>
 stN 67 t6 t14 w fun w =>
 ldN 67 t6 w.heap fun r0 =>
 R (.tuple #[r0, t11]) w)
 (ldN 67 t4 w.heap fun t17 =>
 ldN 32 t5 w.heap fun t18 =>
 cal P f_snow_Has [t17, t18] w fun t19 w =>
 cnd t19
 (rdP P (Instr.build T_api_Snow #[]) w fun t20 =>
 stN 67 t6 t20 w fun w =>
 ldN 67 t6 w.heap fun r1 =>
 R (.tuple #[r1, (.int .i64 110)]) w)
 (fad 0 t4 fun t22 =>
 ld1 t22 w.heap fun t23 =>
 lenS t23 fun t24 =>
 bi .eql t24 (.int .i64 32) fun t25 =>
 cnd t25
 (rdP P (Instr.build T_api_Snow #[]) w fun t26 =>
 stN 67 t6 t26 w fun w =>
 ldN 67 t6 w.heap fun r2 =>
 R (.tuple #[r2, (.int .i64 6)]) w)
 (ldN 67 t4 w.heap fun t27 =>
 cal P f_snow_own [t27] w fun t28 w =>
 stN 67 t4 t28 w fun w =>
 fad 0 t4 fun t29 =>
 ld1 t29 w.heap fun t30 =>
 ldN 32 t5 w.heap fun t31 =>
 rdP P (Instr.build T_api_Choice #[(0, t31)]) w fun t32 =>
 efP P (Instr.buildSlice T_sl_api_Choice 1 #[(0, t32)]) w fun t33 w =>
 efP P (Builtin.append_ #[T_sl_api_Choice, T_sl_api_Choice] T_sl_api_Choice #[t30, t33]) w fun t34 w =>
 fad 0 t4 fun t35 =>
 st1 t35 t34 w fun w =>
 ldN 67 t4 w.heap fun t36 =>
 stN 67 t6 t36 w fun w =>
 ldN 67 t6 w.heap fun r3 =>
 R (.tuple #[r3, (.int .i64 0)]) w)))
theorem k_snow_Add : kO Tryd.f28 A_snow_Add = true := by kernel_rfl
theorem s_snow_Add (h : SQ Q (c_snow_Add t0 t1 t2 w)) : cal P f_snow_Add [t0, t1, t2] w Q := sO Tryd.func28 rfl (by kernel_rfl) k_snow_Add (by kernel_rfl) h

/-- flurry/snow.New -/
def A_snow_New : An := (An.s (An.r []) (An.s (An.s (An.r []) (An.s (An.r []) (An.s (An.s (An.r []) An.o) An.o))) (An.s (An.r []) An.o)))
def c_snow_New (t0 t1 : Value) (w : World) (R : KR) : Prop :=
 bx T_api_Params t0 w fun t2 w =>
 bx T_api_ID t1 w fun t3 w =>
 efP P (Instr.alloc T_api_Snow true (.tuple #[])) w fun t4 w =>
 ldN 4 t2 w.heap fun t7 =>
 cal P f_snow_Params [t7] w fun t8 w =>
 bi .neq t8 (.int .i64 0) fun t10 =>
 cnd t10
 (rdP P (Instr.build T_api_Snow #[]) w fun t11 =>
 stN 67 t4 t11 w fun w =>
 ldN 67 t4 w.heap fun r0 =>
 R (.tuple #[r0, t8]) w)
 (ldN 32 t3 w.heap fun t13 =>
 rdP P (Instr.build T_api_Choice #[(0, t13)]) w fun t14 =>
 efP P (Instr.buildSlice T_sl_api_Choice 1 #[(0, t14)]) w fun t15 w =>
 ldN 32 t3 w.heap fun t16 =>
 ldN 32 t3 w.heap fun t17 =>
 rdP P (Instr.build T_api_Snow #[(0, t15), (1, t16), (2, t17)]) w fun t18 =>
 stN 67 t4 t18 w fun w =>
 ldN 67 t4 w.heap fun r1 =>
 R (.tuple #[r1, (.int .i64 0)]) w)
theorem k_snow_New : kO Tryd.f29 A_snow_New = true := by kernel_rfl
theorem s_snow_New (h : SQ Q (c_snow_New t0 t1 w)) : cal P f_snow_New [t0, t1] w Q := sO Tryd.func29 rfl (by kernel_rfl) k_snow_New (by kernel_rfl) h

/-- flurry/bag.Check -/
def A_bag_Check : An := (An.s (An.r []) (An.s (An.r []) (An.s (An.s (An.r []) (An.b (An.l [3, 8] (An.s (An.r []) (An.s (An.s An.o An.o) (An.s (An.b (An.s (An.r []) (An.s (An.s (An.d [0, 1, 2, 3, 4, 5, 6, 7, 8, 9, 10, 11, 12, 13, 14, 15, 16, 17, 18, 19, 20, 21, 22, 23, 24, 25] [[25], [30], [37]]) (An.s (An.s (An.r []) An.o) An.o)) (An.r [])))) (An.r []))))))) (An.s (An.r []) An.o))))
def c_bag_Check (t0 : Value) (w : World) (R : KR) : Prop :=
 lenS t0 fun t7 =>
 lp2 (.int .i64 0) (.int .i64 0) w fun _ t3 t8 w again0 =>
 bi .lss t8 t7 fun t9 =>
 cnd t9
 (ixs 33 t0 t8 fun t11 =>
 ldN 33 t11 w.heap fun t12 =>
 efP P (Instr.alloc T_api_Vote true (.tuple #[])) w fun t5 w =>
 stN 33 t5 t12 w fun w =>
 drH w fun S w =>
 bi .gtr t8 (.int .i64 0) fun t14 =>
 jn1 (fun k1 =>
 gif t14 true
 (bi .sub t8 (.int .i64 1) fun t18 =>
 ixs 33 t0 t18 fun t19 =>
 fad 0 t19 fun t20 =>
 rdS S (fun w => ldN 32 t20 w.heap) fun t21 =>
 fad 0 t5 fun t22 =>
 rdS S (fun w => ldN 32 t22 w.heap) fun t23 =>
 efS S (cal P f_bag_Less [t21, t23]) w fun t24 w =>
 notB t24 fun t25 =>
 k1 t25 w)
 (k1 undef w)) fun _ t25_1 w =>
 pik t14 t25_1 (.bool false) fun t26 =>
 jn1 (fun k2 =>
 gif t26 false
 (fad 32 t5 fun t28 =>
 rdS S (fun w => ld1 t28 w.heap) fun t29 =>
 bi .lss t29 (.int .i64 1) fun t30 =>
 k2 t30 w)
 (k2 undef w)) fun _ t30_1 w =>
 pik t26 (.bool true) t30_1 fun t31 =>
 jn1 (fun k3 =>
 gif t31 false
 (fad 32 t5 fun t33 =>
 rdS S (fun w => ld1 t33 w.heap) fun t34 =>
 bi .sub (.int .i64 1048576) t3 fun t36 =>
 bi .gtr t34 t36 fun t37 =>
 k3 t37 w)
 (k3 undef w)) fun _ t37_1 w =>
 pik t31 (.bool true) t37_1 fun t38 =>
 cnd t38
 (R (.int .i64 70) w)
 (fad 32 t5 fun t40 =>
 ld1 t40 w.heap fun t41 =>
 bi .add t3 t41 fun t42 =>
 bi .add t8 (.int .i64 1) fun t43 =>
 again0 t42 t43 w))
 (R (.int .i64 0) w)
theorem k_bag_Check : kO Tryd.f30 A_bag_Check = true := by kernel_rfl
theorem s_bag_Check (h : SQ Q (c_bag_Check t0 w)) : cal P f_bag_Check [t0] w Q := sO Tryd.func30 rfl (by kernel_rfl) k_bag_Check (by kernel_rfl) h

/-- flurry/bag.Total -/
def A_bag_Total : An := (An.s (An.r []) (An.s (An.r []) (An.s (An.s (An.r []) (An.b (An.l [3, 9] (An.s (An.r []) (An.s (An.s An.o An.o) (An.s (An.b (An.s (An.r []) (An.r []))) (An.r []))))))) (An.s (An.r []) An.o))))
def c_bag_Total (t0 : Value) (w : World) (R : KR) : Prop :=
 cal P f_bag_good [t0] w fun t7 w =>
 lenS t7 fun t8 =>
 lp2 (.int .i64 0) (.int .i64 0) w fun _ t3 t9 w again0 =>
 bi .lss t9 t8 fun t10 =>
 cnd t10
 (ixs 33 t7 t9 fun t11 =>
 ldN 33 t11 w.heap fun t12 =>
 efP P (Instr.alloc T_api_Vote true (.tuple #[])) w fun t5 w =>
 stN 33 t5 t12 w fun w =>
 fad 32 t5 fun t14 =>
 ld1 t14 w.heap fun t15 =>
 bi .add t3 t15 fun t16 =>
 bi .add t9 (.int .i64 1) fun t17 =>
 again0 t16 t17 w)
 (R t3 w)
theorem k_bag_Total : kO Tryd.f31 A_bag_Total = true := by kernel_rfl
theorem s_bag_Total (h : SQ Q (c_bag_Total t0 w)) : cal P f_bag_Total [t0] w Q := sO Tryd.func31 rfl (by kernel_rfl) k_bag_Total (by kernel_rfl) h

/-- (*flurry/topo.Topo).counts -/
def A_topo_Topo_counts : An := (An.s (An.r []) (An.s (An.r []) (An.s (An.r []) (An.s (An.r []) (An.s (An.r []) (An.s (An.r []) (An.s (An.r []) An.o)))))))
def c_topo_Topo_counts (t0 t1 : Value) (w : World) (R : KR) : Prop :=
 bx T_p_topo_Topo t0 w fun t2 w =>
 bx T_sl_api_Vote t1 w fun t3 w =>
 efP P (Instr.makeMap T_map_api_ID_int none) w fun t9 w =>
 efP P (Instr.alloc T_map_api_ID_int true (.tuple #[])) w fun t5 w =>
 st1 t5 t9 w fun w =>
 efP P (Instr.alloc T_func_api_ID_int true (.tuple #[])) w fun t6 w =>
 st1 t6 (.func (Fn.func f_topo_Topo_counts_1) #[] #[t3, t2, t6, t5]) w fun w =>
 ld1 t2 w.heap fun t12 =>
 nilc t12 fun t13 =>
 fad 0 t13 fun t14 =>
 ld1 t14 w.heap fun t15 =>
 cal P f_tree_Tree_Root [t15] w fun t16 w =>
 ext 0 t16 fun t17 =>
 ext 1 t16 fun t18 =>
 efP P (Instr.alloc T_api_ID true (.tuple #[])) w fun t7 w =>
 stN 32 t7 t17 w fun w =>
 ld1 t6 w.heap fun t19 =>
 ldN 32 t7 w.heap fun t20 =>
 calV P t19 [t20] w fun t21 w =>
 ld1 t5 w.heap fun t22 =>
 R t22 w
theorem k_topo_Topo_counts : kO Tryd.f32 A_topo_Topo_counts = true := by kernel_rfl
theorem s_topo_Topo_counts (h : SQ Q (c_topo_Topo_counts t0 t1 w)) : cal P f_topo_Topo_counts [t0, t1] w Q := sO Tryd.func32 rfl (by kernel_rfl) k_topo_Topo_counts (by kernel_rfl) h

/-- (*flurry/tree.Tree).Root -/
def A_tree_Tree_Root : An := (An.s (An.r []) (An.s (An.s (An.r []) (An.s (An.s (An.r []) An.o) An.o)) (An.s (An.d [0, 1, 2, 3, 4, 5, 6, 7, 8, 9] []) An.o)))
def c_tree_Tree_Root (t0 : Value) (w : World) (R : KR) : Prop :=
 efP P (Instr.alloc T_api_ID true (.tuple #[])) w fun t2 w =>
 cal P f_tree_Tree_none [t0] w fun t5 w =>
 cnd t5
 (rdP P (Instr.build T_api_ID #[]) w fun t6 =>
 stN 32 t2 t6 w fun w =>
 ldN 32 t2 w.heap fun r0 =>
 R (.tuple #[r0, (.int .i64 0)]) w)
 (drH w fun S w =>
 nilc t0 fun t8 =>
 fad 1 t8 fun t9 =>
 rdS S (fun w => ldN 32 t9 w.heap) fun t10 =>
 nilc t0 fun t12 =>
 fad 33 t12 fun t13 =>
 rdS S (fun w => ld1 t13 w.heap) fun t14 =>
 efS S (fun w K => stN 32 t2 t10 w (K undef)) w fun _ w =>
 ldN 32 t2 w.heap fun r1 =>
 R (.tuple #[r1, t14]) w)
theorem k_tree_Tree_Root : kO Tryd.f33 A_tree_Tree_Root = true := by kernel_rfl
theorem s_tree_Tree_Root (h : SQ Q (c_tree_Tree_Root t0 w)) : cal P f_tree_Tree_Root [t0] w Q := sO Tryd.func33 rfl (by kernel_rfl) k_tree_Tree_Root (by kernel_rfl) h

/-- flurry/snow.Prefers -/
def A_snow_Prefers : An := (An.s (An.r []) (An.s (An.s (An.r []) (An.s (An.s (An.r []) An.o) An.o)) (An.s (An.r []) An.o)))
def c_snow_Prefers (t0 : Value) (w : World) (R : KR) : Prop :=
 bx T_api_Snow t0 w fun t1 w =>
 efP P (Instr.alloc T_api_ID true (.tuple #[])) w fun t2 w =>
 fad 66 t1 fun t3 =>
 ld1 t3 w.heap fun t4 =>
 cnd t4
 (fad 33 t1 fun t5 =>
 ldN 32 t5 w.heap fun t6 =>
 stN 32 t2 t6 w fun w =>
 ldN 32 t2 w.heap fun r0 =>
 R r0 w)
 (fad 1 t1 fun t7 =>
 ldN 32 t7 w.heap fun t8 =>
 stN 32 t2 t8 w fun w =>
 ldN 32 t2 w.heap fun r1 =>
 R r1 w)
theorem k_snow_Prefers : kO Tryd.f34 A_snow_Prefers = true := by kernel_rfl
theorem s_snow_Prefers (h : SQ Q (c_snow_Prefers t0 w)) : cal P f_snow_Prefers [t0] w Q := sO Tryd.func34 rfl (by kernel_rfl) k_snow_Prefers (by kernel_rfl) h

/-- (*flurry/tree.Tree).Move -/
def A_tree_Tree_Move : An := (An.s (An.r []) (An.s (An.s (An.r []) (An.s (An.s (An.r []) An.o) An.o)) (An.s (An.dc [0, 1, 2, 3, 4, 5, 6, 7, 8, 9, 10, 11] [10] []) (An.s (An.s (An.r [[32]]) (An.s (An.s (An.r []) An.o) An.o)) (An.s (An.r []) (An.s (An.r []) (An.s (An.s (An.r []) (An.b (An.l [42] (An.s (An.r []) (An.s (An.s An.o An.o) (An.s (An.b (An.s (An.r []) (An.dc [0, 1, 2, 3, 4, 5] [5] []))) (An.r []))))))) (An.s (An.dc [0, 1, 2, 3, 4, 5] [5] []) (An.s (An.dc [0, 1, 2, 3, 4, 5, 6, 7, 8, 9, 10, 11, 12, 13, 14, 15] [15] []) (An.s (An.r []) An.o))))))))))
def c_tree_Tree_Move (t0 t1 : Value) (w : World) (R : KR) : Prop :=
 bx T_p_tree_Tree t0 w fun t2 w =>
 bx T_api_ID t1 w fun t3 w =>
 ld1 t2 w.heap fun t12 =>
 cal P f_tree_Tree_none [t12] w fun t13 w =>
 cnd t13
 (R (.tuple #[(.slice none 0 0), (.int .i64 2)]) w)
 (drH w fun S w =>
 rdS S (fun w => ld1 t2 w.heap) fun t15 =>
 nilc t15 fun t16 =>
 fad 35 t16 fun t17 =>
 rdS S (fun w => ld1 t17 w.heap) fun t18 =>
 rdS S (fun w => ldN 32 t3 w.heap) fun t19 =>
 rdS S (rdP P (Instr.lookup T_map_api_ID_api_Block t18 t19 true)) fun t20 =>
 ext 0 t20 fun t21 =>
 ext 1 t20 fun t22 =>
 efS S (efP P (Instr.alloc T_api_Block true (.tuple #[]))) w fun t6 w =>
 efC (fun w K => stN 34 t6 t21 w (K undef)) w fun S _ w =>
 drw w fun w =>
 notB t22 fun t24 =>
 jn1 (fun k0 =>
 gif t24 false
 (fad 0 t6 fun t26 =>
 ldN 32 t26 w.heap fun t27 =>
 ld1 t2 w.heap fun t28 =>
 nilc t28 fun t29 =>
 fad 1 t29 fun t30 =>
 ldN 32 t30 w.heap fun t31 =>
 rdP P (eqS .neq T_api_ID (Operand.tmp 27) (Operand.tmp 31) t27 t31) w fun t32 =>
 k0 t32 w)
 (k0 undef w)) fun _ t32_1 w =>
 pik t24 (.bool true) t32_1 fun t33 =>
 cnd t33
 (R (.tuple #[(.slice none 0 0), (.int .i64 4)]) w)
 (ld1 t2 w.heap fun t34 =>
 cal P f_tree_Tree_those [t34, (.func (Fn.func f_tree_Tree_Move_1) #[] #[t2, t3])] w fun t36 w =>
 ld1 t2 w.heap fun t37 =>
 cal P f_tree_Tree_those [t37, (.func (Fn.func f_tree_Tree_Move_2) #[] #[t3, t2])] w fun t39 w =>
 lenS t36 fun t41 =>
 lp1 (.int .i64 0) w fun _ t42 w again1 =>
 bi .lss t42 t41 fun t43 =>
 cnd t43
 (ixs 32 t36 t42 fun t44 =>
 ldN 32 t44 w.heap fun t45 =>
 efP P (Instr.alloc T_api_ID true (.tuple #[])) w fun t11 w =>
 stN 32 t11 t45 w fun w =>
 drH w fun S w =>
 rdS S (fun w => ld1 t2 w.heap) fun t46 =>
 nilc t46 fun t47 =>
 fad 35 t47 fun t48 =>
 rdS S (fun w => ld1 t48 w.heap) fun t49 =>
 rdS S (fun w => ldN 32 t11 w.heap) fun t50 =>
 efC (efP P (Builtin.delete_ #[T_map_api_ID_api_Block, T_api_ID] T_ #[t49, t50])) w fun S _ w =>
 bi .add t42 (.int .i64 1) fun t51 =>
 again1 t51 w)
 (drH w fun S w =>
 rdS S (fun w => ld1 t2 w.heap) fun t52 =>
 nilc t52 fun t53 =>
 fad 35 t53 fun t54 =>
 rdS S (fun w => ld1 t54 w.heap) fun t55 =>
 rdS S (fun w => ldN 32 t3 w.heap) fun t56 =>
 efC (efP P (Builtin.delete_ #[T_map_api_ID_api_Block, T_api_ID] T_ #[t55, t56])) w fun S _ w =>
 drH w fun S w =>
 rdS S (fun w => ld1 t2 w.heap) fun t57 =>
 rdS S (fun w => ld1 t2 w.heap) fun t58 =>
 rdS S (fun w => ld1 t2 w.heap) fun t59 =>
 rdS S (fun w => ldN 32 t3 w.heap) fun t60 =>
 fad 32 t6 fun t61 =>
 rdS S (fun w => ld1 t61 w.heap) fun t62 =>
 nilc t57 fun t64 =>
 fad 1 t64 fun t65 =>
 efS S (fun w K => stN 32 t65 t60 w (K undef)) w fun _ w =>
 nilc t58 fun t66 =>
 fad 33 t66 fun t67 =>
 efS S (fun w K => st1 t67 t62 w (K undef)) w fun _ w =>
 nilc t59 fun t68 =>
 fad 36 t68 fun t69 =>
 efC (fun w K => st1 t69 t39 w (K undef)) w fun S _ w =>
 R (.tuple #[t36, (.int .i64 0)]) w)))
theorem k_tree_Tree_Move : kO Tryd.f35 A_tree_Tree_Move = true := by kernel_rfl
theorem s_tree_Tree_Move (h : SQ Q (c_tree_Tree_Move t0 t1 w)) : cal P f_tree_Tree_Move [t0, t1] w Q := sO Tryd.func35 rfl (by kernel_rfl) k_tree_Tree_Move (by kernel_rfl) h

/-- (*flurry/topo.Topo).best -/
def A_topo_Topo_best : AnY := (AnY.s (AnY.c (An.r [])) (AnY.s (AnY.c (An.r [])) (AnY.s (AnY.c (An.r [])) (AnY.s (AnY.s (AnY.c (An.dc [0, 1, 2, 3, 4, 5] [5] [])) (AnY.b (AnY.f (AnY.c (An.r [])) (AnY.b (AnY.s (AnY.c (An.r [])) (AnY.s (AnY.c (An.r [[29], [31], [33], [36], [37]])) (AnY.s (AnY.c (An.r [])) AnY.o))))))) (AnY.s (AnY.c (An.d [0, 1, 2, 3] [])) AnY.o)))))
def c_topo_Topo_best (t0 t1 t2 : Value) (w : World) (R : KR) : Prop :=
 bx T_map_api_ID_int t1 w fun t4 w =>
 bx T_api_ID t2 w fun t5 w =>
 efP P (Instr.alloc T_api_ID true (.tuple #[])) w fun t6 w =>
 efP P (Instr.alloc T_api_ID true (.tuple #[])) w fun t8 w =>
 efP P (Instr.alloc T_int true (.tuple #[])) w fun t9 w =>
 st1 t9 (.int .i64 0) w fun w =>
 drH w fun S w =>
 nilc t0 fun t13 =>
 fad 0 t13 fun t14 =>
 rdS S (fun w => ld1 t14 w.heap) fun t15 =>
 rdS S (fun w => ldN 32 t5 w.heap) fun t16 =>
 efC (cal P f_tree_Tree_Kids [t15, t16]) w fun S t17 w =>
 rng P t17 1 w (fun args0 w beg0 fin0 =>
 efP P (Instr.alloc T_api_ID true (.tuple #[])) w fun t10 w =>
 stN 32 t10 (args0.getD 0 undef) w fun w =>
 beg0 w fun w =>
 ld1 t4 w.heap fun t19 =>
 ldN 32 t10 w.heap fun t20 =>
 rdP P (Instr.lookup T_map_api_ID_int t19 t20 false) w fun t21 =>
 ld1 t9 w.heap fun t23 =>
 bi .gtr t21 t23 fun t24 =>
 jn1 (fun k1 =>
 gif t24 false
 (ld1 t9 w.heap fun t27 =>
 bi .eql t21 t27 fun t28 =>
 k1 t28 w)
 (k1 undef w)) fun _ t29 w =>
 jn1 (fun k2 =>
 gif t29 true
 (ld1 t9 w.heap fun t30 =>
 bi .gtr t30 (.int .i64 0) fun t31 =>
 k2 t31 w)
 (k2 undef w)) fun _ t31_1 w =>
 jn1 (fun k3 =>
 gif t24 false
 (pik t29 t31_1 (.bool false) fun t32 =>
 k3 t32 w)
 (k3 undef w)) fun _ t33 w =>
 jn1 (fun k4 =>
 gif t33 true
 (ldN 32 t10 w.heap fun t34 =>
 ldN 32 t8 w.heap fun t35 =>
 cal P f_bag_Less [t34, t35] w fun t36 w =>
 k4 t36 w)
 (k4 undef w)) fun _ t36_1 w =>
 jn1 (fun k5 =>
 gif t24 false
 (pik t33 t36_1 (.bool false) fun t37 =>
 k5 t37 w)
 (k5 undef w)) fun _ t37_1 w =>
 pik t24 (.bool true) t37_1 fun t38 =>
 cnd t38
 (ldN 32 t10 w.heap fun t39 =>
 stN 32 t8 t39 w fun w =>
 st1 t9 t21 w fun w =>
 fin0 none w)
 (fin0 none w)) fun D0 => [(none, fun w =>
 drH w fun S w =>
 rdS S (fun w => ldN 32 t8 w.heap) fun t41 =>
 rdS S (fun w => ld1 t9 w.heap) fun t42 =>
 efS S (fun w K => stN 32 t6 t41 w (K undef)) w fun _ w =>
 takeD [D0] w fun w =>
 ldN 32 t6 w.heap fun r6 =>
 R (.tuple #[r6, t42]) w)]
theorem k_topo_Topo_best : kOY Tryd.f36 A_topo_Topo_best = true := by kernel_rfl
theorem s_topo_Topo_best (h : SQ Q (c_topo_Topo_best t0 t1 t2 w)) : cal P f_topo_Topo_best [t0, t1, t2] w Q := sOY Tryd.func36 rfl (by kernel_rfl) k_topo_Topo_best (by kernel_rfl) h

/-- flurry/snow.Poll -/
def A_snow_Poll : An := (An.s (An.r []) (An.s (An.s (An.r []) (An.s (An.r []) (An.s (An.s (An.r []) An.o) An.o))) (An.s (An.s (An.r [[27]]) (An.s (An.s (An.r []) An.o) An.o)) (An.s (An.r []) (An.s (An.s (An.r []) (An.s (An.s (An.r []) An.o) An.o)) (An.s (An.r []) (An.s (An.s (An.r []) (An.s (An.s (An.r []) An.o) An.o)) (An.s (An.r []) (An.s (An.s (An.r []) (An.b (An.s (An.j [12] (An.b (An.s (An.j [12] (An.b (An.s (An.b (An.s (An.s (An.s (An.r []) (An.s An.o An.o)) (An.s (An.r []) (An.s An.o An.o))) An.o)) (An.s (An.r []) (An.s (An.r []) (An.s (An.r []) An.o)))))) (An.s (An.r []) (An.s (An.r []) (An.s (An.j [] (An.s (An.d [0, 1, 2, 3, 4, 5, 6, 7, 8, 9, 10, 11, 12, 13] []) (An.s (An.r []) An.o))) (An.r []))))))) (An.s (An.s (An.r []) (An.r [])) An.o)))) (An.s (An.r []) An.o))))))))))
def c_snow_Poll (t0 t1 t2 t3 : Value) (w : World) (R : KR) : Prop :=
 bx T_api_Params t0 w fun t4 w =>
 bx T_api_Snow t1 w fun t5 w =>
 bx T_api_ID t2 w fun t6 w =>
 efP P (Instr.alloc T_api_Snow true (.tuple #[])) w fun t8 w =>
 ldN 4 t4 w.heap fun t14 =>
 ldN 67 t5 w.heap fun t15 =>
 cal P f_snow_Check [t14, t15] w fun t16 w =>
 bi .neq t16 (.int .i64 0) fun t18 =>
 cnd t18
 (rdP P (Instr.build T_api_Snow #[]) w fun t19 =>
 stN 67 t8 t19 w fun w =>
 ldN 67 t8 w.heap fun r0 =>
 R (.tuple #[r0, t16]) w)
 (bi .lss t3 (.int .i64 0) fun t22 =>
 jn1 (fun k1 =>
 gif t22 false
 (fad 0 t4 fun t25 =>
 ld1 t25 w.heap fun t26 =>
 bi .gtr t3 t26 fun t27 =>
 k1 t27 w)
 (k1 undef w)) fun _ t27_1 w =>
 pik t22 (.bool true) t27_1 fun t28 =>
 cnd t28
 (rdP P (Instr.build T_api_Snow #[]) w fun t29 =>
 stN 67 t8 t29 w fun w =>
 ldN 67 t8 w.heap fun r2 =>
 R (.tuple #[r2, (.int .i64 1)]) w)
 (ldN 67 t5 w.heap fun t30 =>
 ldN 32 t6 w.heap fun t31 =>
 cal P f_snow_place [t30, t31] w fun t32 w =>
 bi .lss t32 (.int .i64 0) fun t34 =>
 cnd t34
 (rdP P (Instr.build T_api_Snow #[]) w fun t35 =>
 stN 67 t8 t35 w fun w =>
 ldN 67 t8 w.heap fun r3 =>
 R (.tuple #[r3, (.int .i64 4)]) w)
 (ldN 67 t5 w.heap fun t36 =>
 cal P f_snow_own [t36] w fun t37 w =>
 stN 67 t5 t37 w fun w =>
 fad 66 t5 fun t38 =>
 ld1 t38 w.heap fun t39 =>
 cnd t39
 (ldN 67 t5 w.heap fun t40 =>
 stN 67 t8 t40 w fun w =>
 ldN 67 t8 w.heap fun r4 =>
 R (.tuple #[r4, (.int .i64 0)]) w)
 (ldN 4 t4 w.heap fun t41 =>
 cal P f_snow_reach [t41, t3] w fun t43 w =>
 jn1 (fun k5 =>
 jn1 (fun k6 =>
 bi .eql t43 (.int .i64 2) fun t45 =>
 cnd t45
 (ldN 32 t6 w.heap fun t48 =>
 fad 33 t5 fun t49 =>
 ldN 32 t49 w.heap fun t50 =>
 rdP P (eqS .eql T_api_ID (Operand.tmp 48) (Operand.tmp 50) t48 t50) w fun t51 =>
 cnd t51
 (fad 65 t5 fun t52 =>
 ld1 t52 w.heap fun t53 =>
 bi .add t53 (.int .i64 1) fun t54 =>
 k6 t54 w)
 (k6 (.int .i64 1) w))
 (bi .eql t43 (.int .i64 1) fun t47 =>
 cnd t47
 (k6 (.int .i64 0) w)
 (k5 (.int .i64 0) w))) fun _ t12 w =>
 fad 0 t5 fun t55 =>
 ld1 t55 w.heap fun t56 =>
 ixs 33 t56 t32 fun t58 =>
 nilc t58 fun t61 =>
 fad 32 t61 fun t62 =>
 ld1 t62 w.heap fun t63 =>
 bi .add t63 (.int .i64 1) fun t64 =>
 rdP P (Builtin.min_ #[T_int, T_int] T_int #[t64, (.int .i64 1073741824)]) w fun t65 =>
 nilc t58 fun t66 =>
 fad 32 t66 fun t67 =>
 st1 t67 t65 w fun w =>
 jn0 (fun k7 =>
 drH w fun S w =>
 nilc t58 fun t69 =>
 fad 32 t69 fun t70 =>
 rdS S (fun w => ld1 t70 w.heap) fun t71 =>
 fad 0 t5 fun t72 =>
 rdS S (fun w => ld1 t72 w.heap) fun t73 =>
 rdS S (fun w => ldN 67 t5 w.heap) fun t74 =>
 fad 1 t5 fun t75 =>
 rdS S (fun w => ldN 32 t75 w.heap) fun t76 =>
 efS S (cal P f_snow_place [t74, t76]) w fun t77 w =>
 ixs 33 t73 t77 fun t78 =>
 fad 32 t78 fun t79 =>
 rdS S (fun w => ld1 t79 w.heap) fun t80 =>
 bi .gtr t71 t80 fun t81 =>
 cnd t81
 (ldN 32 t6 w.heap fun t82 =>
 fad 1 t5 fun t83 =>
 stN 32 t83 t82 w fun w =>
 k7 w)
 (k7 w)) fun _ w =>
 ldN 32 t6 w.heap fun t84 =>
 fad 33 t5 fun t85 =>
 stN 32 t85 t84 w fun w =>
 k5 t12 w) fun _ t12_1 w =>
 fad 65 t5 fun t87 =>
 st1 t87 t12_1 w fun w =>
 fad 3 t4 fun t89 =>
 ld1 t89 w.heap fun t90 =>
 bi .eql t12_1 t90 fun t91 =>
 fad 66 t5 fun t92 =>
 st1 t92 t91 w fun w =>
 ldN 67 t5 w.heap fun t93 =>
 stN 67 t8 t93 w fun w =>
 ldN 67 t8 w.heap fun r8 =>
 R (.tuple #[r8, (.int .i64 0)]) w))))
theorem k_snow_Poll : kO Tryd.f37 A_snow_Poll = true := by kernel_rfl
theorem s_snow_Poll (h : SQ Q (c_snow_Poll t0 t1 t2 t3 w)) : cal P f_snow_Poll [t0, t1, t2, t3] w Q := sO Tryd.func37 rfl (by kernel_rfl) k_snow_Poll (by kernel_rfl) h

/-- (*flurry/topo.Topo).fails -/
def A_topo_Topo_fails : An := (An.s (An.r []) (An.s (An.s (An.r []) (An.b (An.l [] (An.s (An.r []) (An.s (An.s An.o An.o) (An.b (An.s (An.r []) (An.s (An.s (An.dc [0, 1, 2, 3, 4, 5, 6] [5] []) (An.s An.o An.o)) (An.s (An.j [] (An.s (An.r []) (An.s (An.s (An.dt (Pl.step 0 (Pl.step 1 (Pl.step 2 (Pl.step 3 (Pl.step 4 (Pl.br (Pl.alt 5 (Pl.step 6 (Pl.step 7 (Pl.step 8 (Pl.step 9 (Pl.step 10 (Pl.step 11 Pl.nil)))))) (Pl.alt 9 (Pl.step 5 (Pl.step 6 (Pl.step 7 (Pl.step 8 (Pl.step 10 (Pl.step 11 Pl.nil)))))) Pl.non)))))))) [5, 10] [7, 8]) (An.s (An.r []) (An.s (An.r []) An.o))) An.o))) (An.r [])))))))))) (An.r [])))
def c_topo_Topo_fails (t0 t1 : Value) (w : World) (R : KR) : Prop :=
 efP P (Instr.makeMap T_map_api_ID_api_Snow none) w fun t9 w =>
 nilc t0 fun t11 =>
 fad 5 t11 fun t12 =>
 ld1 t12 w.heap fun t13 =>
 efP P (Instr.range T_map_api_ID_api_Snow t13) w fun t14 w =>
 lp0 w fun _ w again0 =>
 efP P (Instr.next t14 false T_) w fun t15 w =>
 ext 0 t15 fun t16 =>
 cnd t16
 (rdP P (Instr.entry t14) w fun t17 =>
 ext 0 t17 fun t18 =>
 ext 1 t17 fun t19 =>
 efP P (Instr.alloc T_api_ID true (.tuple #[])) w fun t5 w =>
 efP P (Instr.alloc T_api_Snow true (.tuple #[])) w fun t6 w =>
 stN 32 t5 t18 w fun w =>
 stN 67 t6 t19 w fun w =>
 drH w fun S w =>
 nilc t0 fun t21 =>
 fad 0 t21 fun t22 =>
 rdS S (fun w => ld1 t22 w.heap) fun t23 =>
 rdS S (fun w => ldN 32 t5 w.heap) fun t24 =>
 efC (cal P f_tree_Tree_Has [t23, t24]) w fun S t25 w =>
 notB t25 fun t26 =>
 cnd t26
 (again0 w)
 (jn0 (fun k1 =>
 ldN 32 t5 w.heap fun t28 =>
 rdP P (Instr.lookup T_map_api_ID_bool t1 t28 false) w fun t29 =>
 notB t29 fun t30 =>
 cnd t30
 (drH w fun S w =>
 jn2 (fun k2 =>
 nilc t0 fun t33 =>
 fad 1 t33 fun t34 =>
 rdS S (fun w => ldN 4 t34 w.heap) fun t35 =>
 rdS S (fun w => ldN 67 t6 w.heap) fun t36 =>
 (efC (cal P f_snow_Fail [t35, t36]) w fun S t37_1 w =>
 ext 0 t37_1 fun t38_1 =>
 ext 1 t37_1 fun t39_1 =>
 efS S (efP P (Instr.alloc T_api_Snow true (.tuple #[]))) w fun t7_1 w =>
 efC (fun w K => stN 67 t7_1 t38_1 w (K undef)) w fun S _ w =>
 k2 t7_1 t39_1 w) ∧
 ((efS S (efP P (Instr.alloc T_api_Snow true (.tuple #[]))) w fun t7 w =>
 efC (cal P f_snow_Fail [t35, t36]) w fun S t37 w =>
 ext 0 t37 fun t38 =>
 ext 1 t37 fun t39 =>
 efC (fun w K => stN 67 t7 t38 w (K undef)) w fun S _ w =>
 k2 t7 t39 w) ∧
 (True))) fun _ t7_2 t8 w =>
 bi .eql t8 (.int .i64 0) fun t41 =>
 cnd t41
 (ldN 67 t7_2 w.heap fun t42 =>
 stN 67 t6 t42 w fun w =>
 k1 w)
 (k1 w))
 (k1 w)) fun _ w =>
 ldN 32 t5 w.heap fun t44 =>
 ldN 67 t6 w.heap fun t45 =>
 efU P (Instr.mapUpdate T_map_api_ID_api_Snow t9 t44 t45) w fun w =>
 again0 w))
 (nilc t0 fun t48 =>
 fad 5 t48 fun t49 =>
 st1 t49 t9 w fun w =>
 R (.tuple #[]) w)
theorem k_topo_Topo_fails : kO Tryd.f38 A_topo_Topo_fails = true := by kernel_rfl
theorem s_topo_Topo_fails (h : SQ Q (c_topo_Topo_fails t0 t1 w)) : cal P f_topo_Topo_fails [t0, t1] w Q := sO Tryd.func38 rfl (by kernel_rfl) k_topo_Topo_fails (by kernel_rfl) h

/-- (*flurry/tree.Tree).Within -/
def A_tree_Tree_Within : An := (An.s (An.r []) (An.s (An.s (An.r [[15]]) (An.s (An.s (An.r []) An.o) An.o)) (An.s (An.b (An.l [] (An.s (An.s (An.r [[26]]) (An.s An.o An.o)) (An.b (An.dc [0, 1, 2, 3, 4, 5, 6, 7] [7] []))))) (An.s (An.r []) An.o))))
def c_tree_Tree_Within (t0 t1 t2 : Value) (w : World) (R : KR) : Prop :=
 bx T_api_ID t1 w fun t4 w =>
 bx T_api_ID t2 w fun t5 w =>
 ldN 32 t4 w.heap fun t8 =>
 cal P f_tree_Tree_Has [t0, t8] w fun t9 w =>
 notB t9 fun t10 =>
 jn1 (fun k0 =>
 gif t10 false
 (ldN 32 t5 w.heap fun t13 =>
 cal P f_tree_Tree_Has [t0, t13] w fun t14 w =>
 notB t14 fun t15 =>
 k0 t15 w)
 (k0 undef w)) fun _ t15_1 w =>
 pik t10 (.bool true) t15_1 fun t16 =>
 cnd t16
 (R (.bool false) w)
 (lp0 w fun _ w again1 =>
 drw w fun w =>
 ldN 32 t4 w.heap fun t17 =>
 ldN 32 t5 w.heap fun t18 =>
 rdP P (eqS .neq T_api_ID (Operand.tmp 17) (Operand.tmp 18) t17 t18) w fun t19 =>
 jn1 (fun k2 =>
 gif t19 true
 (ldN 32 t4 w.heap fun t21 =>
 nilc t0 fun t23 =>
 fad 1 t23 fun t24 =>
 ldN 32 t24 w.heap fun t25 =>
 rdP P (eqS .neq T_api_ID (Operand.tmp 21) (Operand.tmp 25) t21 t25) w fun t26 =>
 k2 t26 w)
 (k2 undef w)) fun _ t26_1 w =>
 pik t19 t26_1 (.bool false) fun t27 =>
 cnd t27
 (drH w fun S w =>
 nilc t0 fun t29 =>
 fad 35 t29 fun t30 =>
 rdS S (fun w => ld1 t30 w.heap) fun t31 =>
 rdS S (fun w => ldN 32 t4 w.heap) fun t32 =>
 rdS S (rdP P (Instr.lookup T_map_api_ID_api_Block t31 t32 false)) fun t33 =>
 fldv 0 32 true t33 fun t34 =>
 efC (fun w K => stN 32 t4 t34 w (K undef)) w fun S _ w =>
 again1 w)
 (ldN 32 t4 w.heap fun t35 =>
 ldN 32 t5 w.heap fun t36 =>
 rdP P (eqS .eql T_api_ID (Operand.tmp 35) (Operand.tmp 36) t35 t36) w fun t37 =>
 R t37 w))
theorem k_tree_Tree_Within : kO Tryd.f40 A_tree_Tree_Within = true := by kernel_rfl
theorem s_tree_Tree_Within (h : SQ Q (c_tree_Tree_Within t0 t1 t2 w)) : cal P f_tree_Tree_Within [t0, t1, t2] w Q := sO Tryd.func40 rfl (by kernel_rfl) k_tree_Tree_Within (by kernel_rfl) h

/-- (*flurry/tree.Tree).Has -/
def A_tree_Tree_Has : An := (An.s (An.r []) (An.s (An.r []) (An.s (An.r []) An.o)))
def c_tree_Tree_Has (t0 t1 : Value) (w : World) (R : KR) : Prop :=
 bx T_api_ID t1 w fun t3 w =>
 ldN 32 t3 w.heap fun t9 =>
 cal P f_tree_Tree_level [t0, t9] w fun t10 w =>
 ext 0 t10 fun t11 =>
 ext 1 t10 fun t12 =>
 R t12 w
theorem k_tree_Tree_Has : kO Tryd.f41 A_tree_Tree_Has = true := by kernel_rfl
theorem s_tree_Tree_Has (h : SQ Q (c_tree_Tree_Has t0 t1 w)) : cal P f_tree_Tree_Has [t0, t1] w Q := sO Tryd.func41 rfl (by kernel_rfl) k_tree_Tree_Has (by kernel_rfl) h

/-- (*flurry/tree.Tree).Len -/
def A_tree_Tree_Len : An := (An.s (An.r []) (An.s (An.s (An.r []) (An.s (An.s (An.r []) An.o) An.o)) (An.s (An.r []) An.o)))
def c_tree_Tree_Len (t0 : Value) (w : World) (R : KR) : Prop :=
 cal P f_tree_Tree_none [t0] w fun t4 w =>
 cnd t4
 (R (.int .i64 0) w)
 (nilc t0 fun t6 =>
 fad 35 t6 fun t7 =>
 ld1 t7 w.heap fun t8 =>
 rdP P (Builtin.len_ #[T_map_api_ID_api_Block] T_int #[t8]) w fun t9 =>
 R t9 w)
theorem k_tree_Tree_Len : kO Tryd.f42 A_tree_Tree_Len = true := by kernel_rfl
theorem s_tree_Tree_Len (h : SQ Q (c_tree_Tree_Len t0 w)) : cal P f_tree_Tree_Len [t0] w Q := sO Tryd.func42 rfl (by kernel_rfl) k_tree_Tree_Len (by kernel_rfl) h

/-- flurry/block.made -/
def A_block_made : An := (An.s (An.r []) (An.s (An.s (An.r []) (An.s (An.r []) (An.s (An.s (An.r []) An.o) An.o))) (An.s (An.r []) An.o)))
def c_block_made (t0 : Value) (w : World) (R : KR) : Prop :=
 bx T_api_Block t0 w fun t1 w =>
 efP P (Instr.alloc T_api_Block true (.tuple #[])) w fun t2 w =>
 ldN 34 t1 w.heap fun t5 =>
 cal P f_block_Check [t5] w fun t6 w =>
 bi .neq t6 (.int .i64 0) fun t8 =>
 cnd t8
 (rdP P (Instr.build T_api_Block #[]) w fun t9 =>
 stN 34 t2 t9 w fun w =>
 ldN 34 t2 w.heap fun r0 =>
 R (.tuple #[r0, t6]) w)
 (ldN 34 t1 w.heap fun t11 =>
 cal P f_block_Clone [t11] w fun t12 w =>
 stN 34 t2 t12 w fun w =>
 ldN 34 t2 w.heap fun r1 =>
 R (.tuple #[r1, (.int .i64 0)]) w)
theorem k_block_made : kO Tryd.f43 A_block_made = true := by kernel_rfl
theorem s_block_made (h : SQ Q (c_block_made t0 w)) : cal P f_block_made [t0] w Q := sO Tryd.func43 rfl (by kernel_rfl) k_block_made (by kernel_rfl) h

/-- flurry/block.Bytes -/
def A_block_Bytes : An := (An.s (An.r []) (An.s (An.s (An.r []) (An.s (An.r []) (An.s (An.s (An.r []) An.o) An.o))) (An.s (An.r []) (An.s (An.r []) (An.s (An.r []) (An.s (An.r []) (An.s (An.r []) (An.s (An.r []) An.o))))))))
def c_block_Bytes (t0 : Value) (w : World) (R : KR) : Prop :=
 bx T_api_Block t0 w fun t1 w =>
 ldN 34 t1 w.heap fun t6 =>
 cal P f_block_Check [t6] w fun t7 w =>
 bi .neq t7 (.int .i64 0) fun t9 =>
 cnd t9
 (R (.tuple #[(.slice none 0 0), t7]) w)
 (cal P f_pack_New [(.int .i64 246)] w fun t11 w =>
 cal P f_pack_Packer_Short [t11, (.int .u16 0)] w fun t13 w =>
 fad 0 t1 fun t15 =>
 sla 32 1 t15 none none fun t16 =>
 cal P f_pack_Packer_Fixed [t11, t16] w fun t17 w =>
 fad 32 t1 fun t19 =>
 ld1 t19 w.heap fun t20 =>
 cvi .u64 t20 fun t21 =>
 cal P f_pack_Packer_Long [t11, t21] w fun t22 w =>
 fad 33 t1 fun t24 =>
 ld1 t24 w.heap fun t25 =>
 cal P f_pack_Packer_Bytes [t11, t25] w fun t26 w =>
 cal P f_pack_Packer_Out [t11] w fun t28 w =>
 ext 0 t28 fun t29 =>
 ext 1 t28 fun t30 =>
 R (.tuple #[t29, t30]) w)
theorem k_block_Bytes : kO Tryd.f44 A_block_Bytes = true := by kernel_rfl
theorem s_block_Bytes (h : SQ Q (c_block_Bytes t0 w)) : cal P f_block_Bytes [t0] w Q := sO Tryd.func44 rfl (by kernel_rfl) k_block_Bytes (by kernel_rfl) h

/-- flurry/sha.Sum -/
def A_sha_Sum : An := (An.s (An.r []) (An.s (An.r []) (An.s (An.r []) (An.s (An.r []) An.o))))
def c_sha_Sum (t0 : Value) (w : World) (R : KR) : Prop :=
 efP P (Instr.alloc T_api_ID true (.tuple #[])) w fun t2 w =>
 cal P f_sha_New [] w fun t4 w =>
 efP P (Instr.buildSlice T_sl_sl_uint8 1 #[(0, t0)]) w fun t7 w =>
 cal P f_sha_State_Write [t4, t7] w fun t8 w =>
 cal P f_sha_State_Sum [t4] w fun t10 w =>
 stN 32 t2 t10 w fun w =>
 ldN 32 t2 w.heap fun r0 =>
 R r0 w
theorem k_sha_Sum : kO Tryd.f45 A_sha_Sum = true := by kernel_rfl
theorem s_sha_Sum (h : SQ Q (c_sha_Sum t0 w)) : cal P f_sha_Sum [t0] w Q := sO Tryd.func45 rfl (by kernel_rfl) k_sha_Sum (by kernel_rfl) h

/-- flurry/snow.Params -/
def A_snow_Params : An := (An.s (An.r []) (An.s (An.s (An.r [[9], [17], [24], [31], [36], [41]]) (An.s (An.s (An.r []) An.o) An.o)) (An.s (An.r []) An.o)))
def c_snow_Params (t0 : Value) (w : World) (R : KR) : Prop :=
 bx T_api_Params t0 w fun t1 w =>
 fad 0 t1 fun t3 =>
 ld1 t3 w.heap fun t4 =>
 bi .lss t4 (.int .i64 1) fun t5 =>
 jn1 (fun k0 =>
 gif t5 false
 (fad 0 t1 fun t7 =>
 ld1 t7 w.heap fun t8 =>
 bi .gtr t8 (.int .i64 64) fun t9 =>
 k0 t9 w)
 (k0 undef w)) fun _ t9_1 w =>
 pik t5 (.bool true) t9_1 fun t10 =>
 jn1 (fun k1 =>
 gif t10 false
 (fad 1 t1 fun t12 =>
 ld1 t12 w.heap fun t13 =>
 fad 0 t1 fun t14 =>
 ld1 t14 w.heap fun t15 =>
 bi .quo t15 (.int .i64 2) fun t16 =>
 bi .leq t13 t16 fun t17 =>
 k1 t17 w)
 (k1 undef w)) fun _ t17_1 w =>
 pik t10 (.bool true) t17_1 fun t18 =>
 jn1 (fun k2 =>
 gif t18 false
 (fad 1 t1 fun t20 =>
 ld1 t20 w.heap fun t21 =>
 fad 2 t1 fun t22 =>
 ld1 t22 w.heap fun t23 =>
 bi .gtr t21 t23 fun t24 =>
 k2 t24 w)
 (k2 undef w)) fun _ t24_1 w =>
 pik t18 (.bool true) t24_1 fun t25 =>
 jn1 (fun k3 =>
 gif t25 false
 (fad 2 t1 fun t27 =>
 ld1 t27 w.heap fun t28 =>
 fad 0 t1 fun t29 =>
 ld1 t29 w.heap fun t30 =>
 bi .gtr t28 t30 fun t31 =>
 k3 t31 w)
 (k3 undef w)) fun _ t31_1 w =>
 pik t25 (.bool true) t31_1 fun t32 =>
 jn1 (fun k4 =>
 gif t32 false
 (fad 3 t1 fun t34 =>
 ld1 t34 w.heap fun t35 =>
 bi .lss t35 (.int .i64 1) fun t36 =>
 k4 t36 w)
 (k4 undef w)) fun _ t36_1 w =>
 pik t32 (.bool true) t36_1 fun t37 =>
 jn1 (fun k5 =>
 gif t37 false
 (fad 3 t1 fun t39 =>
 ld1 t39 w.heap fun t40 =>
 bi .gtr t40 (.int .i64 1000) fun t41 =>
 k5 t41 w)
 (k5 undef w)) fun _ t41_1 w =>
 pik t37 (.bool true) t41_1 fun t42 =>
 cnd t42
 (R (.int .i64 170) w)
 (R (.int .i64 0) w)
theorem k_snow_Params : kO Tryd.f46 A_snow_Params = true := by kernel_rfl
theorem s_snow_Params (h : SQ Q (c_snow_Params t0 w)) : cal P f_snow_Params [t0] w Q := sO Tryd.func46 rfl (by kernel_rfl) k_snow_Params (by kernel_rfl) h

/-- flurry/tree.New -/
def A_tree_New : An := (An.s (An.r []) (An.s (An.s (An.r [[12], [16]]) (An.s (An.s (An.r []) An.o) An.o)) (An.s (An.r []) An.o)))
def c_tree_New (t0 t1 t2 : Value) (w : World) (R : KR) : Prop :=
 bx T_api_ID t0 w fun t3 w =>
 bi .lss t1 (.int .i64 0) fun t9 =>
 jn1 (fun k0 =>
 gif t9 false
 (bi .lss t2 (.int .i64 1) fun t12 =>
 k0 t12 w)
 (k0 undef w)) fun _ t12_1 w =>
 pik t9 (.bool true) t12_1 fun t13 =>
 jn1 (fun k1 =>
 gif t13 false
 (bi .gtr t2 (.int .i64 256) fun t16 =>
 k1 t16 w)
 (k1 undef w)) fun _ t16_1 w =>
 pik t13 (.bool true) t16_1 fun t17 =>
 cnd t17
 (R (.tuple #[(.pointer none), (.int .i64 1)]) w)
 (ldN 32 t3 w.heap fun t18 =>
 efP P (Instr.makeMap T_map_api_ID_api_Block none) w fun t21 w =>
 rdP P (Instr.build T_tree_Tree #[(0, (.bool true)), (1, t18), (2, t1), (3, t2), (4, t21)]) w fun t22 =>
 bx T_tree_Tree t22 w fun t23 w =>
 R (.tuple #[t23, (.int .i64 0)]) w)
theorem k_tree_New : kO Tryd.f47 A_tree_New = true := by kernel_rfl
theorem s_tree_New (h : SQ Q (c_tree_New t0 t1 t2 w)) : cal P f_tree_New [t0, t1, t2] w Q := sO Tryd.func47 rfl (by kernel_rfl) k_tree_New (by kernel_rfl) h

/-- (*flurry/tree.Tree).none -/
def A_tree_Tree_none : An := (An.s (An.r []) (An.s (An.r [[10]]) An.o))
def c_tree_Tree_none (t0 : Value) (w : World) (R : KR) : Prop :=
 nilP false t0 fun t4 =>
 jn1 (fun k0 =>
 gif t4 false
 (nilc t0 fun t7 =>
 fad 0 t7 fun t8 =>
 ld1 t8 w.heap fun t9 =>
 notB t9 fun t10 =>
 k0 t10 w)
 (k0 undef w)) fun _ t10_1 w =>
 pik t4 (.bool true) t10_1 fun t11 =>
 R t11 w
theorem k_tree_Tree_none : kO Tryd.f48 A_tree_Tree_none = true := by kernel_rfl
theorem s_tree_Tree_none (h : SQ Q (c_tree_Tree_none t0 w)) : cal P f_tree_Tree_none [t0] w Q := sO Tryd.func48 rfl (by kernel_rfl) k_tree_Tree_none (by kernel_rfl) h

/-- slices.Clone[[]flurry/api.ID,flurry/api.ID] -/
def A_slices_Clone_api_ID_api_ID : An := (An.s (An.r []) (An.s (An.s (An.r []) (An.s (An.s (An.r []) An.o) An.o)) (An.s (An.r []) An.o)))
def c_slices_Clone_api_ID_api_ID (t0 : Value) (w : World) (R : KR) : Prop :=
 nilS false t0 fun t4 =>
 cnd t4
 (R (.slice none 0 0) w)
 (efP P (Instr.buildSlice T_sl_api_ID 0 #[]) w fun t5 w =>
 efP P (Builtin.append_ #[T_sl_api_ID, T_sl_api_ID] T_sl_api_ID #[t5, t0]) w fun t7 w =>
 R t7 w)
theorem k_slices_Clone_api_ID_api_ID : kO Tryd.f49 A_slices_Clone_api_ID_api_ID = true := by kernel_rfl
theorem s_slices_Clone_api_ID_api_ID (h : SQ Q (c_slices_Clone_api_ID_api_ID t0 w)) : cal P f_slices_Clone_api_ID_api_ID [t0] w Q := sO Tryd.func49 rfl (by kernel_rfl) k_slices_Clone_api_ID_api_ID (by kernel_rfl) h

/-- (*flurry/tree.Tree).level -/
def A_tree_Tree_level : An := (An.s (An.r []) (An.s (An.s (An.r []) (An.s (An.s (An.r []) An.o) An.o)) (An.s (An.s (An.r []) (An.s (An.s (An.r []) An.o) An.o)) (An.s (An.dc [0, 1, 2, 3, 4, 5, 6, 7, 8, 9, 10, 11] [10] []) (An.s (An.r []) An.o)))))
def c_tree_Tree_level (t0 t1 : Value) (w : World) (R : KR) : Prop :=
 bx T_api_ID t1 w fun t3 w =>
 cal P f_tree_Tree_none [t0] w fun t9 w =>
 cnd t9
 (R (.tuple #[(.int .i64 0), (.bool false)]) w)
 (drw w fun w =>
 ldN 32 t3 w.heap fun t10 =>
 nilc t0 fun t12 =>
 fad 1 t12 fun t13 =>
 ldN 32 t13 w.heap fun t14 =>
 rdP P (eqS .eql T_api_ID (Operand.tmp 10) (Operand.tmp 14) t10 t14) w fun t15 =>
 cnd t15
 (nilc t0 fun t17 =>
 fad 33 t17 fun t18 =>
 ld1 t18 w.heap fun t19 =>
 R (.tuple #[t19, (.bool true)]) w)
 (drH w fun S w =>
 nilc t0 fun t22 =>
 fad 35 t22 fun t23 =>
 rdS S (fun w => ld1 t23 w.heap) fun t24 =>
 rdS S (fun w => ldN 32 t3 w.heap) fun t25 =>
 rdS S (rdP P (Instr.lookup T_map_api_ID_api_Block t24 t25 true)) fun t26 =>
 ext 0 t26 fun t27 =>
 ext 1 t26 fun t28 =>
 efS S (efP P (Instr.alloc T_api_Block true (.tuple #[]))) w fun t6 w =>
 efC (fun w K => stN 34 t6 t27 w (K undef)) w fun S _ w =>
 fad 32 t6 fun t29 =>
 ld1 t29 w.heap fun t30 =>
 R (.tuple #[t30, t28]) w))
theorem k_tree_Tree_level : kO Tryd.f50 A_tree_Tree_level = true := by kernel_rfl
theorem s_tree_Tree_level (h : SQ Q (c_tree_Tree_level t0 t1 w)) : cal P f_tree_Tree_level [t0, t1] w Q := sO Tryd.func50 rfl (by kernel_rfl) k_tree_Tree_level (by kernel_rfl) h

/-- flurry/block.Clone -/
def A_block_Clone : An := (An.s (An.r []) (An.s (An.r []) (An.s (An.r []) An.o)))
def c_block_Clone (t0 : Value) (w : World) (R : KR) : Prop :=
 bx T_api_Block t0 w fun t1 w =>
 efP P (Instr.alloc T_api_Block true (.tuple #[])) w fun t2 w =>
 fad 33 t1 fun t3 =>
 ld1 t3 w.heap fun t4 =>
 cal P f_bytes_Clone [t4] w fun t5 w =>
 fad 33 t1 fun t6 =>
 st1 t6 t5 w fun w =>
 ldN 34 t1 w.heap fun t7 =>
 stN 34 t2 t7 w fun w =>
 ldN 34 t2 w.heap fun r0 =>
 R r0 w
theorem k_block_Clone : kO Tryd.f51 A_block_Clone = true := by kernel_rfl
theorem s_block_Clone (h : SQ Q (c_block_Clone t0 w)) : cal P f_block_Clone [t0] w Q := sO Tryd.func51 rfl (by kernel_rfl) k_block_Clone (by kernel_rfl) h

/-- flurry/snow.Check -/
def A_snow_Check : An := (An.s (An.r []) (An.s (An.s (An.r []) (An.s (An.r []) (An.s (An.s (An.r []) An.o) An.o))) (An.s (An.r []) (An.s (An.s (An.r [[26], [30], [37], [42], [49], [59]]) (An.s (An.s (An.r []) An.o) An.o)) (An.s (An.s (An.r []) (An.b (An.l [64] (An.s (An.r []) (An.s (An.s An.o An.o) (An.s (An.b (An.s (An.r []) (An.s (An.dc [0, 1, 2, 4, 3, 5, 6, 7, 8, 9, 10, 11, 12, 13, 14, 15, 16, 17, 18, 19, 20, 21, 22, 23, 24, 25, 26] [3] [[78], [83], [94]]) (An.s (An.s (An.r []) An.o) An.o)))) (An.r []))))))) (An.s (An.r []) An.o))))))
def c_snow_Check (t0 t1 : Value) (w : World) (R : KR) : Prop :=
 bx T_api_Params t0 w fun t2 w =>
 bx T_api_Snow t1 w fun t3 w =>
 ldN 4 t2 w.heap fun t9 =>
 cal P f_snow_Params [t9] w fun t10 w =>
 bi .neq t10 (.int .i64 0) fun t12 =>
 cnd t12
 (R t10 w)
 (ldN 67 t3 w.heap fun t14 =>
 fad 1 t3 fun t15 =>
 ldN 32 t15 w.heap fun t16 =>
 cal P f_snow_place [t14, t16] w fun t17 w =>
 fad 0 t3 fun t18 =>
 ld1 t18 w.heap fun t19 =>
 lenS t19 fun t20 =>
 bi .lss t20 (.int .i64 1) fun t21 =>
 jn1 (fun k0 =>
 gif t21 false
 (fad 0 t3 fun t23 =>
 ld1 t23 w.heap fun t24 =>
 lenS t24 fun t25 =>
 bi .gtr t25 (.int .i64 32) fun t26 =>
 k0 t26 w)
 (k0 undef w)) fun _ t26_1 w =>
 pik t21 (.bool true) t26_1 fun t27 =>
 jn1 (fun k1 =>
 gif t27 false
 (bi .lss t17 (.int .i64 0) fun t30 =>
 k1 t30 w)
 (k1 undef w)) fun _ t30_1 w =>
 pik t27 (.bool true) t30_1 fun t31 =>
 jn1 (fun k2 =>
 gif t31 false
 (ldN 67 t3 w.heap fun t33 =>
 fad 33 t3 fun t34 =>
 ldN 32 t34 w.heap fun t35 =>
 cal P f_snow_place [t33, t35] w fun t36 w =>
 bi .lss t36 (.int .i64 0) fun t37 =>
 k2 t37 w)
 (k2 undef w)) fun _ t37_1 w =>
 pik t31 (.bool true) t37_1 fun t38 =>
 jn1 (fun k3 =>
 gif t38 false
 (fad 65 t3 fun t40 =>
 ld1 t40 w.heap fun t41 =>
 bi .lss t41 (.int .i64 0) fun t42 =>
 k3 t42 w)
 (k3 undef w)) fun _ t42_1 w =>
 pik t38 (.bool true) t42_1 fun t43 =>
 jn1 (fun k4 =>
 gif t43 false
 (fad 65 t3 fun t45 =>
 ld1 t45 w.heap fun t46 =>
 fad 3 t2 fun t47 =>
 ld1 t47 w.heap fun t48 =>
 bi .gtr t46 t48 fun t49 =>
 k4 t49 w)
 (k4 undef w)) fun _ t49_1 w =>
 pik t43 (.bool true) t49_1 fun t50 =>
 jn1 (fun k5 =>
 gif t50 false
 (fad 66 t3 fun t52 =>
 ld1 t52 w.heap fun t53 =>
 fad 65 t3 fun t54 =>
 ld1 t54 w.heap fun t55 =>
 fad 3 t2 fun t56 =>
 ld1 t56 w.heap fun t57 =>
 bi .eql t55 t57 fun t58 =>
 rdP P (eqS .neq T_bool (Operand.tmp 53) (Operand.tmp 58) t53 t58) w fun t59 =>
 k5 t59 w)
 (k5 undef w)) fun _ t59_1 w =>
 pik t50 (.bool true) t59_1 fun t60 =>
 cnd t60
 (R (.int .i64 171) w)
 (fad 0 t3 fun t61 =>
 ld1 t61 w.heap fun t62 =>
 lenS t62 fun t63 =>
 lp1 (.int .i64 0) w fun _ t64 w again6 =>
 bi .lss t64 t63 fun t65 =>
 cnd t65
 (ixs 33 t62 t64 fun t67 =>
 ldN 33 t67 w.heap fun t68 =>
 efP P (Instr.alloc T_api_Choice true (.tuple #[])) w fun t8 w =>
 stN 33 t8 t68 w fun w =>
 drH w fun S w =>
 rdS S (fun w => ldN 67 t3 w.heap) fun t69 =>
 fad 0 t8 fun t70 =>
 rdS S (fun w => ldN 32 t70 w.heap) fun t71 =>
 efC (cal P f_snow_place [t69, t71]) w fun S t72 w =>
 bi .neq t72 t64 fun t74 =>
 jn1 (fun k7 =>
 gif t74 false
 (fad 32 t8 fun t76 =>
 rdS S (fun w => ld1 t76 w.heap) fun t77 =>
 bi .lss t77 (.int .i64 0) fun t78 =>
 k7 t78 w)
 (k7 undef w)) fun _ t78_1 w =>
 pik t74 (.bool true) t78_1 fun t79 =>
 jn1 (fun k8 =>
 gif t79 false
 (fad 32 t8 fun t81 =>
 rdS S (fun w => ld1 t81 w.heap) fun t82 =>
 bi .gtr t82 (.int .i64 1073741824) fun t83 =>
 k8 t83 w)
 (k8 undef w)) fun _ t83_1 w =>
 pik t79 (.bool true) t83_1 fun t84 =>
 jn1 (fun k9 =>
 gif t84 false
 (fad 32 t8 fun t86 =>
 rdS S (fun w => ld1 t86 w.heap) fun t87 =>
 fad 0 t3 fun t88 =>
 rdS S (fun w => ld1 t88 w.heap) fun t89 =>
 ixs 33 t89 t17 fun t91 =>
 fad 32 t91 fun t92 =>
 rdS S (fun w => ld1 t92 w.heap) fun t93 =>
 bi .gtr t87 t93 fun t94 =>
 k9 t94 w)
 (k9 undef w)) fun _ t94_1 w =>
 pik t84 (.bool true) t94_1 fun t95 =>
 cnd t95
 (R (.int .i64 171) w)
 (bi .add t64 (.int .i64 1) fun t96 =>
 again6 t96 w))
 (R (.int .i64 0) w)))
theorem k_snow_Check : kO Tryd.f52 A_snow_Check = true := by kernel_rfl
theorem s_snow_Check (h : SQ Q (c_snow_Check t0 t1 w)) : cal P f_snow_Check [t0, t1] w Q := sO Tryd.func52 rfl (by kernel_rfl) k_snow_Check (by kernel_rfl) h

/-- flurry/snow.Has -/
def A_snow_Has : An := (An.s (An.r []) (An.s (An.r []) An.o))
def c_snow_Has (t0 t1 : Value) (w : World) (R : KR) : Prop :=
 bx T_api_Snow t0 w fun t2 w =>
 bx T_api_ID t1 w fun t3 w =>
 ldN 67 t2 w.heap fun t5 =>
 ldN 32 t3 w.heap fun t6 =>
 cal P f_snow_place [t5, t6] w fun t7 w =>
 bi .geq t7 (.int .i64 0) fun t8 =>
 R t8 w
theorem k_snow_Has : kO Tryd.f53 A_snow_Has = true := by kernel_rfl
theorem s_snow_Has (h : SQ Q (c_snow_Has t0 t1 w)) : cal P f_snow_Has [t0, t1] w Q := sO Tryd.func53 rfl (by kernel_rfl) k_snow_Has (by kernel_rfl) h

/-- flurry/snow.own -/
def A_snow_own : An := (An.s (An.r []) (An.s (An.r []) (An.s (An.r []) An.o)))
def c_snow_own (t0 : Value) (w : World) (R : KR) : Prop :=
 bx T_api_Snow t0 w fun t1 w =>
 efP P (Instr.alloc T_api_Snow true (.tuple #[])) w fun t2 w =>
 fad 0 t1 fun t3 =>
 ld1 t3 w.heap fun t4 =>
 cal P f_slices_Clone_api_Choice_api_Choice [t4] w fun t5 w =>
 fad 0 t1 fun t6 =>
 st1 t6 t5 w fun w =>
 ldN 67 t1 w.heap fun t7 =>
 stN 67 t2 t7 w fun w =>
 ldN 67 t2 w.heap fun r0 =>
 R r0 w
theorem k_snow_own : kO Tryd.f54 A_snow_own = true := by kernel_rfl
theorem s_snow_own (h : SQ Q (c_snow_own t0 w)) : cal P f_snow_own [t0] w Q := sO Tryd.func54 rfl (by kernel_rfl) k_snow_own (by kernel_rfl) h

/-- flurry/bag.Less -/
def A_bag_Less : An := (An.s (An.r []) (An.s (An.r []) An.o))
def c_bag_Less (t0 t1 : Value) (w : World) (R : KR) : Prop :=
 bx T_api_ID t0 w fun t2 w =>
 bx T_api_ID t1 w fun t3 w =>
 ldN 32 t2 w.heap fun t5 =>
 ldN 32 t3 w.heap fun t6 =>
 cal P f_bag_compare [t5, t6] w fun t7 w =>
 bi .lss t7 (.int .i64 0) fun t8 =>
 R t8 w
theorem k_bag_Less : kO Tryd.f55 A_bag_Less = true := by kernel_rfl
theorem s_bag_Less (h : SQ Q (c_bag_Less t0 t1 w)) : cal P f_bag_Less [t0, t1] w Q := sO Tryd.func55 rfl (by kernel_rfl) k_bag_Less (by kernel_rfl) h

/-- flurry/bag.good -/
def A_bag_good : An := (An.s (An.r []) (An.s (An.s (An.r []) (An.s (An.s (An.r []) An.o) An.o)) (An.s (An.r []) An.o)))
def c_bag_good (t0 : Value) (w : World) (R : KR) : Prop :=
 cal P f_bag_Check [t0] w fun t4 w =>
 bi .neq t4 (.int .i64 0) fun t5 =>
 cnd t5
 (R (.slice none 0 0) w)
 (R t0 w)
theorem k_bag_good : kO Tryd.f56 A_bag_good = true := by kernel_rfl
theorem s_bag_good (h : SQ Q (c_bag_good t0 w)) : cal P f_bag_good [t0] w Q := sO Tryd.func56 rfl (by kernel_rfl) k_bag_good (by kernel_rfl) h

/-- (*flurry/topo.Topo).counts$1 -/
def A_topo_Topo_counts_1 : AnY := (AnY.s (AnY.c (An.r [])) (AnY.s (AnY.c (An.r [])) (AnY.s (AnY.s (AnY.c (An.dc [0, 1, 2, 3, 4, 5] [5] [])) (AnY.b (AnY.f (AnY.c (An.r [])) (AnY.b (AnY.c (An.dc [0, 1, 2, 3, 4, 5] [5] [])))))) (AnY.s (AnY.c (An.r [])) (AnY.s (AnY.c (An.r [])) AnY.o)))))
def c_topo_Topo_counts_1 (t0 t1 t2 t3 t4 : Value) (w : World) (R : KR) : Prop :=
 bx T_api_ID t0 w fun t5 w =>
 ld1 t1 w.heap fun t9 =>
 ldN 32 t5 w.heap fun t10 =>
 cal P f_bag_Count [t9, t10] w fun t11 w =>
 efP P (Instr.alloc T_int true (.tuple #[])) w fun t7 w =>
 st1 t7 t11 w fun w =>
 drH w fun S w =>
 rdS S (fun w => ld1 t2 w.heap) fun t12 =>
 nilc t12 fun t13 =>
 fad 0 t13 fun t14 =>
 rdS S (fun w => ld1 t14 w.heap) fun t15 =>
 rdS S (fun w => ldN 32 t5 w.heap) fun t16 =>
 efC (cal P f_tree_Tree_Kids [t15, t16]) w fun S t17 w =>
 rng P t17 1 w (fun args0 w beg0 fin0 =>
 efP P (Instr.alloc T_api_ID true (.tuple #[])) w fun t8 w =>
 stN 32 t8 (args0.getD 0 undef) w fun w =>
 beg0 w fun w =>
 drH w fun S w =>
 rdS S (fun w => ld1 t7 w.heap) fun t19 =>
 rdS S (fun w => ld1 t3 w.heap) fun t20 =>
 rdS S (fun w => ldN 32 t8 w.heap) fun t21 =>
 efS S (calV P t20 [t21]) w fun t22 w =>
 bi .add t19 t22 fun t23 =>
 efC (fun w K => st1 t7 t23 w (K undef)) w fun S _ w =>
 fin0 none w) fun D0 => [(none, fun w =>
 ld1 t4 w.heap fun t24 =>
 ldN 32 t5 w.heap fun t25 =>
 ld1 t7 w.heap fun t26 =>
 efU P (Instr.mapUpdate T_map_api_ID_int t24 t25 t26) w fun w =>
 ld1 t7 w.heap fun t27 =>
 takeD [D0] w fun w =>
 R t27 w)]
theorem k_topo_Topo_counts_1 : kOY Tryd.f57 A_topo_Topo_counts_1 = true := by kernel_rfl
theorem s_topo_Topo_counts_1 (h : SQ Q (c_topo_Topo_counts_1 t0 t1 t2 t3 t4 w)) : cal P f_topo_Topo_counts_1 [t0, t1, t2, t3, t4] w Q := sOY Tryd.func57 rfl (by kernel_rfl) k_topo_Topo_counts_1 (by kernel_rfl) h

/-- flurry/bag.Count -/
def A_bag_Count : An := (An.s (An.r []) (An.s (An.s (An.r []) (An.b (An.l [10] (An.s (An.r []) (An.s (An.s An.o An.o) (An.s (An.b (An.s (An.r []) (An.s (An.r []) (An.s (An.s (An.r []) An.o) An.o)))) (An.r []))))))) (An.s (An.r []) An.o)))
def c_bag_Count (t0 t1 : Value) (w : World) (R : KR) : Prop :=
 bx T_api_ID t1 w fun t3 w =>
 cal P f_bag_good [t0] w fun t8 w =>
 lenS t8 fun t9 =>
 lp1 (.int .i64 0) w fun _ t10 w again0 =>
 bi .lss t10 t9 fun t11 =>
 cnd t11
 (ixs 33 t8 t10 fun t12 =>
 ldN 33 t12 w.heap fun t13 =>
 efP P (Instr.alloc T_api_Vote true (.tuple #[])) w fun t6 w =>
 stN 33 t6 t13 w fun w =>
 fad 0 t6 fun t14 =>
 ldN 32 t14 w.heap fun t15 =>
 ldN 32 t3 w.heap fun t16 =>
 rdP P (eqS .eql T_api_ID (Operand.tmp 15) (Operand.tmp 16) t15 t16) w fun t17 =>
 cnd t17
 (fad 32 t6 fun t18 =>
 ld1 t18 w.heap fun t19 =>
 R t19 w)
 (bi .add t10 (.int .i64 1) fun t20 =>
 again0 t20 w))
 (R (.int .i64 0) w)
theorem k_bag_Count : kO Tryd.f58 A_bag_Count = true := by kernel_rfl
theorem s_bag_Count (h : SQ Q (c_bag_Count t0 t1 w)) : cal P f_bag_Count [t0, t1] w Q := sO Tryd.func58 rfl (by kernel_rfl) k_bag_Count (by kernel_rfl) h

/-- (*flurry/tree.Tree).Kids -/
def A_tree_Tree_Kids : An := (An.s (An.r []) (An.s (An.s (An.r []) (An.s (An.s (An.r []) An.o) An.o)) (An.s (An.r []) An.o)))
def c_tree_Tree_Kids (t0 t1 : Value) (w : World) (R : KR) : Prop :=
 bx T_p_tree_Tree t0 w fun t2 w =>
 bx T_api_ID t1 w fun t3 w =>
 ld1 t2 w.heap fun t5 =>
 ldN 32 t3 w.heap fun t6 =>
 cal P f_tree_Tree_Has [t5, t6] w fun t7 w =>
 notB t7 fun t8 =>
 cnd t8
 (cal P f_tree_told [(.slice none 0 0)] w fun t9 w =>
 R t9 w)
 (ld1 t2 w.heap fun t10 =>
 cal P f_tree_Tree_those [t10, (.func (Fn.func f_tree_Tree_Kids_1) #[] #[t2, t3])] w fun t12 w =>
 cal P f_tree_told [t12] w fun t13 w =>
 R t13 w)
theorem k_tree_Tree_Kids : kO Tryd.f59 A_tree_Tree_Kids = true := by kernel_rfl
theorem s_tree_Tree_Kids (h : SQ Q (c_tree_Tree_Kids t0 t1 w)) : cal P f_tree_Tree_Kids [t0, t1] w Q := sO Tryd.func59 rfl (by kernel_rfl) k_tree_Tree_Kids (by kernel_rfl) h

/-- (*flurry/tree.Tree).those -/
def A_tree_Tree_those : An := (An.s (An.r []) (An.s (An.s (An.r []) (An.s (An.s (An.r []) An.o) An.o)) (An.s (An.r []) (An.s (An.s (An.r []) (An.b (An.l [5, 15] (An.s (An.r []) (An.s (An.s An.o An.o) (An.s (An.j [5] (An.b (An.s (An.r []) (An.s (An.r []) (An.s (An.r []) An.o))))) (An.r []))))))) (An.s (An.r []) An.o)))))
def c_tree_Tree_those (t0 t1 : Value) (w : World) (R : KR) : Prop :=
 cal P f_tree_Tree_none [t0] w fun t9 w =>
 cnd t9
 (R (.slice none 0 0) w)
 (nilc t0 fun t11 =>
 fad 36 t11 fun t12 =>
 ld1 t12 w.heap fun t13 =>
 lenS t13 fun t14 =>
 lp2 (.slice none 0 0) (.int .i64 0) w fun _ t5 t15 w again0 =>
 bi .lss t15 t14 fun t16 =>
 cnd t16
 (jn1 (fun k1 =>
 ixs 32 t13 t15 fun t17 =>
 ldN 32 t17 w.heap fun t18 =>
 efP P (Instr.alloc T_api_ID true (.tuple #[])) w fun t7 w =>
 stN 32 t7 t18 w fun w =>
 ldN 32 t7 w.heap fun t20 =>
 calV P t1 [t20] w fun t21 w =>
 cnd t21
 (ldN 32 t7 w.heap fun t23 =>
 efP P (Instr.buildSlice T_sl_api_ID 1 #[(0, t23)]) w fun t24 w =>
 efP P (Builtin.append_ #[T_sl_api_ID, T_sl_api_ID] T_sl_api_ID #[t5, t24]) w fun t25 w =>
 k1 t25 w)
 (k1 t5 w)) fun _ t5_1 w =>
 bi .add t15 (.int .i64 1) fun t26 =>
 again0 t5_1 t26 w)
 (R t5 w))
theorem k_tree_Tree_those : kO Tryd.f60 A_tree_Tree_those = true := by kernel_rfl
theorem s_tree_Tree_those (h : SQ Q (c_tree_Tree_those t0 t1 w)) : cal P f_tree_Tree_those [t0, t1] w Q := sO Tryd.func60 rfl (by kernel_rfl) k_tree_Tree_those (by kernel_rfl) h

/-- (*flurry/tree.Tree).Move$1 -/
def A_tree_Tree_Move_1 : An := (An.s (An.r []) (An.s (An.r []) An.o))
def c_tree_Tree_Move_1 (t0 t1 t2 : Value) (w : World) (R : KR) : Prop :=
 bx T_api_ID t0 w fun t3 w =>
 ld1 t1 w.heap fun t5 =>
 ldN 32 t3 w.heap fun t6 =>
 ldN 32 t2 w.heap fun t7 =>
 cal P f_tree_Tree_Within [t5, t6, t7] w fun t8 w =>
 notB t8 fun t9 =>
 R t9 w
theorem k_tree_Tree_Move_1 : kO Tryd.f61 A_tree_Tree_Move_1 = true := by kernel_rfl
theorem s_tree_Tree_Move_1 (h : SQ Q (c_tree_Tree_Move_1 t0 t1 t2 w)) : cal P f_tree_Tree_Move_1 [t0, t1, t2] w Q := sO Tryd.func61 rfl (by kernel_rfl) k_tree_Tree_Move_1 (by kernel_rfl) h

/-- (*flurry/tree.Tree).Move$2 -/
def A_tree_Tree_Move_2 : An := (An.s (An.r []) (An.s (An.r [[12]]) An.o))
def c_tree_Tree_Move_2 (t0 t1 t2 : Value) (w : World) (R : KR) : Prop :=
 bx T_api_ID t0 w fun t3 w =>
 ldN 32 t3 w.heap fun t5 =>
 ldN 32 t1 w.heap fun t6 =>
 rdP P (eqS .neq T_api_ID (Operand.tmp 5) (Operand.tmp 6) t5 t6) w fun t7 =>
 jn1 (fun k0 =>
 gif t7 true
 (ld1 t2 w.heap fun t9 =>
 ldN 32 t3 w.heap fun t10 =>
 ldN 32 t1 w.heap fun t11 =>
 cal P f_tree_Tree_Within [t9, t10, t11] w fun t12 w =>
 k0 t12 w)
 (k0 undef w)) fun _ t12_1 w =>
 pik t7 t12_1 (.bool false) fun t13 =>
 R t13 w
theorem k_tree_Tree_Move_2 : kO Tryd.f62 A_tree_Tree_Move_2 = true := by kernel_rfl
theorem s_tree_Tree_Move_2 (h : SQ Q (c_tree_Tree_Move_2 t0 t1 t2 w)) : cal P f_tree_Tree_Move_2 [t0, t1, t2] w Q := sO Tryd.func62 rfl (by kernel_rfl) k_tree_Tree_Move_2 (by kernel_rfl) h

/-- flurry/snow.place -/
def A_snow_place : An := (An.s (An.r []) (An.s (An.r []) An.o))
def c_snow_place (t0 t1 : Value) (w : World) (R : KR) : Prop :=
 bx T_api_Snow t0 w fun t2 w =>
 bx T_api_ID t1 w fun t3 w =>
 fad 0 t2 fun t5 =>
 ld1 t5 w.heap fun t6 =>
 cal P f_slices_IndexFunc_api_Choice_api_Choice [t6, (.func (Fn.func f_snow_place_1) #[] #[t3])] w fun t8 w =>
 R t8 w
theorem k_snow_place : kO Tryd.f63 A_snow_place = true := by kernel_rfl
theorem s_snow_place (h : SQ Q (c_snow_place t0 t1 w)) : cal P f_snow_place [t0, t1] w Q := sO Tryd.func63 rfl (by kernel_rfl) k_snow_place (by kernel_rfl) h

/-- flurry/snow.reach -/
def A_snow_reach : An := (An.s (An.r []) (An.s (An.b (An.s (An.r []) (An.s (An.s (An.r []) An.o) (An.s (An.r []) (An.s (An.s (An.r []) An.o) An.o))))) (An.s (An.r []) An.o)))
def c_snow_reach (t0 t1 : Value) (w : World) (R : KR) : Prop :=
 bx T_api_Params t0 w fun t2 w =>
 fad 2 t2 fun t7 =>
 ld1 t7 w.heap fun t8 =>
 bi .geq t1 t8 fun t9 =>
 cnd t9
 (R (.int .i64 2) w)
 (fad 1 t2 fun t12 =>
 ld1 t12 w.heap fun t13 =>
 bi .geq t1 t13 fun t14 =>
 cnd t14
 (R (.int .i64 1) w)
 (R (.int .i64 0) w))
theorem k_snow_reach : kO Tryd.f64 A_snow_reach = true := by kernel_rfl
theorem s_snow_reach (h : SQ Q (c_snow_reach t0 t1 w)) : cal P f_snow_reach [t0, t1] w Q := sO Tryd.func64 rfl (by kernel_rfl) k_snow_reach (by kernel_rfl) h

/-- flurry/snow.Fail -/
def A_snow_Fail : An := (An.s (An.r []) (An.s (An.s (An.r []) (An.s (An.r []) (An.s (An.s (An.r []) An.o) An.o))) (An.s (An.r []) (An.s (An.j [] (An.s (An.r []) (An.s (An.r []) An.o))) (An.s (An.r []) An.o)))))
def c_snow_Fail (t0 t1 : Value) (w : World) (R : KR) : Prop :=
 bx T_api_Params t0 w fun t2 w =>
 bx T_api_Snow t1 w fun t3 w =>
 efP P (Instr.alloc T_api_Snow true (.tuple #[])) w fun t4 w =>
 ldN 4 t2 w.heap fun t7 =>
 ldN 67 t3 w.heap fun t8 =>
 cal P f_snow_Check [t7, t8] w fun t9 w =>
 bi .neq t9 (.int .i64 0) fun t11 =>
 cnd t11
 (rdP P (Instr.build T_api_Snow #[]) w fun t12 =>
 stN 67 t4 t12 w fun w =>
 ldN 67 t4 w.heap fun r0 =>
 R (.tuple #[r0, t9]) w)
 (ldN 67 t3 w.heap fun t14 =>
 cal P f_snow_own [t14] w fun t15 w =>
 stN 67 t3 t15 w fun w =>
 jn0 (fun k1 =>
 fad 66 t3 fun t16 =>
 ld1 t16 w.heap fun t17 =>
 notB t17 fun t18 =>
 cnd t18
 (fad 65 t3 fun t19 =>
 st1 t19 (.int .i64 0) w fun w =>
 k1 w)
 (k1 w)) fun _ w =>
 ldN 67 t3 w.heap fun t20 =>
 stN 67 t4 t20 w fun w =>
 ldN 67 t4 w.heap fun r2 =>
 R (.tuple #[r2, (.int .i64 0)]) w)
theorem k_snow_Fail : kO Tryd.f65 A_snow_Fail = true := by kernel_rfl
theorem s_snow_Fail (h : SQ Q (c_snow_Fail t0 t1 w)) : cal P f_snow_Fail [t0, t1] w Q := sO Tryd.func65 rfl (by kernel_rfl) k_snow_Fail (by kernel_rfl) h

/-- flurry/block.Check -/
def A_block_Check : An := (An.s (An.r []) (An.s (An.b (An.s (An.j [3] (An.s (An.r []) (An.s An.o (An.r [])))) (An.s (An.s (An.r []) An.o) (An.s (An.r [[19]]) (An.s (An.s (An.r []) An.o) An.o))))) (An.s (An.r []) An.o)))
def c_block_Check (t0 : Value) (w : World) (R : KR) : Prop :=
 bx T_api_Block t0 w fun t1 w =>
 jn1 (fun k0 =>
 fad 32 t1 fun t4 =>
 ld1 t4 w.heap fun t5 =>
 bi .lss t5 (.int .i64 0) fun t6 =>
 cnd t6
 (k0 t6 w)
 (fad 33 t1 fun t7 =>
 ld1 t7 w.heap fun t8 =>
 lenS t8 fun t9 =>
 bi .gtr t9 (.int .i64 200) fun t10 =>
 k0 t10 w)) fun _ t3 w =>
 cnd t3
 (R (.int .i64 30) w)
 (fad 32 t1 fun t12 =>
 ld1 t12 w.heap fun t13 =>
 bi .eql t13 (.int .i64 0) fun t14 =>
 jn1 (fun k1 =>
 gif t14 true
 (fad 0 t1 fun t16 =>
 ldN 32 t16 w.heap fun t17 =>
 rdP P (Instr.build T_api_ID #[]) w fun t18 =>
 rdP P (eqS .neq T_api_ID (Operand.tmp 17) (Operand.tmp 18) t17 t18) w fun t19 =>
 k1 t19 w)
 (k1 undef w)) fun _ t19_1 w =>
 pik t14 t19_1 (.bool false) fun t20 =>
 cnd t20
 (R (.int .i64 30) w)
 (R (.int .i64 0) w))
theorem k_block_Check : kO Tryd.f66 A_block_Check = true := by kernel_rfl
theorem s_block_Check (h : SQ Q (c_block_Check t0 w)) : cal P f_block_Check [t0] w Q := sO Tryd.func66 rfl (by kernel_rfl) k_block_Check (by kernel_rfl) h

/-- flurry/pack.New -/
def A_pack_New : An := (An.s (An.r []) (An.s (An.r []) (An.s (An.r []) (An.s (An.s (An.r [[15]]) (An.s (An.r []) An.o)) (An.s (An.r []) An.o)))))
def c_pack_New (t0 : Value) (w : World) (R : KR) : Prop :=
 rdP P (Instr.build T_pack_Packer #[(1, t0)]) w fun t5 =>
 bx T_pack_Packer t5 w fun t6 w =>
 nilc t6 fun t8 =>
 fad 0 t8 fun t9 =>
 fad 0 t9 fun t10 =>
 st1 t10 (.bool true) w fun w =>
 bi .lss t0 (.int .i64 0) fun t12 =>
 jn1 (fun k0 =>
 gif t12 false
 (bi .gtr t0 (.int .i64 8192) fun t15 =>
 k0 t15 w)
 (k0 undef w)) fun _ t15_1 w =>
 pik t12 (.bool true) t15_1 fun t16 =>
 cnd t16
 (nilc t6 fun t18 =>
 fad 0 t18 fun t19 =>
 fad 2 t19 fun t20 =>
 st1 t20 (.int .i64 1) w fun w =>
 R t6 w)
 (R t6 w)
theorem k_pack_New : kO Tryd.f67 A_pack_New = true := by kernel_rfl
theorem s_pack_New (h : SQ Q (c_pack_New t0 w)) : cal P f_pack_New [t0] w Q := sO Tryd.func67 rfl (by kernel_rfl) k_pack_New (by kernel_rfl) h

/-- (*flurry/pack.Packer).Short -/
def A_pack_Packer_Short : An := (An.r [])
def c_pack_Packer_Short (t0 t1 : Value) (w : World) (R : KR) : Prop :=
 cvi .u64 t1 fun t6 =>
 cal P f_pack_number [(.int .i64 2), t6] w fun t7 w =>
 cal P f_pack_Packer_put [t0, t7, (.slice none 0 0)] w fun t8 w =>
 R (.tuple #[]) w
theorem k_pack_Packer_Short : kO Tryd.f68 A_pack_Packer_Short = true := by kernel_rfl
theorem s_pack_Packer_Short (h : SQ Q (c_pack_Packer_Short t0 t1 w)) : cal P f_pack_Packer_Short [t0, t1] w Q := sO Tryd.func68 rfl (by kernel_rfl) k_pack_Packer_Short (by kernel_rfl) h

/-- (*flurry/pack.Packer).Fixed -/
def A_pack_Packer_Fixed : An := (An.r [])
def c_pack_Packer_Fixed (t0 t1 : Value) (w : World) (R : KR) : Prop :=
 cal P f_pack_Packer_put [t0, (.slice none 0 0), t1] w fun t6 w =>
 R (.tuple #[]) w
theorem k_pack_Packer_Fixed : kO Tryd.f69 A_pack_Packer_Fixed = true := by kernel_rfl
theorem s_pack_Packer_Fixed (h : SQ Q (c_pack_Packer_Fixed t0 t1 w)) : cal P f_pack_Packer_Fixed [t0, t1] w Q := sO Tryd.func69 rfl (by kernel_rfl) k_pack_Packer_Fixed (by kernel_rfl) h

/-- (*flurry/pack.Packer).Long -/
def A_pack_Packer_Long : An := (An.r [])
def c_pack_Packer_Long (t0 t1 : Value) (w : World) (R : KR) : Prop :=
 cal P f_pack_number [(.int .i64 8), t1] w fun t6 w =>
 cal P f_pack_Packer_put [t0, t6, (.slice none 0 0)] w fun t7 w =>
 R (.tuple #[]) w
theorem k_pack_Packer_Long : kO Tryd.f70 A_pack_Packer_Long = true := by kernel_rfl
theorem s_pack_Packer_Long (h : SQ Q (c_pack_Packer_Long t0 t1 w)) : cal P f_pack_Packer_Long [t0, t1] w Q := sO Tryd.func70 rfl (by kernel_rfl) k_pack_Packer_Long (by kernel_rfl) h

/-- (*flurry/pack.Packer).Bytes -/
def A_pack_Packer_Bytes : An := (An.r [])
def c_pack_Packer_Bytes (t0 t1 : Value) (w : World) (R : KR) : Prop :=
 lenS t1 fun t6 =>
 cvi .u64 t6 fun t7 =>
 cal P f_pack_number [(.int .i64 4), t7] w fun t8 w =>
 cal P f_pack_Packer_put [t0, t8, t1] w fun t10 w =>
 R (.tuple #[]) w
theorem k_pack_Packer_Bytes : kO Tryd.f71 A_pack_Packer_Bytes = true := by kernel_rfl
theorem s_pack_Packer_Bytes (h : SQ Q (c_pack_Packer_Bytes t0 t1 w)) : cal P f_pack_Packer_Bytes [t0, t1] w Q := sO Tryd.func71 rfl (by kernel_rfl) k_pack_Packer_Bytes (by kernel_rfl) h

/-- (*flurry/pack.Packer).Out -/
def A_pack_Packer_Out : An := (An.s (An.r []) (An.s (An.s (An.r []) (An.s (An.r []) (An.s (An.s (An.r []) An.o) An.o))) (An.s (An.r []) (An.s (An.r []) (An.s (An.r []) An.o)))))
def c_pack_Packer_Out (t0 : Value) (w : World) (R : KR) : Prop :=
 cal P f_pack_Packer_Err [t0] w fun t7 w =>
 bi .neq t7 (.int .i64 0) fun t9 =>
 cnd t9
 (R (.tuple #[(.slice none 0 0), t7]) w)
 (nilc t0 fun t12 =>
 fad 0 t12 fun t13 =>
 fad 1 t13 fun t14 =>
 ld1 t14 w.heap fun t15 =>
 lenS t15 fun t16 =>
 efP P (Instr.makeSlice T_sl_uint8 t16 t16) w fun t17 w =>
 nilc t0 fun t20 =>
 fad 0 t20 fun t21 =>
 fad 1 t21 fun t22 =>
 ld1 t22 w.heap fun t23 =>
 efP P (Builtin.copy_ #[T_sl_uint8, T_sl_uint8] T_int #[t17, t23]) w fun t24 w =>
 R (.tuple #[t17, (.int .i64 0)]) w)
theorem k_pack_Packer_Out : kO Tryd.f72 A_pack_Packer_Out = true := by kernel_rfl
theorem s_pack_Packer_Out (h : SQ Q (c_pack_Packer_Out t0 w)) : cal P f_pack_Packer_Out [t0] w Q := sO Tryd.func72 rfl (by kernel_rfl) k_pack_Packer_Out (by kernel_rfl) h

/-- flurry/sha.New -/
def A_sha_New : An := (An.s (An.r []) (An.s (An.r []) An.o))
def c_sha_New (w : World) (R : KR) : Prop :=
 cal P f_sha_first [] w fun t1 w =>
 rdP P (Instr.build T_sha_State #[(0, t1), (3, (.bool true))]) w fun t2 =>
 bx T_sha_State t2 w fun t3 w =>
 R t3 w
theorem k_sha_New : kO Tryd.f73 A_sha_New = true := by kernel_rfl
theorem s_sha_New (h : SQ Q (c_sha_New w)) : cal P f_sha_New [] w Q := sO Tryd.func73 rfl (by kernel_rfl) k_sha_New (by kernel_rfl) h

/-- (*flurry/sha.State).Write -/
def A_sha_State_Write : An := (An.s (An.r []) (An.s (An.s (An.r []) (An.s (An.s (An.r []) An.o) An.o)) (An.s (An.s (An.r []) (An.b (An.l [12] (An.s (An.r []) (An.s (An.s An.o An.o) (An.s (An.b (An.s (An.r []) (An.s (An.r []) (An.s (An.r []) (An.s (An.b (An.l [7] (An.s (An.s (An.r []) (An.s An.o An.o)) (An.b (An.s (An.dc [0, 1, 2, 3, 4, 5, 6, 7, 8, 9, 10] [7, 10] []) (An.r [])))))) (An.r [])))))) (An.r []))))))) (An.s (An.r []) An.o))))
def c_sha_State_Write (t0 t1 : Value) (w : World) (R : KR) : Prop :=
 cal P f_sha_State_none [t0] w fun t9 w =>
 cnd t9
 (R (.int .i64 2) w)
 (lenS t1 fun t11 =>
 lp1 (.int .i64 0) w fun _ t12 w again0 =>
 bi .lss t12 t11 fun t13 =>
 cnd t13
 (ixs 1 t1 t12 fun t14 =>
 ld1 t14 w.heap fun t15 =>
 nilc t0 fun t17 =>
 fad 9 t17 fun t18 =>
 ld1 t18 w.heap fun t19 =>
 lenS t15 fun t21 =>
 bi .add t19 t21 fun t22 =>
 nilc t0 fun t23 =>
 fad 9 t23 fun t24 =>
 st1 t24 t22 w fun w =>
 nilc t0 fun t26 =>
 fad 8 t26 fun t27 =>
 ld1 t27 w.heap fun t28 =>
 efP P (Instr.buildSlice T_sl_sl_uint8 2 #[(0, t28), (1, t15)]) w fun t30 w =>
 cal P f_slices_Concat_byte_byte [t30] w fun t31 w =>
 lp1 t31 w fun _ t7 w again1 =>
 lenS t7 fun t33 =>
 bi .geq t33 (.int .i64 64) fun t34 =>
 cnd t34
 (drH w fun S w =>
 nilc t0 fun t37 =>
 fad 0 t37 fun t38 =>
 rdS S (fun w => ldN 8 t38 w.heap) fun t39 =>
 slc 1 t7 none (some (.int .i64 64)) fun t41 =>
 efC (cal P f_sha_mixed [t39, t41]) w fun S t42 w =>
 nilc t0 fun t43 =>
 fad 0 t43 fun t44 =>
 efC (fun w K => stN 8 t44 t42 w (K undef)) w fun S _ w =>
 slc 1 t7 (some (.int .i64 64)) none fun t46 =>
 again1 t46 w)
 (cal P f_bytes_Clone [t7] w fun t49 w =>
 nilc t0 fun t50 =>
 fad 8 t50 fun t51 =>
 st1 t51 t49 w fun w =>
 bi .add t12 (.int .i64 1) fun t52 =>
 again0 t52 w))
 (R (.int .i64 0) w))
theorem k_sha_State_Write : kO Tryd.f74 A_sha_State_Write = true := by kernel_rfl
theorem s_sha_State_Write (h : SQ Q (c_sha_State_Write t0 t1 w)) : cal P f_sha_State_Write [t0, t1] w Q := sO Tryd.func74 rfl (by kernel_rfl) k_sha_State_Write (by kernel_rfl) h

/-- (*flurry/sha.State).Sum -/
def A_sha_State_Sum : An := (An.s (An.r []) (An.s (An.r []) (An.s (An.s (An.r []) (An.s (An.s (An.r []) An.o) An.o)) (An.s (An.r []) (An.s (An.b (An.l [4] (An.s (An.s (An.r []) (An.s An.o An.o)) (An.b (An.r []))))) (An.s (An.r []) (An.s (An.s (An.r []) (An.b (An.l [4, 33] (An.s (An.r []) (An.s (An.s An.o An.o) (An.s (An.b (An.s (An.r []) (An.r []))) (An.r []))))))) (An.s (An.r []) (An.s (An.b (An.l [4] (An.s (An.s (An.r []) (An.s An.o An.o)) (An.s (An.b (An.dc [0, 1, 2, 3, 4] [3, 4] [])) (An.r []))))) (An.s (An.s (An.r []) (An.b (An.l [60] (An.s (An.r []) (An.s (An.s An.o An.o) (An.s (An.b (An.s (An.r []) (An.r []))) (An.r []))))))) (An.s (An.r []) An.o)))))))))))
def c_sha_State_Sum (t0 : Value) (w : World) (R : KR) : Prop :=
 efP P (Instr.alloc T_api_ID true (.tuple #[])) w fun t2 w =>
 efP P (Instr.alloc T_api_ID true (.tuple #[])) w fun t3 w =>
 cal P f_sha_State_none [t0] w fun t11 w =>
 cnd t11
 (ldN 32 t3 w.heap fun t12 =>
 stN 32 t2 t12 w fun w =>
 ldN 32 t2 w.heap fun r0 =>
 R r0 w)
 (nilc t0 fun t14 =>
 fad 8 t14 fun t15 =>
 ld1 t15 w.heap fun t16 =>
 cal P f_bytes_Clone [t16] w fun t17 w =>
 efP P (Instr.buildSlice T_sl_uint8 1 #[(0, (.int .u8 128))]) w fun t18 w =>
 efP P (Builtin.append_ #[T_sl_uint8, T_sl_uint8] T_sl_uint8 #[t17, t18]) w fun t19 w =>
 lp1 t19 w fun _ t4 w again1 =>
 lenS t4 fun t21 =>
 bi .rem t21 (.int .i64 64) fun t22 =>
 bi .neq t22 (.int .i64 56) fun t23 =>
 cnd t23
 (efP P (Instr.buildSlice T_sl_uint8 1 #[(0, (.int .u8 0))]) w fun t25 w =>
 efP P (Builtin.append_ #[T_sl_uint8, T_sl_uint8] T_sl_uint8 #[t4, t25]) w fun t26 w =>
 again1 t26 w)
 (nilc t0 fun t28 =>
 fad 9 t28 fun t29 =>
 ld1 t29 w.heap fun t30 =>
 cvi .u64 t30 fun t31 =>
 bi .mul t31 (.int .u64 8) fun t32 =>
 lp2 t4 (.int .i64 0) w fun _ t4_1 t33 w again2 =>
 bi .lss t33 (.int .i64 8) fun t34 =>
 cnd t34
 (bi .mul (.int .i64 8) t33 fun t39 =>
 bi .sub (.int .i64 56) t39 fun t40 =>
 sh .shr t32 t40 fun t41 =>
 cvi .u8 t41 fun t42 =>
 efP P (Instr.buildSlice T_sl_uint8 1 #[(0, t42)]) w fun t43 w =>
 efP P (Builtin.append_ #[T_sl_uint8, T_sl_uint8] T_sl_uint8 #[t4_1, t43]) w fun t44 w =>
 bi .add t33 (.int .i64 1) fun t45 =>
 again2 t44 t45 w)
 (nilc t0 fun t47 =>
 fad 0 t47 fun t48 =>
 ldN 8 t48 w.heap fun t49 =>
 efP P (Instr.alloc T_a8_uint32 true (.tuple #[])) w fun t7 w =>
 stN 8 t7 t49 w fun w =>
 lp1 t4_1 w fun _ t4_2 w again3 =>
 lenS t4_2 fun t51 =>
 bi .gtr t51 (.int .i64 0) fun t52 =>
 cnd t52
 (drH w fun S w =>
 rdS S (fun w => ldN 8 t7 w.heap) fun t55 =>
 slc 1 t4_2 none (some (.int .i64 64)) fun t57 =>
 efC (cal P f_sha_mixed [t55, t57]) w fun S t58 w =>
 efC (fun w K => stN 8 t7 t58 w (K undef)) w fun S _ w =>
 slc 1 t4_2 (some (.int .i64 64)) none fun t54 =>
 again3 t54 w)
 (ldN 8 t7 w.heap fun t59 =>
 lp1 (.int .i64 0) w fun _ t60 w again4 =>
 bi .lss t60 (.int .i64 8) fun t61 =>
 cnd t61
 (ixv 8 1 false t59 t60 fun t63 =>
 bi .mul (.int .i64 4) t60 fun t65 =>
 bi .mul (.int .i64 4) t60 fun t67 =>
 bi .add t67 (.int .i64 1) fun t68 =>
 bi .mul (.int .i64 4) t60 fun t70 =>
 bi .add t70 (.int .i64 2) fun t71 =>
 bi .mul (.int .i64 4) t60 fun t73 =>
 bi .add t73 (.int .i64 3) fun t74 =>
 sh .shr t63 (.int .u64 24) fun t76 =>
 cvi .u8 t76 fun t77 =>
 sh .shr t63 (.int .u64 16) fun t79 =>
 cvi .u8 t79 fun t80 =>
 sh .shr t63 (.int .u64 8) fun t82 =>
 cvi .u8 t82 fun t83 =>
 cvi .u8 t63 fun t85 =>
 ixa 32 1 t3 t65 fun t86 =>
 st1 t86 t77 w fun w =>
 ixa 32 1 t3 t68 fun t87 =>
 st1 t87 t80 w fun w =>
 ixa 32 1 t3 t71 fun t88 =>
 st1 t88 t83 w fun w =>
 ixa 32 1 t3 t74 fun t89 =>
 st1 t89 t85 w fun w =>
 bi .add t60 (.int .i64 1) fun t90 =>
 again4 t90 w)
 (ldN 32 t3 w.heap fun t91 =>
 stN 32 t2 t91 w fun w =>
 ldN 32 t2 w.heap fun r5 =>
 R r5 w)))))
theorem k_sha_State_Sum : kO Tryd.f75 A_sha_State_Sum = true := by kernel_rfl
theorem s_sha_State_Sum (h : SQ Q (c_sha_State_Sum t0 w)) : cal P f_sha_State_Sum [t0] w Q := sO Tryd.func75 rfl (by kernel_rfl) k_sha_State_Sum (by kernel_rfl) h

/-- bytes.Clone -/
def A_bytes_Clone : An := (An.s (An.r []) (An.s (An.s (An.r []) (An.s (An.s (An.r []) An.o) An.o)) (An.s (An.r []) An.o)))
def c_bytes_Clone (t0 : Value) (w : World) (R : KR) : Prop :=
 nilS false t0 fun t4 =>
 cnd t4
 (R (.slice none 0 0) w)
 (efP P (Instr.buildSlice T_sl_uint8 0 #[]) w fun t5 w =>
 efP P (Builtin.append_ #[T_sl_uint8, T_sl_uint8] T_sl_uint8 #[t5, t0]) w fun t7 w =>
 R t7 w)
theorem k_bytes_Clone : kO Tryd.f76 A_bytes_Clone = true := by kernel_rfl
theorem s_bytes_Clone (h : SQ Q (c_bytes_Clone t0 w)) : cal P f_bytes_Clone [t0] w Q := sO Tryd.func76 rfl (by kernel_rfl) k_bytes_Clone (by kernel_rfl) h

/-- slices.Clone[[]flurry/api.Choice,flurry/api.Choice] -/
def A_slices_Clone_api_Choice_api_Choice : An := (An.s (An.r []) (An.s (An.s (An.r []) (An.s (An.s (An.r []) An.o) An.o)) (An.s (An.r []) An.o)))
def c_slices_Clone_api_Choice_api_Choice (t0 : Value) (w : World) (R : KR) : Prop :=
 nilS false t0 fun t4 =>
 cnd t4
 (R (.slice none 0 0) w)
 (efP P (Instr.buildSlice T_sl_api_Choice 0 #[]) w fun t5 w =>
 efP P (Builtin.append_ #[T_sl_api_Choice, T_sl_api_Choice] T_sl_api_Choice #[t5, t0]) w fun t7 w =>
 R t7 w)
theorem k_slices_Clone_api_Choice_api_Choice : kO Tryd.f77 A_slices_Clone_api_Choice_api_Choice = true := by kernel_rfl
theorem s_slices_Clone_api_Choice_api_Choice (h : SQ Q (c_slices_Clone_api_Choice_api_Choice t0 w)) : cal P f_slices_Clone_api_Choice_api_Choice [t0] w Q := sO Tryd.func77 rfl (by kernel_rfl) k_slices_Clone_api_Choice_api_Choice (by kernel_rfl) h

/-- flurry/bag.compare -/
def A_bag_compare : An := (An.s (An.r []) (An.s (An.dc [0, 1, 2, 3] [2] []) An.o))
def c_bag_compare (t0 t1 : Value) (w : World) (R : KR) : Prop :=
 bx T_api_ID t0 w fun t2 w =>
 bx T_api_ID t1 w fun t3 w =>
 drH w fun S w =>
 sla 32 1 t2 none none fun t5 =>
 sla 32 1 t3 none none fun t6 =>
 efC (cal P f_bytes_Compare [t5, t6]) w fun S t7 w =>
 R t7 w
theorem k_bag_compare : kO Tryd.f78 A_bag_compare = true := by kernel_rfl
theorem s_bag_compare (h : SQ Q (c_bag_compare t0 t1 w)) : cal P f_bag_compare [t0, t1] w Q := sO Tryd.func78 rfl (by kernel_rfl) k_bag_compare (by kernel_rfl) h

/-- flurry/tree.told -/
def A_tree_told : An := (An.s (An.r []) (An.s (An.r []) An.o))
def c_tree_told (t0 : Value) (w : World) (R : KR) : Prop :=
 bx T_sl_api_ID t0 w fun t1 w =>
 R (.func (Fn.func f_tree_told_1) #[] #[t1]) w
theorem k_tree_told : kO Tryd.f79 A_tree_told = true := by kernel_rfl
theorem s_tree_told (h : SQ Q (c_tree_told t0 w)) : cal P f_tree_told [t0] w Q := sO Tryd.func79 rfl (by kernel_rfl) k_tree_told (by kernel_rfl) h

/-- (*flurry/tree.Tree).Kids$1 -/
def A_tree_Tree_Kids_1 : An := (An.s (An.r []) (An.s (An.r []) An.o))
def c_tree_Tree_Kids_1 (t0 t1 t2 : Value) (w : World) (R : KR) : Prop :=
 bx T_api_ID t0 w fun t3 w =>
 drw w fun w =>
 ld1 t1 w.heap fun t5 =>
 nilc t5 fun t6 =>
 fad 35 t6 fun t7 =>
 ld1 t7 w.heap fun t8 =>
 ldN 32 t3 w.heap fun t9 =>
 rdP P (Instr.lookup T_map_api_ID_api_Block t8 t9 false) w fun t10 =>
 fldv 0 32 true t10 fun t11 =>
 ldN 32 t2 w.heap fun t12 =>
 rdP P (eqS .eql T_api_ID (Operand.tmp 11) (Operand.tmp 12) t11 t12) w fun t13 =>
 R t13 w
theorem k_tree_Tree_Kids_1 : kO Tryd.f80 A_tree_Tree_Kids_1 = true := by kernel_rfl
theorem s_tree_Tree_Kids_1 (h : SQ Q (c_tree_Tree_Kids_1 t0 t1 t2 w)) : cal P f_tree_Tree_Kids_1 [t0, t1, t2] w Q := sO Tryd.func80 rfl (by kernel_rfl) k_tree_Tree_Kids_1 (by kernel_rfl) h

/-- slices.IndexFunc[[]flurry/api.Choice,flurry/api.Choice] -/
def A_slices_IndexFunc_api_Choice_api_Choice : An := (An.s (An.r []) (An.s (An.s (An.r []) (An.b (An.l [8] (An.s (An.r []) (An.s (An.s An.o An.o) (An.s (An.b (An.s (An.r []) (An.s (An.r []) (An.s (An.s (An.r []) An.o) An.o)))) (An.r []))))))) (An.s (An.r []) An.o)))
def c_slices_IndexFunc_api_Choice_api_Choice (t0 t1 : Value) (w : World) (R : KR) : Prop :=
 lenS t0 fun t7 =>
 lp1 (.int .i64 0) w fun _ t8 w again0 =>
 bi .lss t8 t7 fun t9 =>
 cnd t9
 (ixs 33 t0 t8 fun t14 =>
 ldN 33 t14 w.heap fun t15 =>
 calV P t1 [t15] w fun t16 w =>
 cnd t16
 (R t8 w)
 (bi .add t8 (.int .i64 1) fun t18 =>
 again0 t18 w))
 (R (.int .i64 (-1)) w)
theorem k_slices_IndexFunc_api_Choice_api_Choice : kO Tryd.f81 A_slices_IndexFunc_api_Choice_api_Choice = true := by kernel_rfl
theorem s_slices_IndexFunc_api_Choice_api_Choice (h : SQ Q (c_slices_IndexFunc_api_Choice_api_Choice t0 t1 w)) : cal P f_slices_IndexFunc_api_Choice_api_Choice [t0, t1] w Q := sO Tryd.func81 rfl (by kernel_rfl) k_slices_IndexFunc_api_Choice_api_Choice (by kernel_rfl) h

/-- flurry/snow.place$1 -/
def A_snow_place_1 : An := (An.s (An.r []) (An.s (An.r []) An.o))
def c_snow_place_1 (t0 t1 : Value) (w : World) (R : KR) : Prop :=
 bx T_api_Choice t0 w fun t2 w =>
 fad 0 t2 fun t4 =>
 ldN 32 t4 w.heap fun t5 =>
 ldN 32 t1 w.heap fun t6 =>
 rdP P (eqS .eql T_api_ID (Operand.tmp 5) (Operand.tmp 6) t5 t6) w fun t7 =>
 R t7 w
theorem k_snow_place_1 : kO Tryd.f82 A_snow_place_1 = true := by kernel_rfl
theorem s_snow_place_1 (h : SQ Q (c_snow_place_1 t0 t1 w)) : cal P f_snow_place_1 [t0, t1] w Q := sO Tryd.func82 rfl (by kernel_rfl) k_snow_place_1 (by kernel_rfl) h

/-- (*flurry/pack.Packer).put -/
def A_pack_Packer_put : An := (An.s (An.s (An.r []) (An.s An.o An.o)) (An.s (An.r []) (An.s (An.s (An.r [[32]]) (An.s (An.s (An.r []) An.o) An.o)) (An.r []))))
def c_pack_Packer_put (t0 t1 t2 : Value) (w : World) (R : KR) : Prop :=
 cal P f_pack_Packer_works [t0] w fun t8 w =>
 notB t8 fun t9 =>
 cnd t9
 (R (.tuple #[]) w)
 (drw w fun w =>
 nilc t0 fun t11 =>
 fad 3 t11 fun t12 =>
 ld1 t12 w.heap fun t13 =>
 nilc t0 fun t15 =>
 fad 0 t15 fun t16 =>
 fad 1 t16 fun t17 =>
 ld1 t17 w.heap fun t18 =>
 lenS t18 fun t19 =>
 bi .sub t13 t19 fun t20 =>
 lenS t1 fun t22 =>
 bi .gtr t22 t20 fun t24 =>
 jn1 (fun k0 =>
 gif t24 false
 (lenS t2 fun t27 =>
 lenS t1 fun t30 =>
 bi .sub t20 t30 fun t31 =>
 bi .gtr t27 t31 fun t32 =>
 k0 t32 w)
 (k0 undef w)) fun _ t32_1 w =>
 pik t24 (.bool true) t32_1 fun t33 =>
 cnd t33
 (nilc t0 fun t35 =>
 fad 0 t35 fun t36 =>
 cal P f_pack_kept_fails [t36, (.int .i64 10)] w fun t37 w =>
 R (.tuple #[]) w)
 (nilc t0 fun t40 =>
 fad 0 t40 fun t41 =>
 fad 1 t41 fun t42 =>
 ld1 t42 w.heap fun t43 =>
 efP P (Builtin.append_ #[T_sl_uint8, T_sl_uint8] T_sl_uint8 #[t43, t1]) w fun t45 w =>
 efP P (Builtin.append_ #[T_sl_uint8, T_sl_uint8] T_sl_uint8 #[t45, t2]) w fun t47 w =>
 nilc t0 fun t48 =>
 fad 0 t48 fun t49 =>
 fad 1 t49 fun t50 =>
 st1 t50 t47 w fun w =>
 R (.tuple #[]) w))
theorem k_pack_Packer_put : kO Tryd.f83 A_pack_Packer_put = true := by kernel_rfl
theorem s_pack_Packer_put (h : SQ Q (c_pack_Packer_put t0 t1 t2 w)) : cal P f_pack_Packer_put [t0, t1, t2] w Q := sO Tryd.func83 rfl (by kernel_rfl) k_pack_Packer_put (by kernel_rfl) h

/-- flurry/pack.number -/
def A_pack_number : An := (An.s (An.r []) (An.s (An.r []) (An.s (An.s (An.r []) (An.b (An.l [11] (An.s (An.r []) (An.s (An.s An.o An.o) (An.s (An.b (An.s (An.r []) (An.r []))) (An.r []))))))) (An.s (An.r []) An.o))))
def c_pack_number (t0 t1 : Value) (w : World) (R : KR) : Prop :=
 efP P (Instr.makeSlice T_sl_uint8 t0 t0) w fun t8 w =>
 lenS t8 fun t10 =>
 lp1 (.int .i64 0) w fun _ t11 w again0 =>
 bi .lss t11 t10 fun t12 =>
 cnd t12
 (bi .sub t0 (.int .i64 1) fun t16 =>
 bi .sub t16 t11 fun t18 =>
 bi .mul (.int .i64 8) t11 fun t21 =>
 sh .shr t1 t21 fun t22 =>
 cvi .u8 t22 fun t23 =>
 ixs 1 t8 t18 fun t24 =>
 st1 t24 t23 w fun w =>
 bi .add t11 (.int .i64 1) fun t25 =>
 again0 t25 w)
 (R t8 w)
theorem k_pack_number : kO Tryd.f84 A_pack_number = true := by kernel_rfl
theorem s_pack_number (h : SQ Q (c_pack_number t0 t1 w)) : cal P f_pack_number [t0, t1] w Q := sO Tryd.func84 rfl (by kernel_rfl) k_pack_number (by kernel_rfl) h

/-- (*flurry/pack.Packer).Err -/
def A_pack_Packer_Err : An := (An.s (An.r []) (An.s (An.s (An.r [[11]]) (An.s (An.s (An.r []) An.o) An.o)) (An.s (An.r []) An.o)))
def c_pack_Packer_Err (t0 : Value) (w : World) (R : KR) : Prop :=
 nilP false t0 fun t4 =>
 jn1 (fun k0 =>
 gif t4 false
 (nilc t0 fun t7 =>
 fad 0 t7 fun t8 =>
 fad 0 t8 fun t9 =>
 ld1 t9 w.heap fun t10 =>
 notB t10 fun t11 =>
 k0 t11 w)
 (k0 undef w)) fun _ t11_1 w =>
 pik t4 (.bool true) t11_1 fun t12 =>
 cnd t12
 (R (.int .i64 2) w)
 (nilc t0 fun t14 =>
 fad 0 t14 fun t15 =>
 fad 2 t15 fun t16 =>
 ld1 t16 w.heap fun t17 =>
 R t17 w)
theorem k_pack_Packer_Err : kO Tryd.f85 A_pack_Packer_Err = true := by kernel_rfl
theorem s_pack_Packer_Err (h : SQ Q (c_pack_Packer_Err t0 w)) : cal P f_pack_Packer_Err [t0] w Q := sO Tryd.func85 rfl (by kernel_rfl) k_pack_Packer_Err (by kernel_rfl) h

/-- flurry/sha.first -/
def A_sha_first : An := (An.s (An.r []) (An.s (An.r []) An.o))
def c_sha_first (w : World) (R : KR) : Prop :=
 efP P (Instr.alloc T_a8_uint32 true (.tuple #[])) w fun t0 w =>
 rdP P (Instr.build T_a8_uint32 #[(0, (.int .u32 1779033703)), (1, (.int .u32 3144134277)), (2, (.int .u32 1013904242)), (3, (.int .u32 2773480762)), (4, (.int .u32 1359893119)), (5, (.int .u32 2600822924)), (6, (.int .u32 528734635)), (7, (.int .u32 1541459225))]) w fun t1 =>
 stN 8 t0 t1 w fun w =>
 ldN 8 t0 w.heap fun r0 =>
 R r0 w
theorem k_sha_first : kO Tryd.f86 A_sha_first = true := by kernel_rfl
theorem s_sha_first (h : SQ Q (c_sha_first w)) : cal P f_sha_first [] w Q := sO Tryd.func86 rfl (by kernel_rfl) k_sha_first (by kernel_rfl) h

/-- (*flurry/sha.State).none -/
def A_sha_State_none : An := (An.s (An.r []) (An.s (An.r [[10]]) An.o))
def c_sha_State_none (t0 : Value) (w : World) (R : KR) : Prop :=
 nilP false t0 fun t4 =>
 jn1 (fun k0 =>
 gif t4 false
 (nilc t0 fun t7 =>
 fad 10 t7 fun t8 =>
 ld1 t8 w.heap fun t9 =>
 notB t9 fun t10 =>
 k0 t10 w)
 (k0 undef w)) fun _ t10_1 w =>
 pik t4 (.bool true) t10_1 fun t11 =>
 R t11 w
theorem k_sha_State_none : kO Tryd.f87 A_sha_State_none = true := by kernel_rfl
theorem s_sha_State_none (h : SQ Q (c_sha_State_none t0 w)) : cal P f_sha_State_none [t0] w Q := sO Tryd.func87 rfl (by kernel_rfl) k_sha_State_none (by kernel_rfl) h

/-- slices.Concat[[]byte,byte] -/
def A_slices_Concat_byte_byte : An := (An.s (An.r []) (An.s (An.r []) (An.s (An.s (An.r []) (An.b (An.l [3, 11] (An.s (An.r []) (An.s (An.s An.o An.o) (An.s (An.j [3] (An.b (An.s (An.r []) (An.s (An.r []) (An.s (An.r []) (An.s (An.r []) An.o)))))) (An.r []))))))) (An.s (An.r []) (An.s (An.s (An.r []) (An.b (An.l [6, 27] (An.s (An.r []) (An.s (An.s An.o An.o) (An.s (An.b (An.s (An.r []) (An.r []))) (An.r []))))))) (An.s (An.r []) An.o))))))
def c_slices_Concat_byte_byte (t0 : Value) (w : World) (R : KR) : Prop :=
 lenS t0 fun t10 =>
 lp2 (.int .i64 0) (.int .i64 0) w fun _ t3 t11 w again0 =>
 bi .lss t11 t10 fun t12 =>
 cnd t12
 (jn1 (fun k1 =>
 ixs 1 t0 t11 fun t13 =>
 ld1 t13 w.heap fun t14 =>
 lenS t14 fun t17 =>
 bi .add t3 t17 fun t18 =>
 bi .lss t18 (.int .i64 0) fun t20 =>
 cnd t20
 (rdP P (Instr.makeInterface T_string (.string { data := #[108, 101, 110, 32, 111, 117, 116, 32, 111, 102, 32, 114, 97, 110, 103, 101] })) w fun t21 =>
 False)
 (k1 t18 w)) fun _ t3_1 w =>
 bi .add t11 (.int .i64 1) fun t22 =>
 again0 t3_1 t22 w)
 (cal P f_slices_Grow_byte_byte [(.slice none 0 0), t3] w fun t24 w =>
 lenS t0 fun t26 =>
 lp2 t24 (.int .i64 0) w fun _ t6 t27 w again2 =>
 bi .lss t27 t26 fun t28 =>
 cnd t28
 (ixs 1 t0 t27 fun t29 =>
 ld1 t29 w.heap fun t30 =>
 efP P (Builtin.append_ #[T_sl_uint8, T_sl_uint8] T_sl_uint8 #[t6, t30]) w fun t33 w =>
 bi .add t27 (.int .i64 1) fun t34 =>
 again2 t33 t34 w)
 (R t6 w))
theorem k_slices_Concat_byte_byte : kO Tryd.f88 A_slices_Concat_byte_byte = true := by kernel_rfl
theorem s_slices_Concat_byte_byte (h : SQ Q (c_slices_Concat_byte_byte t0 w)) : cal P f_slices_Concat_byte_byte [t0] w Q := sO Tryd.func88 rfl (by kernel_rfl) k_slices_Concat_byte_byte (by kernel_rfl) h

/-- flurry/sha.mixed -/
def A_sha_mixed : An := (An.s (An.r []) (An.s (An.r []) (An.s (An.s (An.r []) (An.b (An.l [18] (An.s (An.r []) (An.s (An.s An.o An.o) (An.s (An.b (An.s (An.r []) (An.s (An.r []) (An.s (An.r []) (An.s (An.r []) (An.s (An.r []) (An.s (An.r []) (An.r [])))))))) (An.r []))))))) (An.s (An.s (An.r []) (An.b (An.l [99] (An.s (An.r []) (An.s (An.s An.o An.o) (An.s (An.b (An.s (An.r []) (An.dc [0, 1, 2, 3, 4, 5, 6, 7, 8] [8] []))) (An.r []))))))) (An.s (An.r []) An.o)))))
def c_sha_mixed (t0 t1 : Value) (w : World) (R : KR) : Prop :=
 bx T_a8_uint32 t0 w fun t2 w =>
 efP P (Instr.alloc T_a8_uint32 true (.tuple #[])) w fun t4 w =>
 ldN 8 t2 w.heap fun t15 =>
 efP P (Instr.alloc T_a8_uint32 true (.tuple #[])) w fun t5 w =>
 stN 8 t5 t15 w fun w =>
 cal P f_sha_schedule [t1] w fun t17 w =>
 lp1 (.int .i64 0) w fun _ t18 w again0 =>
 bi .lss t18 (.int .i64 64) fun t19 =>
 cnd t19
 (ixv 64 1 false t17 t18 fun t21 =>
 drw w fun w =>
 ixa 8 1 t5 (.int .i64 0) fun t22 =>
 ld1 t22 w.heap fun t23 =>
 ixa 8 1 t5 (.int .i64 4) fun t24 =>
 ld1 t24 w.heap fun t25 =>
 cal P f_math_bits_RotateLeft32 [t25, (.int .i64 (-6))] w fun t27 w =>
 cal P f_math_bits_RotateLeft32 [t25, (.int .i64 (-11))] w fun t29 w =>
 bi .xor t27 t29 fun t30 =>
 cal P f_math_bits_RotateLeft32 [t25, (.int .i64 (-25))] w fun t32 w =>
 bi .xor t30 t32 fun t33 =>
 drw w fun w =>
 ixa 8 1 t5 (.int .i64 7) fun t34 =>
 ld1 t34 w.heap fun t35 =>
 bi .add t35 t33 fun t37 =>
 ixa 8 1 t5 (.int .i64 5) fun t39 =>
 ld1 t39 w.heap fun t40 =>
 bi .and t25 t40 fun t41 =>
 rdP P (Op.unary UnOp.xor t25) w fun t43 =>
 ixa 8 1 t5 (.int .i64 6) fun t44 =>
 ld1 t44 w.heap fun t45 =>
 bi .and t43 t45 fun t46 =>
 bi .xor t41 t46 fun t47 =>
 bi .add t37 t47 fun t48 =>
 ixa 64 1 (.pointer (some ⟨0, 0, none⟩)) t18 fun t50 =>
 ld1 t50 w.heap fun t51 =>
 bi .add t48 t51 fun t52 =>
 bi .add t52 t21 fun t54 =>
 cal P f_math_bits_RotateLeft32 [t23, (.int .i64 (-2))] w fun t56 w =>
 cal P f_math_bits_RotateLeft32 [t23, (.int .i64 (-13))] w fun t58 w =>
 bi .xor t56 t58 fun t59 =>
 cal P f_math_bits_RotateLeft32 [t23, (.int .i64 (-22))] w fun t61 w =>
 bi .xor t59 t61 fun t62 =>
 ixa 8 1 t5 (.int .i64 1) fun t65 =>
 ld1 t65 w.heap fun t66 =>
 bi .and t23 t66 fun t67 =>
 ixa 8 1 t5 (.int .i64 2) fun t69 =>
 ld1 t69 w.heap fun t70 =>
 bi .and t23 t70 fun t71 =>
 bi .xor t67 t71 fun t72 =>
 ixa 8 1 t5 (.int .i64 1) fun t73 =>
 ld1 t73 w.heap fun t74 =>
 ixa 8 1 t5 (.int .i64 2) fun t75 =>
 ld1 t75 w.heap fun t76 =>
 bi .and t74 t76 fun t77 =>
 bi .xor t72 t77 fun t78 =>
 bi .add t62 t78 fun t79 =>
 bi .add t54 t79 fun t82 =>
 ixa 8 1 t5 (.int .i64 1) fun t84 =>
 ld1 t84 w.heap fun t85 =>
 ixa 8 1 t5 (.int .i64 2) fun t86 =>
 ld1 t86 w.heap fun t87 =>
 ixa 8 1 t5 (.int .i64 3) fun t88 =>
 ld1 t88 w.heap fun t89 =>
 bi .add t89 t54 fun t91 =>
 ixa 8 1 t5 (.int .i64 5) fun t93 =>
 ld1 t93 w.heap fun t94 =>
 ixa 8 1 t5 (.int .i64 6) fun t95 =>
 ld1 t95 w.heap fun t96 =>
 rdP P (Instr.build T_a8_uint32 #[(0, t82), (1, t23), (2, t85), (3, t87), (4, t91), (5, t25), (6, t94), (7, t96)]) w fun t97 =>
 stN 8 t5 t97 w fun w =>
 bi .add t18 (.int .i64 1) fun t98 =>
 again0 t98 w)
 (lp1 (.int .i64 0) w fun _ t99 w again1 =>
 bi .lss t99 (.int .i64 8) fun t100 =>
 cnd t100
 (drH w fun S w =>
 ixa 8 1 t2 t99 fun t103 =>
 rdS S (fun w => ld1 t103 w.heap) fun t104 =>
 ixa 8 1 t5 t99 fun t106 =>
 rdS S (fun w => ld1 t106 w.heap) fun t107 =>
 bi .add t104 t107 fun t108 =>
 ixa 8 1 t2 t99 fun t109 =>
 efC (fun w K => st1 t109 t108 w (K undef)) w fun S _ w =>
 bi .add t99 (.int .i64 1) fun t110 =>
 again1 t110 w)
 (ldN 8 t2 w.heap fun t111 =>
 stN 8 t4 t111 w fun w =>
 ldN 8 t4 w.heap fun r2 =>
 R r2 w))
theorem k_sha_mixed : kO Tryd.f89 A_sha_mixed = true := by kernel_rfl
theorem s_sha_mixed (h : SQ Q (c_sha_mixed t0 t1 w)) : cal P f_sha_mixed [t0, t1] w Q := sO Tryd.func89 rfl (by kernel_rfl) k_sha_mixed (by kernel_rfl) h

/-- bytes.Compare -/
def A_bytes_Compare : An := (An.s (An.r []) (An.s (An.r []) An.o))
def c_bytes_Compare (t0 t1 : Value) (w : World) (R : KR) : Prop :=
 efN P f_internal_bytealg_Compare [t0, t1] w fun t7 w =>
 R t7 w
theorem k_bytes_Compare : kO Tryd.f90 A_bytes_Compare = true := by kernel_rfl
theorem s_bytes_Compare (h : SQ Q (c_bytes_Compare t0 t1 w)) : cal P f_bytes_Compare [t0, t1] w Q := sO Tryd.func90 rfl (by kernel_rfl) k_bytes_Compare (by kernel_rfl) h

/-- flurry/tree.told$1 -/
def A_tree_told_1 : AnY := (AnY.s (AnY.c (An.r [])) (AnY.b (AnY.l [7] (AnY.s (AnY.c (An.r [])) (AnY.s (AnY.s AnY.o AnY.o) (AnY.s (AnY.b (AnY.s (AnY.c (An.r [])) (AnY.s AnY.y (AnY.s AnY.o AnY.o)))) (AnY.c (An.r []))))))))
def c_tree_told_1 (t0 t1 : Value) (w : World) (R : KR) : Prop :=
 ld1 t1 w.heap fun t5 =>
 lenS t5 fun t6 =>
 lp1 (.int .i64 0) w fun _ t7 w again0 =>
 bi .lss t7 t6 fun t8 =>
 cnd t8
 (ixs 32 t5 t7 fun t9 =>
 ldN 32 t9 w.heap fun t10 =>
 efP P (Instr.alloc T_api_ID true (.tuple #[])) w fun t4 w =>
 stN 32 t4 t10 w fun w =>
 ldN 32 t4 w.heap fun t12 =>
 calY P t0 [t12] w fun t13 w =>
 notB t13 fun t14 =>
 cnd t14
 (R (.tuple #[]) w)
 (bi .add t7 (.int .i64 1) fun t15 =>
 again0 t15 w))
 (R (.tuple #[]) w)
theorem k_tree_told_1 : kOY Tryd.f91 A_tree_told_1 = true := by kernel_rfl
theorem s_tree_told_1 (h : SQ Q (c_tree_told_1 t0 t1 w)) : cal P f_tree_told_1 [t0, t1] w Q := sOY Tryd.func91 rfl (by kernel_rfl) k_tree_told_1 (by kernel_rfl) h

/-- (*flurry/pack.Packer).works -/
def A_pack_Packer_works : An := (An.s (An.r []) (An.s (An.r [[10], [18]]) An.o))
def c_pack_Packer_works (t0 : Value) (w : World) (R : KR) : Prop :=
 nilP true t0 fun t4 =>
 jn1 (fun k0 =>
 gif t4 true
 (nilc t0 fun t7 =>
 fad 0 t7 fun t8 =>
 fad 0 t8 fun t9 =>
 ld1 t9 w.heap fun t10 =>
 k0 t10 w)
 (k0 undef w)) fun _ t10_1 w =>
 pik t4 t10_1 (.bool false) fun t11 =>
 jn1 (fun k1 =>
 gif t11 true
 (nilc t0 fun t14 =>
 fad 0 t14 fun t15 =>
 fad 2 t15 fun t16 =>
 ld1 t16 w.heap fun t17 =>
 bi .eql t17 (.int .i64 0) fun t18 =>
 k1 t18 w)
 (k1 undef w)) fun _ t18_1 w =>
 pik t11 t18_1 (.bool false) fun t19 =>
 R t19 w
theorem k_pack_Packer_works : kO Tryd.f92 A_pack_Packer_works = true := by kernel_rfl
theorem s_pack_Packer_works (h : SQ Q (c_pack_Packer_works t0 w)) : cal P f_pack_Packer_works [t0] w Q := sO Tryd.func92 rfl (by kernel_rfl) k_pack_Packer_works (by kernel_rfl) h

/-- slices.Grow[[]byte,byte] -/
def A_slices_Grow_byte_byte : An := (An.s (An.r []) (An.s (An.j [] (An.s (An.r []) (An.s (An.r []) An.o))) (An.s (An.s (An.r []) (An.s (An.r []) (An.s (An.r []) An.o))) (An.s (An.r []) An.o))))
def c_slices_Grow_byte_byte (t0 t1 : Value) (w : World) (R : KR) : Prop :=
 jn0 (fun k0 =>
 bi .lss t1 (.int .i64 0) fun t6 =>
 cnd t6
 (rdP P (Instr.makeInterface T_string (.string { data := #[99, 97, 110, 110, 111, 116, 32, 98, 101, 32, 110, 101, 103, 97, 116, 105, 118, 101] })) w fun t7 =>
 False)
 (k0 w)) fun _ w =>
 rdP P (Builtin.cap_ #[T_sl_uint8] T_int #[t0]) w fun t10 =>
 lenS t0 fun t12 =>
 bi .sub t10 t12 fun t13 =>
 bi .sub t1 t13 fun t14 =>
 bi .gtr t14 (.int .i64 0) fun t16 =>
 cnd t16
 (rdP P (Builtin.cap_ #[T_sl_uint8] T_int #[t0]) w fun t19 =>
 slc 1 t0 none (some t19) fun t20 =>
 efP P (Builtin.append_ #[T_sl_uint8, T_int] T_sl_uint8 #[t20, t14]) w fun t22 w =>
 lenS t0 fun t24 =>
 slc 1 t22 none (some t24) fun t25 =>
 R t25 w)
 (R t0 w)
theorem k_slices_Grow_byte_byte : kO Tryd.f94 A_slices_Grow_byte_byte = true := by kernel_rfl
theorem s_slices_Grow_byte_byte (h : SQ Q (c_slices_Grow_byte_byte t0 t1 w)) : cal P f_slices_Grow_byte_byte [t0, t1] w Q := sO Tryd.func94 rfl (by kernel_rfl) k_slices_Grow_byte_byte (by kernel_rfl) h

/-- flurry/sha.schedule -/
def A_sha_schedule : An := (An.s (An.r []) (An.s (An.r []) (An.s (An.s (An.r []) (An.b (An.l [9] (An.s (An.r []) (An.s (An.s An.o An.o) (An.s (An.j [] (An.b (An.s (An.r []) (An.s (An.s (An.r []) (An.s (An.s (An.dc [0, 1, 2, 3, 4, 5, 6, 7, 8, 9, 10, 11, 12, 13, 14, 15, 16, 17, 18, 19, 20, 21, 22, 23, 24, 25, 26, 27, 28, 29, 30, 31, 32, 33, 34, 35] [35] []) An.o) An.o)) (An.s (An.r []) (An.s (An.r []) (An.s (An.r []) (An.dc [0, 1, 2, 3, 4, 5, 6, 7, 8, 9, 10, 11, 12, 13, 14, 15] [15] [])))))))) (An.r []))))))) (An.s (An.r []) An.o))))
def c_sha_schedule (t0 : Value) (w : World) (R : KR) : Prop :=
 efP P (Instr.alloc T_a64_uint32 true (.tuple #[])) w fun t2 w =>
 efP P (Instr.alloc T_a64_uint32 true (.tuple #[])) w fun t3 w =>
 lp1 (.int .i64 0) w fun _ t9 w again0 =>
 bi .lss t9 (.int .i64 64) fun t10 =>
 cnd t10
 (jn0 (fun k1 =>
 bi .lss t9 (.int .i64 16) fun t13 =>
 cnd t13
 (drH w fun S w =>
 bi .mul (.int .i64 4) t9 fun t17 =>
 ixs 1 t0 t17 fun t18 =>
 rdS S (fun w => ld1 t18 w.heap) fun t19 =>
 cvi .u32 t19 fun t20 =>
 sh .shl t20 (.int .u64 24) fun t21 =>
 bi .mul (.int .i64 4) t9 fun t24 =>
 bi .add t24 (.int .i64 1) fun t25 =>
 ixs 1 t0 t25 fun t26 =>
 rdS S (fun w => ld1 t26 w.heap) fun t27 =>
 cvi .u32 t27 fun t28 =>
 sh .shl t28 (.int .u64 16) fun t29 =>
 bi .or t21 t29 fun t30 =>
 bi .mul (.int .i64 4) t9 fun t33 =>
 bi .add t33 (.int .i64 2) fun t34 =>
 ixs 1 t0 t34 fun t35 =>
 rdS S (fun w => ld1 t35 w.heap) fun t36 =>
 cvi .u32 t36 fun t37 =>
 sh .shl t37 (.int .u64 8) fun t38 =>
 bi .or t30 t38 fun t39 =>
 bi .mul (.int .i64 4) t9 fun t42 =>
 bi .add t42 (.int .i64 3) fun t43 =>
 ixs 1 t0 t43 fun t44 =>
 rdS S (fun w => ld1 t44 w.heap) fun t45 =>
 cvi .u32 t45 fun t46 =>
 bi .or t39 t46 fun t47 =>
 ixa 64 1 t3 t9 fun t48 =>
 efC (fun w K => st1 t48 t47 w (K undef)) w fun S _ w =>
 k1 w)
 (drw w fun w =>
 bi .sub t9 (.int .i64 15) fun t50 =>
 ixa 64 1 t3 t50 fun t51 =>
 ld1 t51 w.heap fun t52 =>
 bi .sub t9 (.int .i64 2) fun t54 =>
 ixa 64 1 t3 t54 fun t55 =>
 ld1 t55 w.heap fun t56 =>
 cal P f_math_bits_RotateLeft32 [t52, (.int .i64 (-7))] w fun t58 w =>
 cal P f_math_bits_RotateLeft32 [t52, (.int .i64 (-18))] w fun t60 w =>
 bi .xor t58 t60 fun t61 =>
 sh .shr t52 (.int .u64 3) fun t63 =>
 bi .xor t61 t63 fun t64 =>
 cal P f_math_bits_RotateLeft32 [t56, (.int .i64 (-17))] w fun t66 w =>
 cal P f_math_bits_RotateLeft32 [t56, (.int .i64 (-19))] w fun t68 w =>
 bi .xor t66 t68 fun t69 =>
 sh .shr t56 (.int .u64 10) fun t71 =>
 bi .xor t69 t71 fun t72 =>
 drH w fun S w =>
 bi .sub t9 (.int .i64 7) fun t76 =>
 ixa 64 1 t3 t76 fun t77 =>
 rdS S (fun w => ld1 t77 w.heap) fun t78 =>
 bi .add t72 t78 fun t79 =>
 bi .add t79 t64 fun t81 =>
 bi .sub t9 (.int .i64 16) fun t83 =>
 ixa 64 1 t3 t83 fun t84 =>
 rdS S (fun w => ld1 t84 w.heap) fun t85 =>
 bi .add t81 t85 fun t86 =>
 ixa 64 1 t3 t9 fun t87 =>
 efC (fun w K => st1 t87 t86 w (K undef)) w fun S _ w =>
 k1 w)) fun _ w =>
 bi .add t9 (.int .i64 1) fun t88 =>
 again0 t88 w)
 (ldN 64 t3 w.heap fun t89 =>
 stN 64 t2 t89 w fun w =>
 ldN 64 t2 w.heap fun r2 =>
 R r2 w)
theorem k_sha_schedule : kO Tryd.f95 A_sha_schedule = true := by kernel_rfl
theorem s_sha_schedule (h : SQ Q (c_sha_schedule t0 w)) : cal P f_sha_schedule [t0] w Q := sO Tryd.func95 rfl (by kernel_rfl) k_sha_schedule (by kernel_rfl) h

/-- math/bits.RotateLeft32 -/
def A_math_bits_RotateLeft32 : An := (An.s (An.r []) (An.s (An.r []) (An.s (An.r []) An.o)))
def c_math_bits_RotateLeft32 (t0 t1 : Value) (w : World) (R : KR) : Prop :=
 cvi .u64 t1 fun t7 =>
 bi .and t7 (.int .u64 31) fun t8 =>
 sh .shl t0 t8 fun t11 =>
 bi .sub (.int .u64 32) t8 fun t14 =>
 sh .shr t0 t14 fun t15 =>
 bi .or t11 t15 fun t16 =>
 R t16 w
theorem k_math_bits_RotateLeft32 : kO Tryd.f96 A_math_bits_RotateLeft32 = true := by kernel_rfl
theorem s_math_bits_RotateLeft32 (h : SQ Q (c_math_bits_RotateLeft32 t0 t1 w)) : cal P f_math_bits_RotateLeft32 [t0, t1] w Q := sO Tryd.func96 rfl (by kernel_rfl) k_math_bits_RotateLeft32 (by kernel_rfl) h

end Go.Fx
