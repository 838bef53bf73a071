/-
  Arguments: what the statement's reading of an argument gives: cells, bytes, rows of structs.
-/
import Derived.Test.YticmbeincpaaeaaDoorFxL
import Derived.Deep.Slices
import Derived.OpenShut
set_option linter.unusedVariables false
set_option linter.unusedSimpArgs false
namespace Go.Fx
/-- Cells from a place on, all there: a row of the block. -/
theorem cells_row {w : World} {a : Addr} {N : Nat} (hN : 0 < N) (h : ∀ k, k < N → ∃ u, w.cell? (a.add k) = some u) :
    ∃ g o cur t fr, a = ⟨g, o, none⟩ ∧ w.heap[g]? = some (.cells cur t fr) ∧ o + N ≤ cur.size ∧ ∀ k, k < N → w.cell? (a.add k) = cur[o + k]? := by
  obtain ⟨g, o, s⟩ := a
  obtain ⟨u, hu⟩ := h 0 hN
  have hs : s = none ∧ ∃ cur t fr, w.heap[g]? = some (.cells cur t fr) := by
    simp only [Addr.add, if_true, World.cell?] at hu
    split at hu
    · rename_i c t fr hc
      split at hu
      · cases hu
      · rename_i hsp
        exact ⟨by simpa using hsp, c, t, fr, hc⟩
    · cases hu
  obtain ⟨rfl, cur, t, fr, hg⟩ := hs
  have hk : ∀ k, w.cell? ((⟨g, o, none⟩ : Addr).add k) = cur[o + k]? := fun k => by
    have e : (⟨g, o, none⟩ : Addr).add k = ⟨g, o + k, none⟩ := by unfold Addr.add; split <;> simp_all
    rw [e]
    simp [World.cell?, hg]
  refine ⟨g, o, cur, t, fr, rfl, hg, ?_, fun k _ => hk k⟩
  obtain ⟨u', hu'⟩ := h (N - 1) (by omega)
  rw [hk] at hu'
  have := (Array.getElem?_eq_some_iff.1 hu').1
  omega
section
variable {H : Type} {enc : TypeId × Value → H} {P : Program} {w : World} {sp : Nat → Bool} {held : Bool}
/-- A slice that is read: its cells, and each element's own reading. -/
theorem trod_cel {t e size fuel : Nat} {v : Value} {x : DataW H × List MemPlace} (ht : P.underlying t = some (.slice e)) (hs : P.cellsOf e = size) (hs0 : 0 < size)
    (h : DataW.trod enc P w 0 sp held fuel t [v] = some x) :
    ∃ n cs m, Cel w.heap v size n cs ∧ n ≤ 9223372036854775807 ∧ v.oneCell' = true ∧ (∀ a n' c, v = .slice a n' c → n' ≤ c) ∧ ∀ i, i < n → ∃ y, DataW.trod enc P w 0 sp held m e ((cs.drop (i * size)).take size) = some y := by
  rcases Deep.open_slice ht h with ⟨h0, -⟩ | ⟨a, len, cap, m, f, D, Pl, hcs, hb, hl, hm, hmm, hx, hi⟩
  · cases h0
    exact ⟨0, [], 0, ⟨none, 0, rfl, by simp, .inl (by simp)⟩, by omega, rfl, fun a n c he => by cases he; omega, fun i hi => by omega⟩
  · cases hcs
    have hlm : len ≤ m := by rw [hmm]; split <;> omega
    have hmax : len ≤ 9223372036854775807 := by unfold maxLen at hm; omega
    by_cases h0 : len = 0
    · subst h0
      exact ⟨0, [], 0, ⟨some a, cap, rfl, by simp, .inl (by simp)⟩, by omega, rfl, fun a n c he => by cases he; omega, fun i hi => by omega⟩
    · have hcell : ∀ i, i < len → ∃ cs', cs'.length = size ∧ (∀ j, j < size → w.cell? (a.add (i * size + j)) = cs'[j]?) ∧ DataW.trod enc P w 0 sp held f e cs' = some (D i, Pl i) := fun i hil => by
        obtain ⟨cs', hc, ht'⟩ := hi i (by omega)
        rw [hs] at hc
        obtain ⟨_, hcl, hat⟩ := World.cells?_some hc
        exact ⟨cs', hcl, fun j hj => by rw [← Deep.add_add]; exact hat j hj, ht'⟩
      have hpos : 0 < len * size := Nat.mul_pos (by omega) hs0
      have hall : ∀ k, k < len * size → ∃ u, w.cell? (a.add k) = some u := fun k hk => by
        obtain ⟨cs', hcl, hat, _⟩ := hcell (k / size) (Nat.div_lt_of_lt_mul (by rw [Nat.mul_comm]; exact hk))
        have h1 := hat (k % size) (Nat.mod_lt _ hs0)
        rw [Nat.mul_comm, Nat.div_add_mod] at h1
        rw [h1]
        exact ⟨_, List.getElem?_eq_getElem (by rw [hcl]; exact Nat.mod_lt _ hs0)⟩
      obtain ⟨g, o, cur, tt, fr, rfl, hg, hfit, hk⟩ := cells_row hpos hall
      have hlen : ((cur.toList.drop o).take (len * size)).length = len * size := by simp; omega
      refine ⟨len, (cur.toList.drop o).take (len * size), f, ⟨some ⟨g, o, none⟩, cap, rfl, hlen, .inr ⟨g, o, cur, tt, fr, rfl, hg, rfl⟩⟩, hmax, rfl, fun a n c he => by cases he; omega, fun i hil => ?_⟩
      obtain ⟨cs', hcl, hat, ht'⟩ := hcell i hil
      have hbnd : i * size + size ≤ len * size := by rw [← Nat.succ_mul]; exact Nat.mul_le_mul_right _ hil
      have : (((cur.toList.drop o).take (len * size)).drop (i * size)).take size = cs' := by
        apply List.ext_getElem?
        intro j
        by_cases hj : j < size
        · rw [List.getElem?_take_of_lt hj, List.getElem?_drop, List.getElem?_take_of_lt (by omega), List.getElem?_drop, ← hat j hj, hk _ (by omega), Array.getElem?_toList]
        · rw [List.getElem?_eq_none (by simp; omega), List.getElem?_eq_none (by omega)]
      rw [this]
      exact ⟨_, ht'⟩
/-- A slice of bytes that is read. -/
theorem trod_bytes {t e fuel : Nat} {v : Value} {x : DataW H × List MemPlace} (ht : P.underlying t = some (.slice e)) (he : P.underlying e = some (.int .u8)) (hs : P.cellsOf e = 1)
    (h : DataW.trod enc P w 0 sp held fuel t [v] = some x) : ∃ l, RdB w.heap v l ∧ l.length ≤ 9223372036854775807 ∧ v.oneCell' = true ∧ (∀ a n' c, v = .slice a n' c → n' ≤ c) := by
  obtain ⟨n, cs, m, hc, hn, h1, hnc, hi⟩ := trod_cel ht hs (by omega) h
  have hl : cs.length = n := by obtain ⟨_, _, _, hl, _⟩ := hc; simpa using hl
  have hb : ∀ i, i < n → ∃ b : UInt8, cs[i]? = some (bv b) := fun i hi' => by
    obtain ⟨y, hy⟩ := hi i hi'
    obtain ⟨z, hz, _, hwf⟩ := DataW.trod_int he hy
    have hz0 : cs[i]? = some (.int .u8 z) := by
      have : ((cs.drop (i * 1)).take 1)[0]? = some (.int .u8 z) := by rw [hz]; rfl
      simpa using this
    have hbd := Go.bounds_u8 hwf
    obtain ⟨k, rfl⟩ := Int.eq_ofNat_of_zero_le hbd.1
    refine ⟨UInt8.ofNat k, ?_⟩
    rw [hz0, bv, UInt8.toNat_ofNat', Nat.mod_eq_of_lt (by omega)]
  obtain ⟨f, hf⟩ := Deep.choose_lt hb
  have hcs : cs = bvs ((List.range n).map f) := by
    apply List.ext_getElem?
    intro i
    by_cases hi' : i < n
    · rw [hf i hi']; simp [bvs, hi']
    · rw [List.getElem?_eq_none (by omega), List.getElem?_eq_none (by simp [bvs]; omega)]
  refine ⟨(List.range n).map f, ?_, by simpa using hn, h1, hnc⟩
  unfold RdB
  rw [← hcs]
  simpa using hc
end
/-- A list cut into parts of one length. -/
theorem parts_eq {α : Type} {s : Nat} : ∀ {n : Nat} {cs : List α} {g : Nat → List α}, cs.length = n * s → (∀ i, i < n → (cs.drop (i * s)).take s = g i) → cs = (List.range n).flatMap g
  | 0, cs, g, hl, _ => by
    have : cs = [] := List.eq_nil_of_length_eq_zero (by omega)
    simp [this]
  | n + 1, cs, g, hl, h => by
    rw [List.range_succ_eq_map, List.flatMap_cons, List.flatMap_map]
    have h0 := h 0 (by omega)
    simp only [Nat.zero_mul, List.drop_zero] at h0
    have ih := parts_eq (s := s) (n := n) (cs := cs.drop s) (g := fun i => g (i + 1)) (by rw [List.length_drop, hl, Nat.succ_mul]; omega) fun i hi => by
      rw [← h (i + 1) (by omega), List.drop_drop]
      congr 2
      rw [Nat.succ_mul]; omega
    rw [← h0]
    conv => lhs; rw [← List.take_append_drop s cs]
    rw [ih]
theorem part_at {α β : Type} {s : Nat} {g : α → List β} (hg : ∀ a, (g a).length = s) : ∀ {l : List α} {i : Nat} {a : α}, l[i]? = some a → ((l.flatMap g).drop (i * s)).take s = g a
  | [], i, a, h => by simp at h
  | b :: l, 0, a, h => by
    simp at h; subst h
    rw [List.flatMap_cons, Nat.zero_mul, List.drop_zero, List.take_left' (hg b)]
  | b :: l, i + 1, a, h => by
    have := part_at hg (l := l) (i := i) (a := a) (by simpa using h)
    rw [List.flatMap_cons, Nat.succ_mul, Nat.add_comm, ← List.drop_drop, List.drop_left' (hg b), this]
theorem parts_take {α β : Type} {s : Nat} {g : α → List β} (hg : ∀ a, (g a).length = s) : ∀ (l : List α) (k : Nat), (l.flatMap g).take (k * s) = (l.take k).flatMap g
  | [], k => by simp
  | b :: l, 0 => by simp
  | b :: l, k + 1 => by
    rw [List.take_succ_cons, List.flatMap_cons, List.flatMap_cons, ← parts_take hg l k, Nat.succ_mul, Nat.add_comm, List.take_append, List.take_of_length_le (by rw [hg]; omega), hg, Nat.add_sub_cancel_left]
theorem parts_length {α β : Type} {s : Nat} {g : α → List β} (hg : ∀ a, (g a).length = s) : ∀ (l : List α), (l.flatMap g).length = l.length * s
  | [] => by simp
  | b :: l => by rw [List.flatMap_cons, List.length_append, hg, parts_length hg l, List.length_cons, Nat.succ_mul, Nat.add_comm]
/-- 'x[:h]'. -/
theorem slc_to {size n c : Nat} {a : Option Addr} {k : IntKind} {j : Nat} (hj : j ≤ c) (K : Value → Prop) : slc size (.slice a n c) none (some (.int k (j : Int))) K = K (.slice a j c) := by
  have e : (if c = 0 then a else a.map (·.add (0 * size))) = a := by
    split
    · rfl
    · rw [Nat.zero_mul]
      cases a <;> simp [Addr.add]
  refine propext ⟨?_, fun hk => ⟨a, n, c, rfl, k, (j : Int), rfl, by omega, by omega, ?_⟩⟩
  · rintro ⟨a', n', c', hv, k', j', hj', h0, h1, hk⟩
    cases hv; cases hj'
    simp only [bndO, Int.toNat_natCast, e, Nat.sub_zero] at hk
    exact hk
  · simp only [bndO, Int.toNat_natCast, e, Nat.sub_zero]
    exact hk
theorem Cel.part {h : Heap} {v : Value} {size n : Nat} {cs : List Value} (hc : Cel h v size n cs) (hs : 0 < size) {j : Nat} (hj : j < n) :
    ∃ g o c cur t fr, v = .slice (some ⟨g, o, none⟩) n c ∧ h[g]? = some (.cells cur t fr) ∧ o + j * size + size ≤ cur.size ∧ cur.extract (o + j * size) (o + j * size + size) = ((cs.drop (j * size)).take size).toArray := by
  obtain ⟨a, c, rfl, hl, hh⟩ := hc
  have hb : j * size + size ≤ n * size := by rw [← Nat.succ_mul]; exact Nat.mul_le_mul_right _ hj
  rcases hh with h0 | ⟨g, o, cur, t, fr, rfl, hg, hcs⟩
  · omega
  · have hlen := congrArg List.length hcs
    simp only [List.length_take, List.length_drop, Array.length_toList] at hlen
    refine ⟨g, o, c, cur, t, fr, rfl, hg, by omega, ?_⟩
    rw [← hcs]
    apply Array.ext'
    rw [Array.toList_extract]
    simp only [List.extract_eq_take_drop, List.drop_take, List.drop_drop, List.take_take]
    congr 1
    omega
/-- 'x[j]', read: an element of some cells. -/
theorem ldxN {size : Nat} {w : World} {v : Value} {n : Nat} {cs : List Value} (hc : Cel w.heap v size n cs) (hs : 0 < size) {k : IntKind} {j : Nat} (hj : j < n) {K : Value → Prop} (h : K (.agg ((cs.drop (j * size)).take size).toArray)) :
    ixs size v (.int k (j : Int)) fun t => ldN size t w.heap K := by
  obtain ⟨g, o, c, cur, t, fr, rfl, hg, hfit, he⟩ := hc.part hs hj
  rw [ixs_mk _ _ _ _ _ _ _ _ (by omega) (by omega), Int.toNat_natCast]
  refine ldN_i hg hfit ?_
  rw [he]
  exact h
theorem min_int {P : Program} {t : Array TypeId} {t' : TypeId} {w : World} {k : IntKind} (a b : Int) (K : Value → Prop) : rdP P (Builtin.min_ t t' #[.int k a, .int k b]) w K = K (.int k (min a b)) := by
  refine rdP_eq ?_ K
  have e : (if b < a then b else a) = min a b := by omega
  simp [Builtin.min_, Builtin.min2, e]
theorem bi_xor (k : IntKind) (a b : Int) (K : Value → Prop) : bi .xor (.int k a) (.int k b) K = K (.int k (k.wrap ((BitVec.ofInt k.bits a ^^^ BitVec.ofInt k.bits b).toNat : Int))) := by rw [bi_int]; exact ex_some _ K
theorem bi_and (k : IntKind) (a b : Int) (K : Value → Prop) : bi .and (.int k a) (.int k b) K = K (.int k (k.wrap ((BitVec.ofInt k.bits a &&& BitVec.ofInt k.bits b).toNat : Int))) := by rw [bi_int]; exact ex_some _ K
theorem bi_or (k : IntKind) (a b : Int) (K : Value → Prop) : bi .or (.int k a) (.int k b) K = K (.int k (k.wrap ((BitVec.ofInt k.bits a ||| BitVec.ofInt k.bits b).toNat : Int))) := by rw [bi_int]; exact ex_some _ K
end Go.Fx
