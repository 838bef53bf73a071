/-
  Readers: what an argument's cells are, by its type, and what is read of them.
-/
import Derived.Test.YticmbeincpaaeaaDoorFxS
set_option linter.unusedVariables false
set_option linter.unusedSimpArgs false
namespace Go.Fx
/-- A slice, and what it reads as. -/
structure Sl (α : Type) where
  v : Value
  l : List α
/-- Just so many bytes. -/
abbrev Vec (n : Nat) := {l : List UInt8 // l.length = n}
structure Rdr (α : Type) where
  size : Nat
  cells : α → List Value
  ok : Heap → α → Prop
  len : ∀ a, (cells a).length = size
  one : ∀ {h : Heap} {a : α}, ok h a → ∀ u ∈ cells a, u.oneCell' = true
  fr : ∀ {w w' : World} {a : α}, ok w.heap a → Fr [] w w' → ok w'.heap a
def rInt (k : IntKind) : Rdr Int where
  size := 1
  cells n := [.int k n]
  ok _ n := (Lit.int k n).wf = true
  len _ := rfl
  one _ u hu := by simp at hu; subst hu; rfl
  fr h _ := h
/-- Numbers of a kind without sign. -/
def rNat (k : IntKind) (m : Nat) : Rdr Nat where
  size := 1
  cells n := [.int k n]
  ok _ n := n < m
  len _ := rfl
  one _ u hu := by simp at hu; subst hu; rfl
  fr h _ := h
def rBool : Rdr Bool where
  size := 1
  cells b := [.bool b]
  ok _ _ := True
  len _ := rfl
  one _ u hu := by simp at hu; subst hu; rfl
  fr h _ := h
def rVec (n : Nat) : Rdr (Vec n) where
  size := n
  cells a := bvs a.1
  ok _ _ := True
  len a := by rw [bvs_length]; exact a.2
  one _ := bvs_one _
  fr h _ := h
def capOk (v : Value) : Prop := ∀ a n c, v = .slice a n c → n ≤ c
def rBytes : Rdr (Sl UInt8) where
  size := 1
  cells s := [s.v]
  ok h s := RdB h s.v s.l ∧ s.l.length ≤ 9223372036854775807 ∧ capOk s.v
  len _ := rfl
  one h u hu := by simp at hu; subst hu; obtain ⟨⟨a, c, hv, _⟩, _⟩ := h; rw [hv]; rfl
  fr h hf := ⟨h.1.fr hf (off_nil _), h.2⟩
def rSl {α : Type} (r : Rdr α) : Rdr (Sl α) where
  size := 1
  cells s := [s.v]
  ok h s := Cel h s.v r.size s.l.length (s.l.flatMap r.cells) ∧ s.l.length ≤ 9223372036854775807 ∧ capOk s.v ∧ ∀ a ∈ s.l, r.ok h a
  len _ := rfl
  one h u hu := by simp at hu; subst hu; obtain ⟨⟨a, c, hv, _⟩, _⟩ := h; rw [hv]; rfl
  fr h hf := ⟨h.1.fr hf (off_nil _), h.2.1, h.2.2.1, fun a ha => r.fr (h.2.2.2 a ha) hf⟩
def Rdr.pair {α β : Type} (r : Rdr α) (s : Rdr β) : Rdr (α × β) where
  size := r.size + s.size
  cells a := r.cells a.1 ++ s.cells a.2
  ok h a := r.ok h a.1 ∧ s.ok h a.2
  len a := by rw [List.length_append, r.len, s.len]
  one h u hu := by
    rcases List.mem_append.1 hu with hu | hu
    · exact r.one h.1 u hu
    · exact s.one h.2 u hu
  fr h hf := ⟨r.fr h.1 hf, s.fr h.2 hf⟩

section
variable {P : Program}
/-- Whatever is read at a type is read by a reader. -/
def Trods (P : Program) (t : TypeId) {α : Type} (r : Rdr α) : Prop :=
  ∀ (H : Type) (enc : TypeId × Value → H) (w : World) (sp : Nat → Bool) (held : Bool) (fuel : Nat) (cs : List Value) (x : DataW H × List MemPlace),
    DataW.trod enc P w 0 sp held fuel t cs = some x → ∃ a, cs = r.cells a ∧ r.ok w.heap a
theorem trods_int {t : TypeId} {k : IntKind} (ht : P.underlying t = some (.int k)) : Trods P t (rInt k) := fun H enc w sp held fuel cs x h => by
  obtain ⟨n, hn, _, hw⟩ := DataW.trod_int ht h
  exact ⟨n, hn, hw⟩
theorem trods_nat {t m : Nat} {k : IntKind} (hm : ∀ n : Int, (Lit.int k n).wf = true → 0 ≤ n ∧ n < m) (ht : P.underlying t = some (.int k)) : Trods P t (rNat k m) := fun H enc w sp held fuel cs x h => by
  obtain ⟨n, hn, _, hw⟩ := DataW.trod_int ht h
  have hb := hm n hw
  obtain ⟨j, rfl⟩ := Int.eq_ofNat_of_zero_le hb.1
  exact ⟨j, hn, by show j < m; omega⟩
theorem trods_u8 {t : TypeId} (ht : P.underlying t = some (.int .u8)) : Trods P t (rNat .u8 256) := trods_nat (fun n hw => by have := Go.bounds_u8 hw; omega) ht
theorem trods_u16 {t : TypeId} (ht : P.underlying t = some (.int .u16)) : Trods P t (rNat .u16 65536) := trods_nat (fun n hw => by have := Go.bounds_u16 hw; omega) ht
theorem trods_u64 {t : TypeId} (ht : P.underlying t = some (.int .u64)) : Trods P t (rNat .u64 18446744073709551616) := trods_nat (fun n hw => by have := Go.bounds_u64 hw; omega) ht
theorem trods_bool {t : TypeId} (ht : P.underlying t = some .bool) : Trods P t rBool := fun H enc w sp held fuel cs x h => by
  obtain ⟨b, hb, _⟩ := DataW.trod_bool ht h
  exact ⟨b, hb, trivial⟩
theorem trods_vec {t e : TypeId} {n : Nat} (ht : P.underlying t = some (.array n e)) (he : P.underlying e = some (.int .u8)) (hs : P.cellsOf e = 1) (hn : P.cellsOf t = n) : Trods P t (rVec n) := fun H enc w sp held fuel cs x h => by
  obtain ⟨xs, m, -, -, hl, hxl, hi⟩ := DataW.trod_array ht h
  rw [hs] at hi
  rw [hn] at hl
  have hb : ∀ i, i < n → ∃ b : UInt8, cs[i]? = some (bv b) := fun i hin => by
    have hy := hi i hin
    rw [List.getElem?_eq_getElem (by omega)] at hy
    obtain ⟨z, hz, _, hwf⟩ := DataW.trod_int he hy
    have hz0 : cs[i]? = some (.int .u8 z) := by
      have : ((cs.drop (i * 1)).take 1)[0]? = some (.int .u8 z) := by rw [hz]; rfl
      simpa using this
    have hbd := Go.bounds_u8 hwf
    obtain ⟨k, rfl⟩ := Int.eq_ofNat_of_zero_le hbd.1
    exact ⟨UInt8.ofNat k, by rw [hz0, bv, UInt8.toNat_ofNat', Nat.mod_eq_of_lt (by omega)]⟩
  obtain ⟨f, hf⟩ := Deep.choose_lt hb
  refine ⟨⟨(List.range n).map f, by simp⟩, ?_, trivial⟩
  apply List.ext_getElem?
  intro i
  by_cases hi' : i < n
  · rw [hf i hi']; simp [rVec, bvs, hi']
  · rw [List.getElem?_eq_none (by omega), List.getElem?_eq_none (by simp [rVec, bvs]; omega)]
theorem trods_bytes {t e : TypeId} (ht : P.underlying t = some (.slice e)) (he : P.underlying e = some (.int .u8)) (hs : P.cellsOf e = 1) : Trods P t rBytes := fun H enc w sp held fuel cs x h => by
  obtain ⟨v, rfl⟩ : ∃ v, cs = [v] := by
    rcases Deep.open_slice ht h with ⟨h0, -⟩ | ⟨a, len, cap, m, f, D, Pl, hcs, -⟩
    · exact ⟨_, h0⟩
    · exact ⟨_, hcs⟩
  obtain ⟨l, hr, hl, -, hc⟩ := trod_bytes ht he hs h
  exact ⟨⟨v, l⟩, rfl, hr, hl, hc⟩
theorem trods_sl {t e : TypeId} {α : Type} {r : Rdr α} (he : Trods P e r) (ht : P.underlying t = some (.slice e)) (hs : P.cellsOf e = r.size) (hp : 0 < r.size) : Trods P t (rSl r) := fun H enc w sp held fuel cs x h => by
  obtain ⟨v, rfl⟩ : ∃ v, cs = [v] := by
    rcases Deep.open_slice ht h with ⟨h0, -⟩ | ⟨a, len, cap, m, f, D, Pl, hcs, -⟩
    · exact ⟨_, h0⟩
    · exact ⟨_, hcs⟩
  obtain ⟨n, cs, m, hc, hn, h1, hnc, hi⟩ := trod_cel ht hs hp h
  have hl : cs.length = n * r.size := by obtain ⟨_, _, _, hl, _⟩ := hc; exact hl
  have hall : ∀ i, i < n → ∃ p : α, (cs.drop (i * r.size)).take r.size = r.cells p ∧ r.ok w.heap p := fun i hin => by
    obtain ⟨y, hy⟩ := hi i hin
    exact he H enc w sp held m _ y hy
  by_cases h0 : n = 0
  · subst h0
    have : cs = [] := List.eq_nil_of_length_eq_zero (by omega)
    subst this
    exact ⟨⟨v, []⟩, rfl, hc, by simp, hnc, by simp⟩
  · haveI : Inhabited α := ⟨(hall 0 (by omega)).choose⟩
    obtain ⟨f, hf⟩ := Deep.choose_lt hall
    have hcs := parts_eq hl fun i hin => (hf i hin).1
    refine ⟨⟨v, (List.range n).map f⟩, rfl, ?_, by simpa using hn, hnc, fun p hp => ?_⟩
    · rw [List.length_map, List.length_range, List.flatMap_map, ← hcs]
      exact hc
    · obtain ⟨i, hin, rfl⟩ := List.mem_map.1 hp
      exact (hf i (by simpa using hin)).2
def TrodsF (P : Program) (fs : Array Field) (i off : Nat) {α : Type} (r : Rdr α) : Prop :=
  ∀ (H : Type) (enc : TypeId × Value → H) (w : World) (sp : Nat → Bool) (held : Bool) (n : Nat) (cs : List Value), cs.length = off + r.size →
    (∀ (j : Nat) (f : Field), fs[j]? = some f → ∃ y, DataW.trod enc P w 0 sp held n f.type ((cs.drop f.offset).take (P.cellsOf f.type)) = some y) → ∃ a, cs.drop off = r.cells a ∧ r.ok w.heap a
theorem trodsF_last {fs : Array Field} {i off t : Nat} {α : Type} {r : Rdr α} (hf : (fs[i]?).map (fun f : Field => (f.type, f.offset)) = some (t, off)) (hc : P.cellsOf t = r.size) (hr : Trods P t r) : TrodsF P fs i off r := fun H enc w sp held n cs hl h => by
  obtain ⟨f, hi, he⟩ := Option.map_eq_some_iff.1 hf
  simp only [Prod.mk.injEq] at he
  obtain ⟨y, hy⟩ := h i f hi
  rw [he.1, he.2, hc, List.take_of_length_le (by simp; omega)] at hy
  exact hr H enc w sp held n _ y hy
theorem trodsF_cons {fs : Array Field} {i off t : Nat} {α β : Type} {r : Rdr α} {s : Rdr β} (hf : (fs[i]?).map (fun f : Field => (f.type, f.offset)) = some (t, off)) (hc : P.cellsOf t = r.size) (hr : Trods P t r)
    (hs : TrodsF P fs (i + 1) (off + r.size) s) : TrodsF P fs i off (r.pair s) := fun H enc w sp held n cs hl h => by
  obtain ⟨f, hi, he⟩ := Option.map_eq_some_iff.1 hf
  simp only [Prod.mk.injEq] at he
  obtain ⟨y, hy⟩ := h i f hi
  rw [he.1, he.2, hc] at hy
  obtain ⟨a, ha, ha'⟩ := hr H enc w sp held n _ y hy
  obtain ⟨b, hb, hb'⟩ := hs H enc w sp held n cs (by rw [hl]; simp only [Rdr.pair]; omega) h
  refine ⟨(a, b), ?_, ha', hb'⟩
  simp only [Rdr.pair]
  rw [← ha, ← hb, ← List.drop_drop, List.take_append_drop]
theorem trods_struct {t : TypeId} {fs : Array Field} {α : Type} {r : Rdr α} (ht : P.underlying t = some (.struct fs)) (hc : P.cellsOf t = r.size) (h : TrodsF P fs 0 0 r) : Trods P t r := fun H enc w sp held fuel cs x hx => by
  obtain ⟨xs, n, -, -, hl, hxl, hf⟩ := DataW.trod_struct ht hx
  obtain ⟨a, ha, ha'⟩ := h H enc w sp held n cs (by rw [hl, hc]; omega) fun j f hj => by
    rw [hf j f hj]
    exact ⟨_, List.getElem?_eq_getElem (by rw [hxl]; exact (Array.getElem?_eq_some_iff.1 hj).1)⟩
  exact ⟨a, by simpa using ha, ha'⟩
end
def fsOf (P : Program) (t : TypeId) : Array Field := match P.underlying t with
  | some (.struct fs) => fs
  | _ => #[]

/-! ### What is read of slices -/
section
variable {α : Type} {r : Rdr α} {s : Sl α} {w w' : World}
theorem rSl_len {h : Heap} (hl : (rSl r).ok h s) (K : Value → Prop) : lenS s.v K = K (.int .i64 s.l.length) := by
  obtain ⟨⟨a, c, hv, _⟩, _⟩ := hl
  rw [hv]
  exact lenS_mk a _ c K
theorem rBytes_len {h : Heap} {s : Sl UInt8} (hl : rBytes.ok h s) (K : Value → Prop) : lenS s.v K = K (.int .i64 s.l.length) := hl.1.len K
theorem rSl_ok {h : Heap} (hl : (rSl r).ok h s) {j : Nat} {a : α} (hj : s.l[j]? = some a) : r.ok h a := hl.2.2.2 a (List.mem_of_getElem? hj)
/-- 'x[j]', read: all its cells. -/
theorem rSl_ldN (hl : (rSl r).ok w.heap s) (hp : 0 < r.size) {k : IntKind} {j : Nat} {a : α} (hj : s.l[j]? = some a) {K : Value → Prop} (h : K (.agg (r.cells a).toArray)) :
    ixs r.size s.v (.int k (j : Int)) fun t => ldN r.size t w.heap K := by
  have hlt := (List.getElem?_eq_some_iff.1 hj).1
  refine ldxN hl.1 hp hlt ?_
  rw [part_at r.len hj]
  exact h
/-- 'x[j]', read: one cell. -/
theorem rSl_ld1 (hl : (rSl r).ok w.heap s) {k : IntKind} {j : Nat} {a : α} {u : Value} (hj : s.l[j]? = some a) (hc : r.cells a = [u]) {K : Value → Prop} (h : K u) :
    ixs 1 s.v (.int k (j : Int)) fun t => ld1 t w.heap K := by
  have hs : r.size = 1 := by have := r.len a; rw [hc] at this; simpa using this.symm
  have hcel := hl.1
  rw [hs] at hcel
  have hp := part_at r.len hj
  rw [hs, hc, Nat.mul_one] at hp
  refine ldx hcel (u := u) ?_ h
  have : ((s.l.flatMap r.cells).drop j)[0]? = some u := by
    have h0 : (((s.l.flatMap r.cells).drop j).take 1)[0]? = some u := by rw [hp]; rfl
    rw [List.getElem?_take_of_lt (by omega)] at h0
    exact h0
  simpa using this
/-- 'l[:n]'. -/
theorem rSl_take {h : Heap} {a : Option Addr} {m c k : Nat} {l : List α} (hl : (rSl r).ok h ⟨.slice a m c, l⟩) (hk : k ≤ m) : (rSl r).ok h ⟨.slice a k c, l.take k⟩ := by
  obtain ⟨hc, hn, hcap, hok⟩ := hl
  have hc : Cel h (.slice a m c) r.size l.length (l.flatMap r.cells) := hc
  have hn : l.length ≤ 9223372036854775807 := hn
  have hm : m = l.length := by obtain ⟨_, _, hv, _⟩ := hc; simp only [Value.slice.injEq] at hv; exact hv.2.1
  subst hm
  refine ⟨?_, by simp; omega, fun a' n' c' he => by cases he; have := hcap _ _ _ rfl; omega, fun x hx => hok x (List.mem_of_mem_take hx)⟩
  have := hc.take (k := k) hk c
  rw [parts_take r.len] at this
  show Cel h _ _ (l.take k).length _
  rw [List.length_take, Nat.min_eq_left (by omega)]
  exact this
theorem rSl_form {h : Heap} (hl : (rSl r).ok h s) : ∃ a c, s.v = .slice a s.l.length c ∧ s.l.length ≤ c := by
  obtain ⟨⟨a, c, hv, _⟩, _, hcap, _⟩ := hl
  exact ⟨a, c, hv, hcap _ _ _ hv⟩
/-- A struct's copy in a variable. -/
theorem copy_s {P : Program} {w0 : World} {As : List Asn} {t n : TypeId} {zs : Array Value} {a : α} {h : Heap} {K : Value → World → Prop} (hs : Sep w0 w As)
    (hr : (Instr.alloc t true (.tuple #[])).run P w = .ok (.pointer (some ⟨w.heap.size, 0, none⟩)) (w.alloc (.cells zs t))) (hz : zs.size = n) (hn : r.size = n) (ha : r.ok h a)
    (hk : ∀ g w', Sep w0 w' (blk g (r.cells a).toArray t :: As) → K (.pointer (some ⟨g, 0, none⟩)) w') :
    efP P (Instr.alloc t true (.tuple #[])) w fun p w => stN n p (.agg (r.cells a).toArray) w fun w => K p w := by
  refine alloc_s hs hr fun g w1 hs1 => ?_
  have hl := r.len a
  refine stN_s hs1 (by simp [hl, hn]) (by simp [hz]) (fun u hu => r.one ha u (by simpa using hu)) fun w2 hs2 => ?_
  have e : splice zs 0 (r.cells a).toArray.toList = (r.cells a).toArray := by
    apply Array.ext'
    simp [splice, hl, hn, ← hz]
  rw [e] at hs2
  exact hk g w2 hs2
end
end Go.Fx
