/-
  More operations: slices built of known bytes; bytes.Compare's entry.
-/
import Derived.Test.YticmbeincpaaeaaDoorFxK
import Derived.Lib.BytesEntry
import Derived.Laws.Externs
set_option linter.unusedVariables false
set_option linter.unusedSimpArgs false
namespace Go.Fx
/-- '[]byte{...}'. -/
theorem buildB {P : Program} {s : Sem Value} {w : World} {l : List UInt8} {E n : Nat} {K : Value → World → Prop} (hn : n = l.length)
    (hr : s.run P w = .ok (.slice (some ⟨w.heap.size, 0, none⟩) n n) (w.alloc (.cells (bvs l).toArray E)))
    (h : ∀ w' g, g = w.heap.size → OwnB w'.heap (.slice (some ⟨g, 0, none⟩) n n) l [g] → Fr [] w w' → K (.slice (some ⟨g, 0, none⟩) n n) w') : efP P s w K := by
  subst hn
  refine slice_i hr fun w' g hg hb hf => h w' g hg ?_ hf
  exact Own.of_blk hb (by simp [bvs])
theorem RdB.bytesOf {P : Program} {w : World} {v : Value} {l : List UInt8} (hr : RdB w.heap v l) : (Extern.Bytes.bytesOf v).run P w = .ok ⟨l.toArray⟩ w := by
  have hr' := hr
  obtain ⟨a, c, rfl, hl, hh⟩ := hr
  cases a with
  | none =>
    have h0 : l = [] := by
      rcases hh with h0 | ⟨_, _, _, _, _, h, _⟩
      · exact List.eq_nil_of_length_eq_zero (by omega)
      · cases h
    subst h0
    rfl
  | some a =>
    have hx := Lib.run_loadBytesX (P := P) w (l.map fun b => (b.toNat : Int)) a .empty (fun j x hj => by
      rw [List.getElem?_map] at hj
      obtain ⟨b, hb, rfl⟩ := Option.map_eq_some_iff.1 hj
      obtain ⟨g, o, c', cur, t, fr, hv, hg, hu, hlt⟩ := Cel.elem hr' (j := j) (u := bv b) (by simp [bvs, hb])
      cases hv
      have e : (⟨g, o, none⟩ : Addr).add j = ⟨g, o + j, none⟩ := by unfold Addr.add; split <;> simp_all
      rw [e]
      simp [World.cell?, hg, hu, bv])
    simp only [List.length_map] at hx
    simp only [Extern.Bytes.bytesOf, hx]
    congr 1
    apply ByteArray.ext
    simp only [Lib.bytesOf, List.map_map]
    rw [List.map_congr_left (g := id) (fun b _ => by simp)]
    simp
theorem ofBe_append (l m : List UInt8) : ofBe (l ++ m) = ofBe l * 256 ^ m.length + ofBe m := by
  induction m using rev_ind with
  | h0 => simp [ofBe]
  | h1 m b ih =>
    rw [← List.append_assoc, ofBe_snoc, ofBe_snoc, ih, List.length_append, List.length_singleton, Nat.pow_succ, Nat.mul_add, ← Nat.mul_assoc, Nat.mul_comm 256, Nat.mul_assoc, Nat.mul_comm 256]
    omega
theorem ofBe_cons (x : UInt8) (l : List UInt8) : ofBe (x :: l) = x.toNat * 256 ^ l.length + ofBe l := by
  have := ofBe_append [x] l
  simpa [ofBe] using this
/-- What bytes.Compare tells of bytes of one length: which number is the lesser one. -/
theorem cmp_lt (a b : List UInt8) (h : a.length = b.length) : (Extern.BytealgCompare.cmp ⟨a.toArray⟩ ⟨b.toArray⟩ < 0) ↔ ofBe a < ofBe b := by
  have key : ∀ i, i < a.length → (⟨a.toArray⟩ : ByteArray)[i]! = a[i]! := fun i hi => by
    rw [getElem!_pos (⟨a.toArray⟩ : ByteArray) i (by simpa [ByteArray.size] using hi), getElem!_pos a i hi]
    rfl
  have key2 : ∀ i, i < b.length → (⟨b.toArray⟩ : ByteArray)[i]! = b[i]! := fun i hi => by
    rw [getElem!_pos (⟨b.toArray⟩ : ByteArray) i (by simpa [ByteArray.size] using hi), getElem!_pos b i hi]
    rfl
  unfold Extern.BytealgCompare.cmp
  have hs1 : (⟨a.toArray⟩ : ByteArray).size = a.length := by simp [ByteArray.size]
  have hs2 : (⟨b.toArray⟩ : ByteArray).size = b.length := by simp [ByteArray.size]
  rw [hs1, hs2, ← h, Nat.min_self]
  split
  · rename_i i hi
    obtain ⟨hp, as, bs, hl, hall⟩ := List.find?_eq_some_iff_append.1 hi
    have hi' : i < a.length := by
      have := List.mem_of_find?_eq_some hi
      simpa using this
    have hpre : ∀ j, j < i → a[j]! = b[j]! := fun j hj => by
      have hlen : as.length = i := by
        have h1 : (List.range a.length)[as.length]? = some i := by rw [hl]; simp
        rw [List.getElem?_range (by have := congrArg List.length hl; simp at this; omega)] at h1
        simpa using h1
      have hm : j ∈ as := by
        have h1 : (List.range a.length)[j]? = some j := List.getElem?_range (by omega)
        rw [hl, List.getElem?_append_left (by omega)] at h1
        exact List.mem_of_getElem? h1
      have := hall j hm
      rw [key j (by omega), key2 j (by omega)] at this
      simpa using this
    rw [key i hi', key2 i (by omega)] at hp ⊢
    have ha : a = a.take i ++ a[i]! :: a.drop (i + 1) := by
      conv => lhs; rw [← List.take_append_drop i a]
      rw [List.drop_eq_getElem_cons hi']
      simp [getElem!_def, hi']
    have hb : b = a.take i ++ b[i]! :: b.drop (i + 1) := by
      have : a.take i = b.take i := by
        apply List.ext_getElem?
        intro j
        rcases Nat.lt_or_ge j i with hj | hj
        · have := hpre j hj
          simp only [getElem!_def] at this
          rw [List.getElem?_take_of_lt hj, List.getElem?_take_of_lt hj]
          have h1 : j < a.length := by omega
          have h2 : j < b.length := by omega
          simp [h1, h2] at this ⊢
          exact this
        · simp [List.getElem?_take, Nat.not_lt.2 hj]
      rw [this]
      conv => lhs; rw [← List.take_append_drop i b]
      rw [List.drop_eq_getElem_cons (by omega)]
      simp [getElem!_def, show i < b.length by omega]
    have hla : ofBe (a.drop (i + 1)) < 256 ^ (a.length - (i + 1)) := by simpa using ofBe_lt (a.drop (i + 1))
    have hlb : ofBe (b.drop (i + 1)) < 256 ^ (a.length - (i + 1)) := by simpa [h] using ofBe_lt (b.drop (i + 1))
    have hne : (a[i]!).toNat ≠ (b[i]!).toNat := fun hh => by
      have := UInt8.toNat_inj.1 hh
      rw [this] at hp
      simp at hp
    have e1 : ofBe a = ofBe (a.take i) * 256 ^ (a.length - (i + 1) + 1) + ((a[i]!).toNat * 256 ^ (a.length - (i + 1)) + ofBe (a.drop (i + 1))) := by
      conv => lhs; rw [ha]
      rw [ofBe_append, ofBe_cons]
      simp
    have e2 : ofBe b = ofBe (a.take i) * 256 ^ (a.length - (i + 1) + 1) + ((b[i]!).toNat * 256 ^ (a.length - (i + 1)) + ofBe (b.drop (i + 1))) := by
      conv => lhs; rw [hb]
      rw [ofBe_append, ofBe_cons]
      simp [← h]
    rw [e1, e2]
    have hlt : (a[i]! < b[i]!) ↔ (a[i]!).toNat < (b[i]!).toNat := UInt8.lt_iff_toNat_lt
    by_cases hc : a[i]! < b[i]!
    · rw [if_pos hc]
      rw [hlt] at hc
      refine ⟨fun _ => ?_, fun _ => by decide⟩
      have := Nat.mul_le_mul_right (256 ^ (a.length - (i + 1))) (show (a[i]!).toNat + 1 ≤ (b[i]!).toNat from hc)
      rw [Nat.add_mul, Nat.one_mul] at this
      omega
    · rw [if_neg hc]
      rw [hlt] at hc
      refine ⟨fun hh => absurd hh (by decide), fun hh => ?_⟩
      exfalso
      have := Nat.mul_le_mul_right (256 ^ (a.length - (i + 1))) (show (b[i]!).toNat + 1 ≤ (a[i]!).toNat by omega)
      rw [Nat.add_mul, Nat.one_mul] at this
      omega
  · rename_i hi
    have hab : a = b := by
      apply List.ext_getElem h
      intro j h1 h2
      have := List.find?_eq_none.1 hi j (by simpa using h1)
      rw [key j h1, key2 j h2] at this
      simpa [getElem!_def, h1, h2] using this
    subst hab
    simp
end Go.Fx
