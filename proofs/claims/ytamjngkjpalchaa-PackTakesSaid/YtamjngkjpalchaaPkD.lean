/-
  Small facts that the statements of this chapter share.
-/
import Derived.Test.YtamjngkjpalchaaLwB
set_option linter.unusedVariables false
set_option linter.unusedSimpArgs false
namespace Go.Fx
/-- No more than any limit. -/
def Pk.Sm (x : Pk) : Prop := x.b.length ≤ 8192
theorem Pk.Sm.add {x : Pk} (h : x.Sm) (hk : x.Ok) (b : List UInt8) : (x.add b).Sm := by
  unfold Pk.Sm at *
  unfold Pk.add
  split
  · rename_i hw
    have := hk hw
    split
    · exact h
    · simp only [List.length_append]; omega
  · exact h
theorem Pk.Sm.item {x : Pk} (h : x.Sm) (hk : x.Ok) (i : It) : (x.item i).Sm := by
  unfold Pk.item Pk.text
  repeat' split
  all_goals first | exact h.add hk _ | exact h
theorem Pk.Sm.new (n : Int) : (Pk.new n).Sm := by simp [Pk.Sm, Pk.new]
theorem neq_self (n : Int) : (n != n) = false := by simp
theorem Fr.new {w0 w w' : World} {F : List Nat} (h : Fr [] w0 w) (k : Fr F w w') (hF : ∀ i ∈ F, w0.heap.size ≤ i) : Fr [] w0 w' := h.trans k (by simp) fun i hi => .inr (hF i hi)
theorem Grew.above {w w0 : World} {F F' : List Nat} (h : Grew w F F') (hs : w0.heap.size ≤ w.heap.size) (hF : ∀ i ∈ F, w0.heap.size ≤ i) : ∀ i ∈ F', w0.heap.size ≤ i :=
  fun i hi => (h i hi).elim (hF i) fun hh => Nat.le_trans hs hh
theorem be_inj (n a b : Nat) : (be n a = be n b) ↔ a % 256 ^ n = b % 256 ^ n := by
  refine ⟨fun h => ?_, fun h => ?_⟩
  · rw [← ofBe_be, ← ofBe_be, h]
  · rw [← be_mod n a, ← be_mod n b, h]
theorem IsPk.nilP {h : Heap} {p : Value} {x : Pk} {F : List Nat} (hp : IsPk h p x F) (K : Value → Prop) : nilP false p K = K (.bool false) := by
  obtain ⟨g, s, E, G, rfl, _⟩ := hp
  rw [nilP_mk]; rfl
end Go.Fx
