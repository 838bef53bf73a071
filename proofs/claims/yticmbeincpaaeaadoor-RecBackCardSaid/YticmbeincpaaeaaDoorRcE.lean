/-
  Records one behind the other: what a scan tells, as a relation; cut off anywhere.
-/
import Derived.Test.YticmbeincpaaeaaDoorRcD
set_option linter.unusedVariables false
set_option linter.unusedSimpArgs false
namespace Go.Fx
def goodB (l : List Blk) : Prop := ∀ b ∈ l, b.chk = 0 ∧ b.h ≤ maxI
theorem goodB.ok {l : List Blk} (h : goodB l) : layOk l := fun b hb => (h b hb).1
theorem layL_append (a b : List Blk) : layL (a ++ b) = layL a ++ layL b := by unfold layL; simp
theorem layL_cons (a : Blk) (b : List Blk) : layL (a :: b) = a.rcd ++ layL b := by unfold layL; simp
/-- L is what stands at the beginning of r. -/
def IsScan (r : List UInt8) (L : List Blk) : Prop := goodB L ∧ ∃ t, r = layL L ++ t ∧ (takeR t).2.2 ≠ 0
theorem takeR_nil : takeR [] = (Blk.none, 0, 11) := by unfold takeR; rw [if_pos (by decide)]
theorem IsScan.uniq : ∀ {L M : List Blk} {r : List UInt8}, IsScan r L → IsScan r M → L = M
  | [], [], _, _, _ => rfl
  | [], b :: M, r, ⟨_, t, h1, h2⟩, ⟨g, s, k1, k2⟩ => by
    have hb := g b (by simp)
    have ht : t = b.rcd ++ (layL M ++ s) := by
      have : layL ([] : List Blk) ++ t = t := rfl
      rw [← this, ← h1, k1, layL_cons, List.append_assoc]
    rw [ht, take_rcd hb.1 hb.2] at h2
    exact absurd rfl h2
  | a :: L, [], r, ⟨g, t, h1, h2⟩, ⟨_, s, k1, k2⟩ => by
    have ha := g a (by simp)
    have hs : s = a.rcd ++ (layL L ++ t) := by
      have : layL ([] : List Blk) ++ s = s := rfl
      rw [← this, ← k1, h1, layL_cons, List.append_assoc]
    rw [hs, take_rcd ha.1 ha.2] at k2
    exact absurd rfl k2
  | a :: L, b :: M, r, ⟨g, t, h1, h2⟩, ⟨g', s, k1, k2⟩ => by
    have ha := g a (by simp)
    have hb := g' b (by simp)
    have e1 : takeR r = (a, a.rcd.length, 0) := by rw [h1, layL_cons, List.append_assoc]; exact take_rcd ha.1 ha.2
    have e2 : takeR r = (b, b.rcd.length, 0) := by rw [k1, layL_cons, List.append_assoc]; exact take_rcd hb.1 hb.2
    have hab : a = b := congrArg Prod.fst (e1.symm.trans e2)
    subst hab
    have h3 : layL L ++ t = layL M ++ s := by
      have := h1.symm.trans k1
      rw [layL_cons, layL_cons, List.append_assoc, List.append_assoc] at this
      exact List.append_cancel_left this
    have := IsScan.uniq (L := L) (M := M) (r := layL L ++ t) ⟨fun x hx => g x (by simp [hx]), t, rfl, h2⟩ ⟨fun x hx => g' x (by simp [hx]), s, h3, k2⟩
    rw [this]
theorem IsScan.len {r : List UInt8} {L : List Blk} (h : IsScan r L) : (layL L).length ≤ r.length := by
  obtain ⟨_, t, h1, _⟩ := h
  rw [h1]; simp
theorem IsScan.take {r : List UInt8} {L : List Blk} (h : IsScan r L) : r.take (layL L).length = layL L := by
  obtain ⟨_, t, h1, _⟩ := h
  rw [h1]; simp
theorem layL_ge : ∀ L : List Blk, 66 * L.length ≤ (layL L).length
  | [] => by simp
  | b :: L => by
    have h1 := layL_ge L
    have h2 := b.rec_len
    rw [layL_cons, List.length_append, List.length_cons]
    omega
/-- A record that is cut off. -/
theorem take_cut {b : Blk} {s : List UInt8} {j : Nat} (hc : b.chk = 0) (hj : j < b.rcd.length) : takeR ((b.rcd ++ s).take j) = (Blk.none, 0, 11) := by
  have hck := Blk.chk_ok hc
  have hbl := b.bytes_len
  have hrl := b.rec_len
  have e1 : (b.rcd ++ s).take j = b.rcd.take j := by rw [List.take_append_of_le_length (by omega)]
  have hl : (b.rcd.take j).length = j := by simp; omega
  rw [e1]
  unfold takeR
  by_cases h12 : j < 12
  · rw [if_pos (by omega)]
  · rw [if_neg (by omega)]
    have e4 : (b.rcd.take j).take 4 = be 4 b.bytes.length := by
      rw [List.take_take, Nat.min_eq_left (by omega)]
      unfold Blk.rcd Blk.hd
      rw [List.append_assoc, List.append_assoc]
      exact List.take_left' (be_length _ _)
    rw [e4, ofBe_b4 (by omega), if_neg (by omega), if_pos (by omega)]
theorem drop_cons_get {l : List Blk} {i : Nat} {b : Blk} (h : l[i]? = some b) : l.drop i = b :: l.drop (i + 1) := by
  obtain ⟨hlt, hb⟩ := List.getElem?_eq_some_iff.1 h
  rw [List.drop_eq_getElem_cons hlt, hb]
/-- Cut off behind k bytes, n records are whole. -/
theorem scan_cut {L : List Blk} {k n : Nat} (hg : goodB L) (hk : k ≤ (layL L).length) (hn : n ≤ L.length) (h1 : (layL (L.take n)).length ≤ k) (h2 : ∀ b, L[n]? = some b → k - (layL (L.take n)).length < b.rcd.length) :
    IsScan ((layL L).take k) (L.take n) ∧ takeR (((layL L).take k).drop (layL (L.take n)).length) = (Blk.none, 0, 11) := by
  have e : layL L = layL (L.take n) ++ layL (L.drop n) := by rw [← layL_append, List.take_append_drop]
  obtain ⟨m, hm⟩ : ∃ m, m = (layL (L.take n)).length := ⟨_, rfl⟩
  have ek : (layL L).take k = layL (L.take n) ++ (layL (L.drop n)).take (k - m) := by
    rw [e, List.take_append, hm, List.take_of_length_le (by omega)]
  have ht : takeR ((layL (L.drop n)).take (k - m)) = (Blk.none, 0, 11) := by
    cases hx : L[n]? with
    | none =>
      have hge := List.getElem?_eq_none_iff.1 hx
      rw [List.drop_of_length_le hge]
      show takeR (([] : List UInt8).take _) = _
      rw [List.take_nil]
      exact takeR_nil
    | some b =>
      rw [drop_cons_get hx, layL_cons]
      have := h2 b hx
      exact take_cut (hg b (List.mem_of_getElem? hx)).1 (by omega)
  refine ⟨⟨fun b hb => hg b (List.mem_of_mem_take hb), _, ek, by rw [ht]; decide⟩, ?_⟩
  rw [← hm, ek, List.drop_left' hm.symm]
  exact ht
end Go.Fx
