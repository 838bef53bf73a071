/-
  Messages as plain data: which may be, their bytes; no two have one beginning.
-/
import Derived.Test.YtaodibbogbkgdaaPbB
set_option linter.unusedVariables false
set_option linter.unusedSimpArgs false
namespace Go.Fx
structure Msg where
  k : Int
  q : Int
  ids : List (Vec 32)
  bs : List (List UInt8)
deriving DecidableEq
def Msg.zero : Msg := ⟨0, 0, [], []⟩
/-- So many at least and at most, and how they stand. -/
def bearsR (k : Int) : Nat × Nat × Int :=
  if k = 1 then (0, 0, 0) else if k = 2 ∨ k = 5 ∨ k = 7 ∨ k = 10 then (1, 1, 1) else if k = 11 then (2, 2, 1) else if k = 3 ∨ k = 4 then (0, 32, 2)
  else if k = 8 ∨ k = 9 then (1, 1, 3) else if k = 6 then (0, 16, 4) else (0, 0, -1)
def Msg.how (m : Msg) : Int := (bearsR m.k).2.2
def Msg.few (m : Msg) : Prop := (bearsR m.k).1 ≤ (if 3 ≤ m.how then m.bs.length else m.ids.length) ∧ (if 3 ≤ m.how then m.bs.length else m.ids.length) ≤ (bearsR m.k).2.1 ∧ (if 3 ≤ m.how then m.ids.length else m.bs.length) = 0
def Msg.ok (m : Msg) : Prop := 0 ≤ m.how ∧ 0 ≤ m.q ∧ m.q ≤ 2147483647 ∧ m.few ∧ ∀ b ∈ m.bs, b.length ≤ 246
instance (m : Msg) : Decidable m.few := by unfold Msg.few; infer_instance
instance (m : Msg) : Decidable m.ok := by unfold Msg.ok; infer_instance
def Msg.chk (m : Msg) : Int := if m.ok then 0 else 40
theorem Msg.chk_or (m : Msg) : m.chk = 0 ∨ m.chk = 40 := by unfold Msg.chk; split <;> simp
theorem Msg.chk_ok {m : Msg} : m.chk = 0 ↔ m.ok := by unfold Msg.chk; split <;> simp_all
def Msg.counts (m : Msg) : Bool := m.how == 2 || m.how == 4
def encI (l : List (Vec 32)) : List UInt8 := l.flatMap (·.1)
def encB (l : List (List UInt8)) : List UInt8 := l.flatMap fun b => be 4 b.length ++ b
def Msg.num (m : Msg) : List UInt8 := if m.counts then be 4 (m.ids.length + m.bs.length) else []
def Msg.bytes (m : Msg) : List UInt8 := be 1 m.k.toNat ++ (be 4 m.q.toNat ++ (m.num ++ (encI m.ids ++ encB m.bs)))
def Msg.out (m : Msg) : List UInt8 := if m.ok then m.bytes else []
theorem Msg.kinds {m : Msg} (h : 0 ≤ m.how) : 1 ≤ m.k ∧ m.k ≤ 11 := by
  unfold Msg.how bearsR at h
  repeat' split at h
  all_goals first | omega | simp at h
/-- How the numbers of names and of blocks follow from a kind. -/
theorem Msg.ok_cases {m : Msg} (h : m.ok) : (m.how = 0 ∧ m.ids.length = 0 ∧ m.bs.length = 0) ∨ (m.how = 1 ∧ m.ids.length = (bearsR m.k).1 ∧ m.bs.length = 0 ∧ m.ids.length ≤ 2) ∨ (m.how = 2 ∧ m.ids.length ≤ 32 ∧ m.bs.length = 0) ∨
    (m.how = 3 ∧ m.ids.length = 0 ∧ m.bs.length = 1) ∨ (m.how = 4 ∧ m.ids.length = 0 ∧ m.bs.length ≤ 16) := by
  obtain ⟨h0, _, _, hf, _⟩ := h
  unfold Msg.few at hf
  unfold Msg.how at *
  have hk := Msg.kinds h0
  have : m.k = 1 ∨ m.k = 2 ∨ m.k = 3 ∨ m.k = 4 ∨ m.k = 5 ∨ m.k = 6 ∨ m.k = 7 ∨ m.k = 8 ∨ m.k = 9 ∨ m.k = 10 ∨ m.k = 11 := by omega
  generalize m.ids.length = a at *
  generalize m.bs.length = b at *
  rcases this with h | h | h | h | h | h | h | h | h | h | h <;> rw [h] at hf ⊢ <;> simp [bearsR] at hf ⊢ <;> omega
theorem encI_len (l : List (Vec 32)) : (encI l).length = 32 * l.length := by
  unfold encI
  rw [parts_length (s := 32) (fun a : Vec 32 => a.2), Nat.mul_comm]
theorem encB_len : ∀ l : List (List UInt8), (∀ b ∈ l, b.length ≤ 246) → (encB l).length ≤ 250 * l.length
  | [], _ => by simp [encB]
  | b :: l, h => by
    have h1 := encB_len l fun c hc => h c (by simp [hc])
    have h2 := h b (by simp)
    unfold encB at *
    rw [List.flatMap_cons, List.length_append, List.length_append, be_length, List.length_cons]
    omega
theorem Msg.bytes_len {m : Msg} (h : m.ok) : m.bytes.length ≤ 4009 := by
  have h1 := encI_len m.ids
  have h2 := encB_len m.bs h.2.2.2.2
  have h3 : m.num.length ≤ 4 := by unfold Msg.num; split <;> simp [be_length]
  have hc := Msg.ok_cases h
  unfold Msg.bytes
  simp only [List.length_append, be_length]
  omega
theorem encI_inj : ∀ {a b : List (Vec 32)} {r s : List UInt8}, a.length = b.length → encI a ++ r = encI b ++ s → a = b ∧ r = s
  | [], [], r, s, _, h => ⟨rfl, h⟩
  | [], _ :: _, _, _, h, _ => by cases h
  | _ :: _, [], _, _, h, _ => by cases h
  | x :: a, y :: b, r, s, hl, h => by
    unfold encI at h
    rw [List.flatMap_cons, List.flatMap_cons, List.append_assoc, List.append_assoc] at h
    have h1 := List.append_inj h (by rw [x.2, y.2])
    have h2 := encI_inj (a := a) (b := b) (by simpa using hl) h1.2
    exact ⟨by rw [Subtype.ext h1.1, h2.1], h2.2⟩
theorem be4_inj {a b : Nat} (ha : a < 4294967296) (hb : b < 4294967296) (h : be 4 a = be 4 b) : a = b := by
  have := congrArg ofBe h
  rw [ofBe_be, ofBe_be, Nat.mod_eq_of_lt (by simpa using ha), Nat.mod_eq_of_lt (by simpa using hb)] at this
  exact this
theorem encB_inj : ∀ {a b : List (List UInt8)} {r s : List UInt8}, a.length = b.length → (∀ x ∈ a, x.length ≤ 246) → (∀ x ∈ b, x.length ≤ 246) → encB a ++ r = encB b ++ s → a = b ∧ r = s
  | [], [], r, s, _, _, _, h => ⟨rfl, h⟩
  | [], _ :: _, _, _, h, _, _, _ => by cases h
  | _ :: _, [], _, _, h, _, _, _ => by cases h
  | x :: a, y :: b, r, s, hl, ha, hb, h => by
    unfold encB at h
    rw [List.flatMap_cons, List.flatMap_cons, List.append_assoc, List.append_assoc, List.append_assoc, List.append_assoc] at h
    have h1 := List.append_inj h (by rw [be_length, be_length])
    have hx := ha x (by simp)
    have hy := hb y (by simp)
    have hxy := be4_inj (by omega) (by omega) h1.1
    have h2 := List.append_inj h1.2 hxy
    have h3 := encB_inj (a := a) (b := b) (by simpa using hl) (fun z hz => ha z (by simp [hz])) (fun z hz => hb z (by simp [hz])) h2.2
    exact ⟨by rw [h2.1, h3.1], h3.2⟩
/-- No message's bytes begin another one's. -/
theorem Msg.bytes_inj {m n : Msg} {r s : List UInt8} (hm : m.ok) (hn : n.ok) (h : m.bytes ++ r = n.bytes ++ s) : m = n ∧ r = s := by
  unfold Msg.bytes at h
  simp only [List.append_assoc] at h
  have hkm := Msg.kinds hm.1
  have hkn := Msg.kinds hn.1
  have h1 := List.append_inj h (by rw [be_length, be_length])
  have hk : m.k = n.k := by
    have := congrArg ofBe h1.1
    rw [ofBe_be, ofBe_be] at this
    omega
  have h2 := List.append_inj h1.2 (by rw [be_length, be_length])
  have hqm := hm.2.1; have hqm2 := hm.2.2.1; have hqn := hn.2.1; have hqn2 := hn.2.2.1
  have hq : m.q = n.q := by
    have := be4_inj (by omega) (by omega) h2.1
    omega
  have hhow : m.how = n.how := by unfold Msg.how; rw [hk]
  have hcnt : m.counts = n.counts := by unfold Msg.counts; rw [hhow]
  have h3 := List.append_inj h2.2 (by unfold Msg.num; rw [hcnt]; split <;> simp [be_length])
  have cm := Msg.ok_cases hm
  have cn := Msg.ok_cases hn
  rw [← hhow, ← hk] at cn
  have hnum : m.how = 2 ∨ m.how = 4 → m.ids.length + m.bs.length = n.ids.length + n.bs.length := fun hh => by
    have e : m.counts = true := by unfold Msg.counts; rcases hh with hh | hh <;> rw [hh] <;> rfl
    have h4 := h3.1
    unfold Msg.num at h4
    rw [← hcnt, if_pos e, if_pos e] at h4
    exact be4_inj (by omega) (by omega) h4
  have hil : m.ids.length = n.ids.length := by omega
  have hbl : m.bs.length = n.bs.length := by omega
  have h5 := encI_inj hil h3.2
  have h6 := encB_inj hbl hm.2.2.2.2 hn.2.2.2.2 h5.2
  refine ⟨?_, h6.2⟩
  cases m; cases n
  simp_all
/-- What any bytes are read as. -/
def IsParse (l : List UInt8) (m : Msg) (e : Int) : Prop := (e = 0 ∧ m.ok ∧ m.bytes = l) ∨ (e = 40 ∧ m = Msg.zero ∧ ∀ n : Msg, n.ok → n.bytes ≠ l)
theorem IsParse.uniq {l : List UInt8} {m n : Msg} {e f : Int} (h : IsParse l m e) (k : IsParse l n f) : m = n ∧ e = f := by
  rcases h with ⟨rfl, hm, hb⟩ | ⟨rfl, rfl, hno⟩
  · rcases k with ⟨rfl, hn, hb'⟩ | ⟨rfl, rfl, hno⟩
    · exact ⟨(Msg.bytes_inj (r := []) (s := []) hm hn (by rw [hb, hb'])).1, rfl⟩
    · exact absurd hb (hno m hm)
  · rcases k with ⟨rfl, hn, hb'⟩ | ⟨rfl, rfl, _⟩
    · exact absurd hb' (hno n hn)
    · exact ⟨rfl, rfl⟩
end Go.Fx
