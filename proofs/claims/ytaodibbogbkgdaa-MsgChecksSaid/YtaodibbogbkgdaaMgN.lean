/-
  What the document's reading has found so far.
-/
import Derived.Test.YtaodibbogbkgdaaMgM
set_option linter.unusedVariables false
set_option linter.unusedSimpArgs false
namespace Go.Fx
/-- How many there are. -/
def Msg.many (n : Msg) : Nat := if 3 ≤ n.how then n.bs.length else n.ids.length
theorem Msg.many_of {n : Msg} (h : n.ok) : n.many ≤ (bearsR n.k).2.1 ∧ (n.counts = false → n.many = (bearsR n.k).2.1) ∧ n.num = (if n.counts then be 4 n.many else []) ∧ (n.how < 3 → n.bs = [] ∧ n.many = n.ids.length) ∧ (3 ≤ n.how → n.ids = [] ∧ n.many = n.bs.length) ∧ n.many ≤ 32 := by
  have hc := Msg.ok_cases h
  have hk := k11 (Msg.kinds h.1)
  have hf := h.2.2.2.1
  have h5 : n.how < 3 → n.bs = [] ∧ n.many = n.ids.length := fun hh => ⟨List.eq_nil_of_length_eq_zero (by omega), by unfold Msg.many; rw [if_neg (by omega)]⟩
  have h6 : 3 ≤ n.how → n.ids = [] ∧ n.many = n.bs.length := fun hh => ⟨List.eq_nil_of_length_eq_zero (by omega), by unfold Msg.many; rw [if_pos (by omega)]⟩
  have hm : (bearsR n.k).1 ≤ n.many ∧ n.many ≤ (bearsR n.k).2.1 := ⟨hf.1, hf.2.1⟩
  have hb : (n.how = 2 ∨ n.how = 4) ∨ (bearsR n.k).1 = (bearsR n.k).2.1 := by
    unfold Msg.how
    rcases hk with h | h | h | h | h | h | h | h | h | h | h <;> rw [h] <;> simp [bearsR]
  have h32 : (bearsR n.k).2.1 ≤ 32 := by rcases hk with h | h | h | h | h | h | h | h | h | h | h <;> rw [h] <;> simp [bearsR]
  refine ⟨hm.2, fun hcn => ?_, ?_, h5, h6, by omega⟩
  · have : ¬ (n.how = 2 ∨ n.how = 4) := by simpa [Msg.counts] using hcn
    rcases hb with hb | hb
    · exact absurd hb this
    · omega
  · unfold Msg.num
    have : n.ids.length + n.bs.length = n.many := by
      by_cases hh : n.how < 3
      · have := h5 hh; rw [this.2, this.1]; rfl
      · have := h6 (by omega); rw [this.2, this.1]; simp
    rw [this]
/-- So far what is read is what any message with these bytes has. -/
def Fit (l : List UInt8) (N a i : Nat) (m : Msg) : Prop := ∀ n : Msg, n.ok → n.bytes = l → m.k = n.k ∧ m.q = n.q ∧ N = n.many ∧ m.ids = n.ids.take i ∧ m.bs = n.bs.take i ∧ l.drop a = encI (n.ids.drop i) ++ encB (n.bs.drop i)
abbrev zb (g : Nat) : Asn := blk g (Rdr.cells Q_api_Msg ((0 : Int), (0 : Int), Value.slice none 0 0, Value.slice none 0 0)).toArray T_api_Msg
theorem head5 {n : Msg} (hn : n.ok) {l : List UInt8} (hb : n.bytes = l) (h5 : 5 ≤ l.length) : ((l[0]'(by omega)).toNat : Int) = n.k ∧ numM l 1 = n.q ∧ l.drop 5 = n.num ++ (encI n.ids ++ encB n.bs) := by
  have hk := Msg.kinds hn.1
  have hq := hn.2.1
  have hq2 := hn.2.2.1
  subst hb
  have e1 : n.bytes = be 1 n.k.toNat ++ (be 4 n.q.toNat ++ (n.num ++ (encI n.ids ++ encB n.bs))) := rfl
  have d1 : n.bytes.drop 1 = be 4 n.q.toNat ++ (n.num ++ (encI n.ids ++ encB n.bs)) := by rw [e1]; exact List.drop_left' (be_length _ _)
  have d5 : n.bytes.drop 5 = n.num ++ (encI n.ids ++ encB n.bs) := by rw [show 5 = 1 + 4 from rfl, ← List.drop_drop, d1]; exact List.drop_left' (be_length _ _)
  refine ⟨?_, ?_, d5⟩
  · have h0 : n.bytes[0]? = some (UInt8.ofNat n.k.toNat) := by rw [e1]; simp [be]
    rw [List.getElem?_eq_getElem (by omega)] at h0
    rw [Option.some.inj h0]
    simp
    omega
  · unfold numM
    rw [if_neg (by omega), d1, List.take_left' (be_length _ _), ofBe_be, Nat.mod_eq_of_lt (by simp; omega)]
    omega
theorem Fit.zero {l : List UInt8} {N a i : Nat} {m : Msg} (h : Fit l N a i m) (hno : ∀ n : Msg, n.ok → n.bytes = l → m.k = n.k ∧ m.q = n.q ∧ N = n.many ∧ m.ids = n.ids.take i ∧ m.bs = n.bs.take i ∧ l.drop a = encI (n.ids.drop i) ++ encB (n.bs.drop i) → False) : IsParse l Msg.zero 40 :=
  .inr ⟨rfl, rfl, fun n hn hb => hno n hn hb (h n hn hb)⟩
theorem numM_be {l t : List UInt8} {a x : Nat} (hx : x < 4294967296) (h : l.drop a = be 4 x ++ t) : numM l a = x ∧ l.drop (a + 4) = t ∧ a + 4 ≤ l.length := by
  have hl := congrArg List.length h
  rw [List.length_drop, List.length_append, be_length] at hl
  refine ⟨?_, ?_, by omega⟩
  · unfold numM
    rw [if_neg (by omega), h, List.take_left' (be_length _ _), ofBe_be, Nat.mod_eq_of_lt (by simpa using hx)]
  · rw [← List.drop_drop, h]
    exact List.drop_left' (be_length _ _)
section
variable {l : List UInt8} {k q : Int} {N a i : Nat} {m : Msg}
/-- The head is read; the kind counts nothing. -/
theorem Fit.start (h5 : 5 ≤ l.length) (hk : k = ((l[0]'(by omega)).toNat : Int)) (hq : q = numM l 1) (hc : ¬ ((bearsR k).2.2 = 2 ∨ (bearsR k).2.2 = 4)) : Fit l (bearsR k).2.1 5 0 ⟨k, q, [], []⟩ := by
  intro n hn hb
  obtain ⟨e1, e2, e3⟩ := head5 hn hb h5
  rw [e1] at hk
  rw [e2] at hq
  obtain ⟨_, h2, h3, _⟩ := Msg.many_of hn
  have hcn : n.counts = false := by
    unfold Msg.counts Msg.how
    rw [← hk]
    simpa using hc
  rw [hcn] at h3
  refine ⟨hk, hq, ?_, rfl, rfl, ?_⟩
  · rw [hk, h2 hcn]
  · rw [e3, h3]; simp
theorem Fit.count (h5 : 5 ≤ l.length) (hk : k = ((l[0]'(by omega)).toNat : Int)) (hq : q = numM l 1) (hc : (bearsR k).2.2 = 2 ∨ (bearsR k).2.2 = 4) {n : Msg} (hn : n.ok) (hb : n.bytes = l) :
    k = n.k ∧ q = n.q ∧ numM l 5 = n.many ∧ n.many ≤ (bearsR k).2.1 ∧ l.drop 9 = encI n.ids ++ encB n.bs := by
  obtain ⟨e1, e2, e3⟩ := head5 hn hb h5
  rw [e1] at hk
  rw [e2] at hq
  obtain ⟨h1, h2, h3, _, _, h6⟩ := Msg.many_of hn
  have hcn : n.counts = true := by
    unfold Msg.counts Msg.how
    rw [← hk]
    simpa using hc
  rw [hcn, if_pos rfl] at h3
  rw [h3] at e3
  obtain ⟨e4, e5, _⟩ := numM_be (by omega) e3
  exact ⟨hk, hq, e4, by rw [hk]; exact h1, e5⟩
theorem Fit.startN (h5 : 5 ≤ l.length) (hk : k = ((l[0]'(by omega)).toNat : Int)) (hq : q = numM l 1) (hc : (bearsR k).2.2 = 2 ∨ (bearsR k).2.2 = 4) (hN : numM l 5 = (N : Int)) : Fit l N 9 0 ⟨k, q, [], []⟩ := by
  intro n hn hb
  obtain ⟨e1, e2, e3, _, e5⟩ := Fit.count h5 hk hq hc hn hb
  refine ⟨e1, e2, by omega, rfl, rfl, ?_⟩
  rw [e5]; simp
/-- One more name. -/
theorem Fit.name (h : Fit l N a i m) (hh : m.how < 3) (hi : i < N) {n : Msg} (hn : n.ok) (hb : n.bytes = l) : ∃ x : Vec 32, n.ids[i]? = some x ∧ n.bs = [] ∧ l.drop a = x.1 ++ encI (n.ids.drop (i + 1)) := by
  obtain ⟨h1, h2, h3, h4, h5, h6⟩ := h n hn hb
  have hhn : n.how < 3 := by unfold Msg.how at *; rw [← h1]; exact hh
  obtain ⟨_, _, _, k1, _⟩ := Msg.many_of hn
  obtain ⟨kb, km⟩ := k1 hhn
  have hlt : i < n.ids.length := by omega
  refine ⟨n.ids[i], List.getElem?_eq_getElem hlt, kb, ?_⟩
  rw [h6, kb, List.drop_eq_getElem_cons hlt]
  simp only [encI, encB, List.flatMap_cons, List.drop_nil, List.flatMap_nil, List.append_nil]
theorem Fit.nameS (h : Fit l N a i m) (hh : m.how < 3) (hi : i < N) (hs : l.length - a < 32) : IsParse l Msg.zero 40 := by
  refine Fit.zero h fun n hn hb _ => ?_
  obtain ⟨x, _, _, h3⟩ := Fit.name h hh hi hn hb
  have := congrArg List.length h3
  rw [List.length_drop, List.length_append, x.2] at this
  omega
theorem Fit.nameN (h : Fit l N a i m) (hh : m.how < 3) (hi : i < N) {x : Vec 32} (hx : x.1 = (l.drop a).take 32) : Fit l N (a + 32) (i + 1) { m with ids := m.ids ++ [x] } := by
  intro n hn hb
  obtain ⟨h1, h2, h3, h4, h5, h6⟩ := h n hn hb
  obtain ⟨y, g1, g2, g3⟩ := Fit.name h hh hi hn hb
  have hxy : x = y := by
    apply Subtype.ext
    rw [hx, g3, List.take_left' y.2]
  subst hxy
  refine ⟨h1, h2, h3, ?_, ?_, ?_⟩
  · show m.ids ++ [x] = _
    rw [h4, List.take_add_one, g1]; rfl
  · show m.bs = _
    rw [h5, g2]; simp
  · rw [← List.drop_drop, g3, List.drop_left' x.2, g2]; simp [encB]
/-- One more block. -/
theorem Fit.block (h : Fit l N a i m) (hh : 3 ≤ m.how) (hi : i < N) {n : Msg} (hn : n.ok) (hb : n.bytes = l) : ∃ x : List UInt8, n.bs[i]? = some x ∧ x.length ≤ 246 ∧ n.ids = [] ∧ l.drop a = be 4 x.length ++ (x ++ encB (n.bs.drop (i + 1))) := by
  obtain ⟨h1, h2, h3, h4, h5, h6⟩ := h n hn hb
  have hhn : 3 ≤ n.how := by unfold Msg.how at *; rw [← h1]; exact hh
  obtain ⟨_, _, _, _, k1, _⟩ := Msg.many_of hn
  obtain ⟨kb, km⟩ := k1 hhn
  have hlt : i < n.bs.length := by omega
  refine ⟨n.bs[i], List.getElem?_eq_getElem hlt, hn.2.2.2.2 _ (List.getElem_mem _), kb, ?_⟩
  rw [h6, kb, List.drop_eq_getElem_cons hlt]
  simp only [encI, encB, List.flatMap_cons, List.drop_nil, List.flatMap_nil, List.nil_append, List.append_assoc]
theorem Fit.blockS (h : Fit l N a i m) (hh : 3 ≤ m.how) (hi : i < N) (hs : numM l a < 0 ∨ (l.length : Int) - a - 4 < numM l a) : IsParse l Msg.zero 40 := by
  refine Fit.zero h fun n hn hb _ => ?_
  obtain ⟨x, _, h2, _, h3⟩ := Fit.block h hh hi hn hb
  obtain ⟨e1, e2, e3⟩ := numM_be (by omega) h3
  have := congrArg List.length e2
  rw [List.length_drop, List.length_append] at this
  omega
theorem Fit.blockN (h : Fit l N a i m) (hh : 3 ≤ m.how) (hi : i < N) {c : Nat} (hc : numM l a = c) {x : List UInt8} (hx : x = (l.drop (a + 4)).take c) : Fit l N (a + (4 + c)) (i + 1) { m with bs := m.bs ++ [x] } := by
  intro n hn hb
  obtain ⟨h1, h2, h3, h4, h5, h6⟩ := h n hn hb
  obtain ⟨y, g1, gl, g2, g3⟩ := Fit.block h hh hi hn hb
  obtain ⟨e1, e2, e3⟩ := numM_be (by omega) g3
  have hcy : c = y.length := by omega
  have hxy : x = y := by rw [hx, e2, hcy, List.take_left' rfl]
  subst hxy
  refine ⟨h1, h2, h3, ?_, ?_, ?_⟩
  · show m.ids = _
    rw [h4, g2]; simp
  · show m.bs ++ [x] = _
    rw [h5, List.take_add_one, g1]; rfl
  · rw [show a + (4 + c) = a + 4 + c by omega, ← List.drop_drop, e2, hcy, List.drop_left' rfl, g2]; simp [encI]
theorem Fit.all (h : Fit l N a i m) (he : N ≤ i ∨ m.how < 0) {n : Msg} (hn : n.ok) (hb : n.bytes = l) : m = n := by
  obtain ⟨h1, h2, h3, h4, h5, h6⟩ := h n hn hb
  have hhn : n.how = m.how := by unfold Msg.how; rw [h1]
  have h0 := hn.1
  have hi : n.many ≤ i := by omega
  obtain ⟨_, _, _, k1, k2, _⟩ := Msg.many_of hn
  have hii : n.ids.length ≤ i := by
    by_cases hh : n.how < 3
    · have := k1 hh; omega
    · have := k2 (by omega); rw [this.1]; simp
  have hbb : n.bs.length ≤ i := by
    by_cases hh : n.how < 3
    · have := k1 hh; rw [this.1]; simp
    · have := k2 (by omega); omega
  rw [List.take_of_length_le hii] at h4
  rw [List.take_of_length_le hbb] at h5
  cases m; cases n
  simp_all
theorem Fit.parse (h : Fit l N a i m) (he : N ≤ i ∨ m.how < 0) : IsParse l (if m.ok ∧ m.bytes = l then m else Msg.zero) (if m.ok ∧ m.bytes = l then 0 else 40) := by
  by_cases hm : m.ok ∧ m.bytes = l
  · rw [if_pos hm, if_pos hm]; exact .inl ⟨rfl, hm⟩
  · rw [if_neg hm, if_neg hm]
    refine .inr ⟨rfl, rfl, fun n hn hb => hm ?_⟩
    rw [Fit.all h he hn hb]
    exact ⟨hn, hb⟩
end
end Go.Fx
