/-
  The message of bytes: the program's.
-/
import Derived.Test.YtaodibbogbkgdaaMgJ
set_option linter.unusedVariables false
set_option linter.unusedSimpArgs false
namespace Go.Fx
theorem encI_snoc (l : List (Vec 32)) (x : Vec 32) : encI (l ++ [x]) = encI l ++ x.1 := by unfold encI; simp
theorem encB_snoc (l : List (List UInt8)) (x : List UInt8) : encB (l ++ [x]) = encB l ++ (be 4 x.length ++ x) := by unfold encB; simp
theorem stI_ok (b : List UInt8) (e : Int) : ∀ n, (stI b e n).2.2 = 0 → e = 0 ∧ b = encI (stI b e n).1 ++ (stI b e n).2.1
  | 0, h => ⟨h, by simp [stI, encI]⟩
  | n + 1, h => by
    rw [stI] at h ⊢
    obtain ⟨h1, h2, h3⟩ := tk_ok (show (tk 32 (stI b e n).2.1 (stI b e n).2.2).2.2 = 0 from h)
    obtain ⟨h4, h5⟩ := stI_ok b e n h1
    refine ⟨h4, ?_⟩
    simp only [h3]
    have hv : (vecP ((stI b e n).2.1.take 32)).1 = (stI b e n).2.1.take 32 := vecP_of (by simp; omega)
    rw [encI_snoc, hv, List.append_assoc, List.take_append_drop]
    exact h5
theorem stB_ok (b : List UInt8) (e : Int) : ∀ n, (stB b e n).2.2 = 0 → e = 0 ∧ b = encB (stB b e n).1 ++ (stB b e n).2.1
  | 0, h => ⟨h, by simp [stB, encB]⟩
  | n + 1, h => by
    rw [stB] at h ⊢
    obtain ⟨h1, h2, h3, h4, h5⟩ := ct_ok (show (ct 246 (stB b e n).2.1 (stB b e n).2.2).2.2 = 0 from h)
    obtain ⟨h6, h7⟩ := stB_ok b e n h1
    refine ⟨h6, ?_⟩
    simp only [h5]
    generalize (stB b e n).2.1 = r at *
    have hl : ((r.drop 4).take (ofBe (r.take 4))).length = ofBe (r.take 4) := by simp; omega
    have hbe : be 4 (ofBe (r.take 4)) = r.take 4 := by
      have h4l : (r.take 4).length = 4 := by simp; omega
      have := be_ofBe (r.take 4)
      rwa [h4l] at this
    rw [encB_snoc, hl, hbe, List.append_assoc, List.append_assoc, List.take_append_drop, List.take_append_drop]
    exact h7
theorem stI_app (ids : List (Vec 32)) (r : List UInt8) : ∀ i, i ≤ ids.length → stI (encI ids ++ r) 0 i = (ids.take i, encI (ids.drop i) ++ r, 0)
  | 0, _ => by simp [stI]
  | i + 1, h => by
    rw [stI, stI_app ids r i (by omega)]
    have hx := List.getElem?_eq_getElem (show i < ids.length by omega)
    have e : encI (ids.drop i) ++ r = ids[i].1 ++ (encI (ids.drop (i + 1)) ++ r) := by
      have e0 : ids.drop i = ids[i] :: ids.drop (i + 1) := List.drop_eq_getElem_cons _
      rw [e0]
      unfold encI
      rw [List.flatMap_cons, List.append_assoc]
    simp only [e]
    rw [tk_app ids[i].2]
    have hv : vecP ids[i].1 = ids[i] := Subtype.ext (vecP_of ids[i].2)
    rw [hv, List.take_add_one, hx]
    rfl
theorem stB_app (bs : List (List UInt8)) (r : List UInt8) (hb : ∀ b ∈ bs, b.length ≤ 246) : ∀ i, i ≤ bs.length → stB (encB bs ++ r) 0 i = (bs.take i, encB (bs.drop i) ++ r, 0)
  | 0, _ => by simp [stB]
  | i + 1, h => by
    rw [stB, stB_app bs r hb i (by omega)]
    have hx := List.getElem?_eq_getElem (show i < bs.length by omega)
    have hxl := hb bs[i] (List.getElem_mem _)
    have e : encB (bs.drop i) ++ r = be 4 bs[i].length ++ (bs[i] ++ (encB (bs.drop (i + 1)) ++ r)) := by
      have e0 : bs.drop i = bs[i] :: bs.drop (i + 1) := List.drop_eq_getElem_cons _
      rw [e0]
      unfold encB
      rw [List.flatMap_cons, List.append_assoc, List.append_assoc]
    simp only [e]
    have hl4 := be_length 4 bs[i].length
    have hv : ofBe (be 4 bs[i].length) = bs[i].length := by rw [ofBe_be, Nat.mod_eq_of_lt (by omega)]
    have hct : ct 246 (be 4 bs[i].length ++ (bs[i] ++ (encB (bs.drop (i + 1)) ++ r))) 0 = (bs[i], encB (bs.drop (i + 1)) ++ r, 0) := by
      unfold ct
      rw [if_pos rfl, List.take_left' hl4, List.drop_left' hl4, hv, if_neg (by simp [hl4]), if_neg (by omega), if_neg (by simp [hl4])]
      exact tk_app rfl
    rw [hct, List.take_add_one, hx]
    rfl
theorem ok_fits {m : Msg} (h : m.ok) : fitsM (kbody m.k) m.ids.length m.bs.length = true := by rw [body_fits m h.1, decide_eq_true h.2.2.2.1]
theorem ok_body {m : Msg} (h : m.ok) : kbody m.k ≠ .nil := fun hn => by
  have := body_nil m.k
  rw [hn] at this
  have h2 : decide (¬ 0 ≤ (bearsR m.k).2.2) = true := this.symm
  simp at h2
  have h3 := h.1
  unfold Msg.how at h3
  omega
theorem counts_kb (m : Msg) : m.counts = ((kbody m.k).isNames || ((kbody m.k).isBlocks && !(kbody m.k).one)) := (counts_body m.k).symm
def K0 (l : List UInt8) := tk 1 l 0
def K1 (l : List UInt8) := tk 4 (K0 l).2.1 (K0 l).2.2
def RD (l : List UInt8) := readM (ofBe (K0 l).1) (ofBe (K1 l).1) (K1 l).2.1 (K1 l).2.2
theorem zero_no : ¬ Msg.zero.ok := by decide
theorem rd_sound {l : List UInt8} (h : uend (RD l).2.1 (RD l).2.2 = 0) (hok : (RD l).1.ok) : (RD l).1.bytes = l := by
  obtain ⟨he, hb⟩ := uend_ok h
  -- the head
  have hd : (K1 l).2.2 = 0 → ∃ x0 x1 : List UInt8, x0.length = 1 ∧ x1.length = 4 ∧ l = x0 ++ (x1 ++ (K1 l).2.1) ∧ (K0 l).1 = x0 ∧ (K1 l).1 = x1 := fun h1 => by
    obtain ⟨h2, h3, h4⟩ := tk_ok (show (tk 4 (K0 l).2.1 (K0 l).2.2).2.2 = 0 from h1)
    obtain ⟨_, h6, h7⟩ := tk_ok (show (tk 1 l 0).2.2 = 0 from h2)
    have E0 : K0 l = (l.take 1, l.drop 1, 0) := h7
    have E1 : K1 l = ((l.drop 1).take 4, (l.drop 1).drop 4, 0) := by
      show tk 4 (K0 l).2.1 (K0 l).2.2 = _
      rw [h4, E0]
    have h3 : 4 ≤ (l.drop 1).length := by rw [E0] at h3; exact h3
    refine ⟨l.take 1, (l.drop 1).take 4, by simp; omega, by rw [List.length_take]; omega, ?_, by rw [E0], by rw [E1]⟩
    rw [E1, List.take_append_drop, List.take_append_drop]
  -- the bytes of a message that is read
  have mk : ∀ (x0 x1 : List UInt8) (ids : List (Vec 32)) (bs : List (List UInt8)) (num : List UInt8), x0.length = 1 → x1.length = 4 →
      (⟨(ofBe x0 : Nat), (ofBe x1 : Nat), ids, bs⟩ : Msg).num = num → (⟨(ofBe x0 : Nat), (ofBe x1 : Nat), ids, bs⟩ : Msg).bytes = x0 ++ (x1 ++ (num ++ (encI ids ++ encB bs))) := fun x0 x1 ids bs num h0 h1 hn => by
    unfold Msg.bytes
    rw [hn]
    simp only [Int.toNat_natCast]
    have e0 : be 1 (ofBe x0) = x0 := by rw [← h0]; exact be_ofBe x0
    have e1 : be 4 (ofBe x1) = x1 := by rw [← h1]; exact be_ofBe x1
    rw [e0, e1]
  have hbody := ok_body hok
  have hcnt := counts_kb (RD l).1
  generalize hR : RD l = r at *
  have hR0 := hR
  unfold RD readM at hR
  generalize hk : ofBe (K0 l).1 = k at *
  generalize hq : ofBe (K1 l).1 = q at *
  cases hkb : kbody (k : Int) with
  | nil =>
    rw [hkb] at hR
    subst hR
    exact absurd hkb hbody
  | nothing =>
    rw [hkb] at hR
    subst hR
    simp only at he hb hcnt ⊢
    obtain ⟨x0, x1, h0, h1, hl, e0, e1⟩ := hd he
    rw [hkb] at hcnt
    have hn : (⟨(k : Int), (q : Int), [], []⟩ : Msg).num = [] := by unfold Msg.num; rw [hcnt]; rfl
    have := mk x0 x1 [] [] [] h0 h1 (by rw [← e0, ← e1, hk, hq]; exact hn)
    rw [← e0, ← e1, hk, hq, e0, e1] at this
    rw [this, hl, hb]
    simp [encI, encB]
  | some n =>
    rw [hkb] at hR
    subst hR
    simp only at he hb hcnt ⊢
    obtain ⟨h2, h3⟩ := stI_ok _ _ _ he
    obtain ⟨x0, x1, h0, h1, hl, e0, e1⟩ := hd h2
    rw [hkb] at hcnt
    rw [hb] at h3
    generalize (stI (K1 l).2.1 (K1 l).2.2 n.toNat).1 = ids at *
    have hn : (⟨(k : Int), (q : Int), ids, []⟩ : Msg).num = [] := by unfold Msg.num; rw [hcnt]; rfl
    have := mk x0 x1 ids [] [] h0 h1 (by rw [← e0, ← e1, hk, hq]; exact hn)
    rw [← e0, ← e1, hk, hq, e0, e1] at this
    rw [this, hl, h3]
    simp [encB]
  | names =>
    rw [hkb] at hR
    simp only at hR
    by_cases h32 : 32 < ofBe (tk 4 (K1 l).2.1 (K1 l).2.2).1
    · rw [if_pos h32] at hR
      subst hR
      exact absurd hok zero_no
    · rw [if_neg h32] at hR
      subst hR
      simp only at he hb hcnt ⊢
      obtain ⟨h2, h3⟩ := stI_ok _ _ _ he
      obtain ⟨h4, h5, h6⟩ := tk_ok h2
      obtain ⟨x0, x1, h0, h1, hl, e0, e1⟩ := hd h4
      rw [hkb] at hcnt
      rw [hb] at h3
      have hil := stI_len (tk 4 (K1 l).2.1 (K1 l).2.2).2.1 (tk 4 (K1 l).2.1 (K1 l).2.2).2.2 (ofBe (tk 4 (K1 l).2.1 (K1 l).2.2).1)
      generalize (stI (tk 4 (K1 l).2.1 (K1 l).2.2).2.1 (tk 4 (K1 l).2.1 (K1 l).2.2).2.2 (ofBe (tk 4 (K1 l).2.1 (K1 l).2.2).1)).1 = ids at *
      rw [h6] at hil h3
      simp only at hil h3
      have h4l : ((K1 l).2.1.take 4).length = 4 := by rw [List.length_take]; omega
      have hbe : be 4 (ofBe ((K1 l).2.1.take 4)) = (K1 l).2.1.take 4 := by
        have := be_ofBe ((K1 l).2.1.take 4)
        rwa [h4l] at this
      have hn : (⟨(k : Int), (q : Int), ids, []⟩ : Msg).num = (K1 l).2.1.take 4 := by
        unfold Msg.num
        rw [hcnt]
        show be 4 (ids.length + 0) = _
        rw [hil, Nat.add_zero, hbe]
      have := mk x0 x1 ids [] _ h0 h1 rfl
      rw [← e0, ← e1, hk, hq, e0, e1] at this
      have h7 : (K1 l).2.1 = (K1 l).2.1.take 4 ++ encI ids := by
        conv => lhs; rw [← List.take_append_drop 4 (K1 l).2.1, h3]
        simp
      rw [this, hl]
      congr 2
      rw [hn]
      conv => rhs; rw [h7]
      simp [encB]
  | blocks o =>
    rw [hkb] at hR
    cases o with
    | true =>
      subst hR
      simp only at he hb hcnt ⊢
      obtain ⟨h2, h3⟩ := stB_ok _ _ _ he
      obtain ⟨x0, x1, h0, h1, hl, e0, e1⟩ := hd h2
      rw [hkb] at hcnt
      rw [hb] at h3
      generalize (stB (K1 l).2.1 (K1 l).2.2 1).1 = bs at *
      have hn : (⟨(k : Int), (q : Int), [], bs⟩ : Msg).num = [] := by unfold Msg.num; rw [hcnt]; rfl
      have := mk x0 x1 [] bs [] h0 h1 (by rw [← e0, ← e1, hk, hq]; exact hn)
      rw [← e0, ← e1, hk, hq, e0, e1] at this
      rw [this, hl, h3]
      simp [encI]
    | false =>
      simp only at hR
      by_cases h32 : 32 < ofBe (tk 4 (K1 l).2.1 (K1 l).2.2).1
      · rw [if_pos h32] at hR
        subst hR
        exact absurd hok zero_no
      · rw [if_neg h32] at hR
        subst hR
        simp only at he hb hcnt ⊢
        obtain ⟨h2, h3⟩ := stB_ok _ _ _ he
        obtain ⟨h4, h5, h6⟩ := tk_ok h2
        obtain ⟨x0, x1, h0, h1, hl, e0, e1⟩ := hd h4
        rw [hkb] at hcnt
        rw [hb] at h3
        have hil := stB_len (tk 4 (K1 l).2.1 (K1 l).2.2).2.1 (tk 4 (K1 l).2.1 (K1 l).2.2).2.2 (ofBe (tk 4 (K1 l).2.1 (K1 l).2.2).1)
        generalize (stB (tk 4 (K1 l).2.1 (K1 l).2.2).2.1 (tk 4 (K1 l).2.1 (K1 l).2.2).2.2 (ofBe (tk 4 (K1 l).2.1 (K1 l).2.2).1)).1 = bs at *
        rw [h6] at hil h3
        simp only at hil h3
        have h4l : ((K1 l).2.1.take 4).length = 4 := by rw [List.length_take]; omega
        have hbe : be 4 (ofBe ((K1 l).2.1.take 4)) = (K1 l).2.1.take 4 := by
          have := be_ofBe ((K1 l).2.1.take 4)
          rwa [h4l] at this
        have hn : (⟨(k : Int), (q : Int), [], bs⟩ : Msg).num = (K1 l).2.1.take 4 := by
          unfold Msg.num
          rw [hcnt]
          show be 4 (0 + bs.length) = _
          rw [hil, Nat.zero_add, hbe]
        have := mk x0 x1 [] bs _ h0 h1 rfl
        rw [← e0, ← e1, hk, hq, e0, e1] at this
        have h7 : (K1 l).2.1 = (K1 l).2.1.take 4 ++ encB bs := by
          conv => lhs; rw [← List.take_append_drop 4 (K1 l).2.1, h3]
          simp
        rw [this, hl]
        congr 2
        rw [hn]
        conv => rhs; rw [h7]
        simp [encI]
theorem rd_complete {n : Msg} (hok : n.ok) : RD n.bytes = (n, [], 0) := by
  have hk := Msg.kinds hok.1
  have hq := hok.2.1
  have hq2 := hok.2.2.1
  have hf := ok_fits hok
  have hcnt := counts_kb n
  have hbody := ok_body hok
  have E0 : K0 n.bytes = (be 1 n.k.toNat, be 4 n.q.toNat ++ (n.num ++ (encI n.ids ++ encB n.bs)), 0) := tk_app (be_length 1 _)
  have E1 : K1 n.bytes = (be 4 n.q.toNat, n.num ++ (encI n.ids ++ encB n.bs), 0) := by
    show tk 4 (K0 n.bytes).2.1 (K0 n.bytes).2.2 = _
    rw [E0]
    exact tk_app (be_length 4 _)
  have ek : ((ofBe (be 1 n.k.toNat) : Nat) : Int) = n.k := by
    rw [ofBe_be, Nat.mod_eq_of_lt (by simp; omega)]; omega
  have eq : ((ofBe (be 4 n.q.toNat) : Nat) : Int) = n.q := by
    rw [ofBe_be, Nat.mod_eq_of_lt (by simp; omega)]; omega
  unfold RD
  rw [E0, E1]
  simp only [ek, eq]
  have hI : ∀ r, stI (encI n.ids ++ r) 0 n.ids.length = (n.ids, r, 0) := fun r => by
    rw [stI_app _ _ _ (Nat.le_refl _), List.take_length, List.drop_length]; rfl
  have hB : stB (encB n.bs) 0 n.bs.length = (n.bs, [], 0) := by
    have := stB_app n.bs [] hok.2.2.2.2 n.bs.length (Nat.le_refl _)
    rw [List.append_nil, List.take_length, List.drop_length] at this
    exact this
  unfold readM
  cases hkb : kbody n.k with
  | nil => exact absurd hkb hbody
  | nothing =>
    rw [hkb] at hf hcnt
    simp only [fitsM, Bool.and_eq_true, beq_iff_eq] at hf
    have h1 : n.ids = [] := List.eq_nil_of_length_eq_zero hf.1
    have h2 : n.bs = [] := List.eq_nil_of_length_eq_zero hf.2
    have h3 : n.num = [] := by unfold Msg.num; rw [hcnt]; rfl
    simp only [h1, h2, h3]
    obtain ⟨a, b, c, d⟩ := n
    simp only at h1 h2
    subst h1; subst h2
    rfl
  | some s =>
    rw [hkb] at hf hcnt
    simp only [fitsM, Bool.and_eq_true, beq_iff_eq] at hf
    have h2 : n.bs = [] := List.eq_nil_of_length_eq_zero hf.2
    have h3 : n.num = [] := by unfold Msg.num; rw [hcnt]; rfl
    have h4 : s.toNat = n.ids.length := by omega
    simp only [h3, h4, List.nil_append, hI, h2]
    obtain ⟨a, b, c, d⟩ := n
    simp only at h2
    subst h2
    rfl
  | names =>
    rw [hkb] at hf hcnt
    simp only [fitsM, Bool.and_eq_true, beq_iff_eq, decide_eq_true_eq] at hf
    have h2 : n.bs = [] := List.eq_nil_of_length_eq_zero hf.2
    have h3 : n.num = be 4 n.ids.length := by unfold Msg.num; rw [hcnt, hf.2]; rfl
    have ht : tk 4 (n.num ++ (encI n.ids ++ encB n.bs)) 0 = (be 4 n.ids.length, encI n.ids ++ encB n.bs, 0) := by rw [h3]; exact tk_app (be_length 4 _)
    have h4 : ofBe (be 4 n.ids.length) = n.ids.length := by rw [ofBe_be, Nat.mod_eq_of_lt (by omega)]
    simp only [ht, h4, if_neg (show ¬ 32 < n.ids.length by omega), hI]
    clear ht h4 h3 hI hB
    obtain ⟨a, b, c, d⟩ := n
    simp only at h2
    subst h2
    rfl
  | blocks o =>
    rw [hkb] at hf hcnt
    simp only [fitsM, Bool.and_eq_true, beq_iff_eq, decide_eq_true_eq] at hf
    have h1 : n.ids = [] := List.eq_nil_of_length_eq_zero hf.1.1
    have he : encI n.ids ++ encB n.bs = encB n.bs := by rw [h1]; rfl
    cases o with
    | true =>
      have h5 : n.bs.length = 1 := by simpa using hf.2
      have h3 : n.num = [] := by unfold Msg.num; rw [hcnt]; rfl
      rw [h5] at hB
      simp only [h3, List.nil_append, he, hB]
      obtain ⟨a, b, c, d⟩ := n
      simp only at h1
      subst h1
      rfl
    | false =>
      have h3 : n.num = be 4 n.bs.length := by unfold Msg.num; rw [hcnt, hf.1.1]; simp [Body.isNames, Body.isBlocks, Body.one]
      have ht : tk 4 (n.num ++ (encI n.ids ++ encB n.bs)) 0 = (be 4 n.bs.length, encB n.bs, 0) := by rw [h3, he]; exact tk_app (be_length 4 _)
      have h4 : ofBe (be 4 n.bs.length) = n.bs.length := by rw [ofBe_be, Nat.mod_eq_of_lt (by omega)]
      simp only [ht, h4, if_neg (show ¬ 32 < n.bs.length by omega), hB]
      obtain ⟨a, b, c, d⟩ := n
      simp only at h1
      subst h1
      rfl
end Go.Fx
