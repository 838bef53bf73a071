/-
  Whole numbers of the kinds; elements of slices; numbers as bytes.
-/
import Derived.Test.YticmbeincpaaeaaDoorFxJ
set_option linter.unusedVariables false
set_option linter.unusedSimpArgs false
namespace Go.Fx
theorem wi64 {x : Int} (h1 : -9223372036854775808 ≤ x) (h2 : x ≤ 9223372036854775807) : IntKind.i64.wrap x = x := by rw [IntKind.wrap_i64]; omega
theorem wu8 (x : Int) : IntKind.u8.wrap x = x % 256 := by simp [IntKind.wrap, IntKind.bits, IntKind.signed]
theorem wu16 (x : Int) : IntKind.u16.wrap x = x % 65536 := by simp [IntKind.wrap, IntKind.bits, IntKind.signed]
theorem wu32 (x : Int) : IntKind.u32.wrap x = x % 4294967296 := by simp [IntKind.wrap, IntKind.bits, IntKind.signed]
theorem wu64 (x : Int) : IntKind.u64.wrap x = x % 18446744073709551616 := by simp [IntKind.wrap, IntKind.bits, IntKind.signed]
theorem wu8i {x : Int} (h1 : 0 ≤ x) (h2 : x < 256) : IntKind.u8.wrap x = x := by rw [wu8]; omega
theorem wu16i {x : Int} (h1 : 0 ≤ x) (h2 : x < 65536) : IntKind.u16.wrap x = x := by rw [wu16]; omega
theorem wu32i {x : Int} (h1 : 0 ≤ x) (h2 : x < 4294967296) : IntKind.u32.wrap x = x := by rw [wu32]; omega
theorem wu64i {x : Int} (h1 : 0 ≤ x) (h2 : x < 18446744073709551616) : IntKind.u64.wrap x = x := by rw [wu64]; omega
theorem wu8n (n : Nat) : IntKind.u8.wrap (n : Int) = ((n % 256 : Nat) : Int) := by rw [wu8]; omega
theorem wu16n (n : Nat) : IntKind.u16.wrap (n : Int) = ((n % 65536 : Nat) : Int) := by rw [wu16]; omega
theorem wu32n (n : Nat) : IntKind.u32.wrap (n : Int) = ((n % 4294967296 : Nat) : Int) := by rw [wu32]; omega
theorem wu64n (n : Nat) : IntKind.u64.wrap (n : Int) = ((n % 18446744073709551616 : Nat) : Int) := by rw [wu64]; omega
theorem tmodn (a b : Nat) : ((a : Int)).tmod (b : Int) = ((a % b : Nat) : Int) := (Int.ofNat_tmod a b).symm
theorem tdivn (a b : Nat) : ((a : Int)).tdiv (b : Int) = ((a / b : Nat) : Int) := (Int.ofNat_tdiv a b).symm
theorem bv_of (x : Int) (h : 0 ≤ x) : Value.int .u8 (IntKind.u8.wrap x) = bv (UInt8.ofNat x.toNat) := by
  obtain ⟨n, rfl⟩ := Int.eq_ofNat_of_zero_le h
  rw [wu8]
  simp only [bv, Int.toNat_natCast, UInt8.toNat_ofNat']
  congr 1

/-! ### Elements -/
theorem Cel.elem {h : Heap} {v : Value} {n : Nat} {cs : List Value} (hc : Cel h v 1 n cs) {j : Nat} {u : Value} (hj : cs[j]? = some u) :
    ∃ g o c cur t fr, v = .slice (some ⟨g, o, none⟩) n c ∧ h[g]? = some (.cells cur t fr) ∧ cur[o + j]? = some u ∧ j < n := by
  obtain ⟨a, c, rfl, hl, hh⟩ := hc
  have hlt := (List.getElem?_eq_some_iff.1 hj).1
  rcases hh with h0 | ⟨g, o, cur, t, fr, rfl, hg, hcs⟩
  · omega
  · refine ⟨g, o, c, cur, t, fr, rfl, hg, ?_, by omega⟩
    rw [← hcs, List.getElem?_take] at hj
    split at hj
    · simpa using hj
    · cases hj
/-- 'x[j]', read. -/
theorem ldx {w : World} {v : Value} {n : Nat} {cs : List Value} (hc : Cel w.heap v 1 n cs) {k : IntKind} {j : Nat} {u : Value} (hj : cs[j]? = some u) {K : Value → Prop} (h : K u) :
    ixs 1 v (.int k (j : Int)) fun t => ld1 t w.heap K := by
  obtain ⟨g, o, c, cur, t, fr, rfl, hg, hu, hlt⟩ := hc.elem hj
  rw [ixs_mk _ _ _ _ _ _ _ _ (by omega) (by omega), Int.toNat_natCast, Nat.mul_one]
  exact ld1_i hg hu h
/-- 'x[j] = u', x owned. -/
theorem stx {w : World} {v : Value} {n : Nat} {cs : List Value} {F : List Nat} (ho : Own w.heap v 1 n cs F) {k : IntKind} {j : Nat} (hj : j < n) {u : Value} (hu : u.oneCell' = true) {K : World → Prop}
    (h : ∀ w', Own w'.heap v 1 n (cs.set j u) F → Fr F w w' → K w') : ixs 1 v (.int k (j : Int)) fun t => st1 t u w K := by
  obtain ⟨hl, ⟨rfl, rfl, rfl⟩ | ⟨g, o, cap, cur, E, rfl, hn, hg, hfit, hcs, rfl⟩⟩ := ho
  · omega
  · rw [ixs_mk _ _ _ _ _ _ _ _ (by omega) (by omega), Int.toNat_natCast, Nat.mul_one]
    refine st1_i hg (by omega) hu fun w' hg' hf => h w' ⟨by simpa using hl, .inr ⟨g, o, cap, _, E, rfl, hn, hg', by simpa using hfit, ?_, rfl⟩⟩ hf
    rw [← hcs]
    simp only [Array.toList_setIfInBounds, List.drop_set, Nat.mul_one]
    rw [if_neg (by omega), Nat.add_sub_cancel_left, List.take_set]
theorem ldxB {w : World} {v : Value} {l : List UInt8} (hc : RdB w.heap v l) {k : IntKind} {j : Nat} (hj : j < l.length) {K : Value → Prop} (h : K (bv l[j])) : ixs 1 v (.int k (j : Int)) fun t => ld1 t w.heap K :=
  ldx hc (u := bv l[j]) (by simp [bvs, hj]) h
theorem stxB {w : World} {v : Value} {l : List UInt8} {F : List Nat} (ho : OwnB w.heap v l F) {k : IntKind} {j : Nat} (hj : j < l.length) (b : UInt8) {K : World → Prop}
    (h : ∀ w', OwnB w'.heap v (l.set j b) F → Fr F w w' → K w') : ixs 1 v (.int k (j : Int)) fun t => st1 t (bv b) w K := by
  refine stx ho hj rfl fun w' h1 h2 => h w' ?_ h2
  unfold OwnB
  rw [List.length_set, show bvs (l.set j b) = (bvs l).set j (bv b) by simp [bvs]]
  exact h1

/-! ### Numbers as bytes, the highest first -/
def be : Nat → Nat → List UInt8
  | 0, _ => []
  | n + 1, v => be n (v / 256) ++ [UInt8.ofNat v]
theorem be_length : ∀ n v, (be n v).length = n
  | 0, _ => rfl
  | n + 1, v => by simp [be, be_length n]
theorem be_cons : ∀ n v, be (n + 1) v = UInt8.ofNat (v / 256 ^ n) :: be n v
  | 0, v => by simp [be]
  | n + 1, v => by
    rw [be, be_cons n, be]
    simp only [List.cons_append, List.cons.injEq, and_true]
    rw [Nat.div_div_eq_div_mul, Nat.pow_succ, Nat.mul_comm]
theorem be_mod : ∀ n v, be n (v % 256 ^ n) = be n v
  | 0, _ => rfl
  | n + 1, v => by
    have h1 : v % 256 ^ (n + 1) / 256 = v / 256 % 256 ^ n := by
      rw [Nat.pow_succ, Nat.mul_comm, Nat.mod_mul_right_div_self]
    have h2 : UInt8.ofNat (v % 256 ^ (n + 1)) = UInt8.ofNat v := by
      apply UInt8.toNat_inj.1
      simp only [UInt8.toNat_ofNat']
      rw [Nat.pow_succ]
      exact Nat.mod_mod_of_dvd _ ⟨256 ^ n, by simp [Nat.mul_comm]⟩
    rw [be, be, h1, h2, be_mod n]
theorem shr8 (v i : Nat) (h : i < 8) : (v : Int).fdiv (2 ^ (min ((8 * (i : Int)).toNat) 64)) = ((v / 256 ^ i : Nat) : Int) := by
  have h1 : min ((8 * (i : Int)).toNat) 64 = 8 * i := by omega
  have h2 : (2 : Int) ^ (8 * i) = ((256 ^ i : Nat) : Int) := by
    rw [Int.pow_mul]
    simp
  rw [h1, h2, Int.ofNat_fdiv]
def ofBe (l : List UInt8) : Nat := l.foldl (fun v b => 256 * v + b.toNat) 0
theorem ofBe_snoc (l : List UInt8) (b : UInt8) : ofBe (l ++ [b]) = 256 * ofBe l + b.toNat := by simp [ofBe]
theorem ofBe_be : ∀ n v, ofBe (be n v) = v % 256 ^ n
  | 0, v => by simp [be, ofBe, Nat.mod_one]
  | n + 1, v => by
    have h : v % 256 ^ (n + 1) = 256 * (v / 256 % 256 ^ n) + v % 256 := by rw [Nat.pow_succ, Nat.mul_comm, Nat.mod_mul]; omega
    rw [be, ofBe_snoc, ofBe_be n, UInt8.toNat_ofNat', h]
theorem rev_ind {α : Type} {C : List α → Prop} (h0 : C []) (h1 : ∀ l a, C l → C (l ++ [a])) (l : List α) : C l := by
  have : ∀ m : List α, C m.reverse := by
    intro m
    induction m with
    | nil => exact h0
    | cons a m ih => simpa using h1 _ a ih
  simpa using this l.reverse
theorem ofBe_lt (l : List UInt8) : ofBe l < 256 ^ l.length := by
  induction l using rev_ind with
  | h0 => simp [ofBe]
  | h1 l b ih =>
    rw [ofBe_snoc, List.length_append, List.length_singleton, Nat.pow_succ]
    have := b.toNat_lt
    omega
theorem be_ofBe (l : List UInt8) : be l.length (ofBe l) = l := by
  induction l using rev_ind with
  | h0 => rfl
  | h1 l b ih =>
    rw [List.length_append, List.length_singleton, ofBe_snoc, be]
    have hb := b.toNat_lt
    have h1 : (256 * ofBe l + b.toNat) / 256 = ofBe l := by omega
    have h2 : UInt8.ofNat (256 * ofBe l + b.toNat) = b := by
      apply UInt8.toNat_inj.1
      simp only [UInt8.toNat_ofNat']
      omega
    rw [h1, h2, ih]
end Go.Fx
