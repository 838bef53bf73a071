/-
  SHA-256 as a plain function.
-/
import Derived.Test.YticmbeincpaaeaaDoorShA
set_option linter.unusedVariables false
set_option linter.unusedSimpArgs false
namespace Go.Fx
def rotr (x : W32) (n : Nat) : W32 := x <<< (32 - n) ||| x >>> n
def word4 (a b c d : UInt8) : W32 := BitVec.ofNat 32 (((a.toNat * 256 + b.toNat) * 256 + c.toNat) * 256 + d.toNat)
def wd (b : List UInt8) (t : Nat) : W32 := word4 (b.getD (4 * t) 0) (b.getD (4 * t + 1) 0) (b.getD (4 * t + 2) 0) (b.getD (4 * t + 3) 0)
def bw (b : UInt8) : W32 := BitVec.ofNat 32 b.toNat
theorem or_lt {a b n : Nat} (hb : b < 2 ^ n) : a * 2 ^ n ||| b = a * 2 ^ n + b := by
  rw [Nat.mul_comm, ← Nat.two_pow_add_eq_or_of_lt hb]
theorem bw_nat (b : UInt8) : (bw b).toNat = b.toNat := by
  have := b.toNat_lt
  unfold bw
  rw [BitVec.toNat_ofNat, Nat.mod_eq_of_lt (by omega)]
theorem word4_or (a b c d : UInt8) : bw a <<< 24 ||| bw b <<< 16 ||| bw c <<< 8 ||| bw d = word4 a b c d := by
  have ha := a.toNat_lt; have hb := b.toNat_lt; have hc := c.toNat_lt; have hd := d.toNat_lt
  apply BitVec.eq_of_toNat_eq
  unfold word4
  simp only [BitVec.toNat_or, BitVec.toNat_shiftLeft, bw_nat, Nat.shiftLeft_eq, BitVec.toNat_ofNat]
  rw [Nat.mod_eq_of_lt (show a.toNat * 2 ^ 24 < 2 ^ 32 by omega), Nat.mod_eq_of_lt (show b.toNat * 2 ^ 16 < 2 ^ 32 by omega), Nat.mod_eq_of_lt (show c.toNat * 2 ^ 8 < 2 ^ 32 by omega), Nat.mod_eq_of_lt (show ((a.toNat * 256 + b.toNat) * 256 + c.toNat) * 256 + d.toNat < 2 ^ 32 by omega)]
  rw [or_lt (show b.toNat * 2 ^ 16 < 2 ^ 24 by omega)]
  rw [show a.toNat * 2 ^ 24 + b.toNat * 2 ^ 16 = (a.toNat * 256 + b.toNat) * 2 ^ 16 by omega, or_lt (show c.toNat * 2 ^ 8 < 2 ^ 16 by omega)]
  rw [show (a.toNat * 256 + b.toNat) * 2 ^ 16 + c.toNat * 2 ^ 8 = ((a.toNat * 256 + b.toNat) * 256 + c.toNat) * 2 ^ 8 by omega, or_lt (show d.toNat < 2 ^ 8 by omega)]
theorem word4_sum (a b c d : UInt8) : (((0 * 256 + bw a) * 256 + bw b) * 256 + bw c) * 256 + bw d = word4 a b c d := by
  apply BitVec.eq_of_toNat_eq
  unfold word4
  simp only [BitVec.toNat_add, BitVec.toNat_mul, bw_nat, BitVec.toNat_ofNat]
  have h0 : (0 : W32).toNat = 0 := rfl
  have h1 : (256 : W32).toNat = 256 := rfl
  rw [h0, h1]
  omega
def sg0 (x : W32) : W32 := rotr x 7 ^^^ rotr x 18 ^^^ x >>> 3
def sg1 (y : W32) : W32 := rotr y 17 ^^^ rotr y 19 ^^^ y >>> 10
def nextW (b : List UInt8) (w : List W32) (t : Nat) : W32 := if t < 16 then wd b t else sg1 (w.getD (t - 2) 0) + w.getD (t - 7) 0 + sg0 (w.getD (t - 15) 0) + w.getD (t - 16) 0
def sch (b : List UInt8) : Nat → List W32
  | 0 => List.replicate 64 0
  | t + 1 => (sch b t).set t (nextW b (sch b t) t)
theorem sch_len (b : List UInt8) : ∀ t, (sch b t).length = 64
  | 0 => List.length_replicate
  | t + 1 => by rw [sch, List.length_set, sch_len b t]
theorem sch_zero (b : List UInt8) : ∀ t j, t ≤ j → (sch b t).getD j 0 = 0
  | 0, j, _ => by
    unfold sch
    rw [List.getD_eq_getElem?_getD, List.getElem?_replicate]
    split <;> rfl
  | t + 1, j, h => by
    have := sch_zero b t j (by omega)
    rw [sch, List.getD_eq_getElem?_getD, List.getElem?_set_ne (by omega), ← List.getD_eq_getElem?_getD]
    exact this
def cubesL : List W32 := [0x428a2f98, 0x71374491, 0xb5c0fbcf, 0xe9b5dba5, 0x3956c25b, 0x59f111f1, 0x923f82a4, 0xab1c5ed5, 0xd807aa98, 0x12835b01, 0x243185be, 0x550c7dc3, 0x72be5d74, 0x80deb1fe, 0x9bdc06a7, 0xc19bf174, 0xe49b69c1, 0xefbe4786, 0x0fc19dc6, 0x240ca1cc, 0x2de92c6f, 0x4a7484aa, 0x5cb0a9dc, 0x76f988da, 0x983e5152, 0xa831c66d, 0xb00327c8, 0xbf597fc7, 0xc6e00bf3, 0xd5a79147, 0x06ca6351, 0x14292967, 0x27b70a85, 0x2e1b2138, 0x4d2c6dfc, 0x53380d13, 0x650a7354, 0x766a0abb, 0x81c2c92e, 0x92722c85, 0xa2bfe8a1, 0xa81a664b, 0xc24b8b70, 0xc76c51a3, 0xd192e819, 0xd6990624, 0xf40e3585, 0x106aa070, 0x19a4c116, 0x1e376c08, 0x2748774c, 0x34b0bcb5, 0x391c0cb3, 0x4ed8aa4a, 0x5b9cca4f, 0x682e6ff3, 0x748f82ee, 0x78a5636f, 0x84c87814, 0x8cc70208, 0x90befffa, 0xa4506ceb, 0xbef9a3f7, 0xc67178f2]
def firstL : List W32 := [0x6a09e667, 0xbb67ae85, 0x3c6ef372, 0xa54ff53a, 0x510e527f, 0x9b05688c, 0x1f83d9ab, 0x5be0cd19]
def t1M (k w e v5 v6 v7 : W32) : W32 := v7 + (rotr e 6 ^^^ rotr e 11 ^^^ rotr e 25) + ((e &&& v5) ^^^ (~~~e &&& v6)) + k + w
def t2M (a v1 v2 : W32) : W32 := (rotr a 2 ^^^ rotr a 13 ^^^ rotr a 22) + ((a &&& v1) ^^^ (a &&& v2) ^^^ (v1 &&& v2))
def rnd (k w : W32) (v : List W32) : List W32 :=
  let t1 := t1M k w (v.getD 4 0) (v.getD 5 0) (v.getD 6 0) (v.getD 7 0)
  [t1 + t2M (v.getD 0 0) (v.getD 1 0) (v.getD 2 0), v.getD 0 0, v.getD 1 0, v.getD 2 0, v.getD 3 0 + t1, v.getD 4 0, v.getD 5 0, v.getD 6 0]
def rns (b : List UInt8) (h : List W32) : Nat → List W32
  | 0 => h
  | t + 1 => rnd (cubesL.getD t 0) ((sch b 64).getD t 0) (rns b h t)
theorem rns_len (b : List UInt8) {h : List W32} (hh : h.length = 8) : ∀ t, (rns b h t).length = 8
  | 0 => hh
  | t + 1 => rfl
def mixM (h : List W32) (b : List UInt8) : List W32 := List.zipWith (· + ·) h (rns b h 64)
theorem mixM_len (b : List UInt8) {h : List W32} (hh : h.length = 8) : (mixM h b).length = 8 := by
  unfold mixM
  rw [List.length_zipWith, rns_len b hh, hh]
  rfl
def foldM (h : List W32) (l : List UInt8) : List W32 := if 64 ≤ l.length then foldM (mixM h (l.take 64)) (l.drop 64) else h
  termination_by l.length
  decreasing_by simp; omega
theorem foldM_step {h : List W32} {l : List UInt8} (hl : 64 ≤ l.length) : foldM h l = foldM (mixM h (l.take 64)) (l.drop 64) := by rw [foldM, if_pos hl]
theorem foldM_end {h : List W32} {l : List UInt8} (hl : ¬ 64 ≤ l.length) : foldM h l = h := by rw [foldM, if_neg hl]
theorem foldM_len {l : List UInt8} : ∀ {h : List W32}, h.length = 8 → (foldM h l).length = 8 := by
  induction hn : l.length using Nat.strongRecOn generalizing l with
  | ind n ih =>
    intro h hh
    by_cases hl : 64 ≤ l.length
    · rw [foldM_step hl]
      exact ih _ (by simp; omega) rfl (mixM_len _ hh)
    · rw [foldM_end hl]; exact hh
/-- Whole chunks first. -/
theorem foldM_app {a b : List UInt8} (ha : a.length % 64 = 0) : ∀ {h : List W32}, foldM h (a ++ b) = foldM (foldM h a) b := by
  induction hn : a.length using Nat.strongRecOn generalizing a with
  | ind n ih =>
    intro h
    by_cases hl : 64 ≤ a.length
    · rw [foldM_step hl, foldM_step (by rw [List.length_append]; omega), List.take_append_of_le_length hl, List.drop_append_of_le_length hl]
      exact ih _ (by simp; omega) (by simp; omega) rfl
    · have : a = [] := List.eq_nil_of_length_eq_zero (by omega)
      subst this
      rw [foldM_end hl, List.nil_append]
def zer (m : Nat) : Nat := (120 - m % 64) % 64
theorem zer_lt {m j : Nat} (h : j < zer m) : (m + j) % 64 ≠ 56 := by unfold zer at h; omega
theorem zer_eq (m : Nat) : (m + zer m) % 64 = 56 := by unfold zer; omega
theorem zer_le (m : Nat) : zer m < 64 := by unfold zer; omega
def padT (r : List UInt8) (n : Nat) : List UInt8 := r ++ [128] ++ List.replicate (zer (r.length + 1)) 0 ++ be 8 (n * 8 % 18446744073709551616)
theorem padT_len (r : List UInt8) (n : Nat) : (padT r n).length % 64 = 0 := by
  unfold padT
  simp only [List.length_append, List.length_replicate, List.length_singleton, be_length]
  have := zer_eq (r.length + 1)
  omega
theorem padT_app (a r : List UInt8) (n : Nat) (ha : a.length % 64 = 0) : padT (a ++ r) n = a ++ padT r n := by
  unfold padT
  have : zer ((a ++ r).length + 1) = zer (r.length + 1) := by unfold zer; rw [List.length_append]; omega
  rw [this]
  simp
def shaL (l : List UInt8) : List W32 := foldM firstL (padT l l.length)
theorem shaL_len (l : List UInt8) : (shaL l).length = 8 := foldM_len rfl
def wOut (x : W32) : List UInt8 := [UInt8.ofNat (x >>> 24).toNat, UInt8.ofNat (x >>> 16).toNat, UInt8.ofNat (x >>> 8).toNat, UInt8.ofNat x.toNat]
theorem wOut_len (h : List W32) : (h.flatMap wOut).length = 4 * h.length := by
  induction h with
  | nil => rfl
  | cons x h ih => rw [List.flatMap_cons, List.length_append, ih]; simp [wOut]; omega
def shaM (l : List UInt8) : Vec 32 := ⟨(shaL l).flatMap wOut, by rw [wOut_len, shaL_len]⟩
end Go.Fx
