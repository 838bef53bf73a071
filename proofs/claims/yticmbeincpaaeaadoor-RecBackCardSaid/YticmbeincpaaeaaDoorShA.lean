/-
  Words of 32 bits, and what a machine does with them; SHA-256 as a plain function.
-/
import Derived.Test.YticmbeincpaaeaaDoorPbC
set_option linter.unusedVariables false
set_option linter.unusedSimpArgs false
namespace Go.Fx
abbrev W32 := BitVec 32
def wv (x : W32) : Value := .int .u32 (x.toNat : Int)
def wvs (l : List W32) : List Value := l.map wv
theorem ofInt_w (x : W32) : BitVec.ofInt 32 (x.toNat : Int) = x := by
  apply BitVec.eq_of_toNat_eq
  rw [BitVec.toNat_ofInt]
  have := x.isLt
  omega
theorem wu32w (x : W32) : IntKind.u32.wrap (x.toNat : Int) = (x.toNat : Int) := by
  have := x.isLt
  rw [wu32i (by omega) (by omega)]
section
variable (x y : W32) (K : Value → Prop)
theorem wv_add : bi .add (wv x) (wv y) K = K (wv (x + y)) := by
  unfold wv
  rw [bi_add, wu32, BitVec.toNat_add]
  have e : (((x.toNat + y.toNat) % 2 ^ 32 : Nat) : Int) = ((x.toNat : Int) + y.toNat) % 4294967296 := by omega
  rw [e]
theorem wv_mul256 : bi .mul (wv x) (.int .u32 256) K = K (wv (x * 256)) := by
  unfold wv
  rw [bi_mul, wu32, BitVec.toNat_mul]
  have e : (((x.toNat * (256 : W32).toNat) % 2 ^ 32 : Nat) : Int) = ((x.toNat : Int) * 256) % 4294967296 := by
    rw [show (256 : W32).toNat = 256 from rfl]
    omega
  rw [e]
theorem wv_xor : bi .xor (wv x) (wv y) K = K (wv (x ^^^ y)) := by
  unfold wv
  rw [bi_xor]
  show K (.int .u32 (IntKind.u32.wrap ((BitVec.ofInt 32 (x.toNat : Int) ^^^ BitVec.ofInt 32 (y.toNat : Int)).toNat : Int))) = _
  rw [ofInt_w, ofInt_w, wu32w]
theorem wv_and : bi .and (wv x) (wv y) K = K (wv (x &&& y)) := by
  unfold wv
  rw [bi_and]
  show K (.int .u32 (IntKind.u32.wrap ((BitVec.ofInt 32 (x.toNat : Int) &&& BitVec.ofInt 32 (y.toNat : Int)).toNat : Int))) = _
  rw [ofInt_w, ofInt_w, wu32w]
theorem wv_or : bi .or (wv x) (wv y) K = K (wv (x ||| y)) := by
  unfold wv
  rw [bi_or]
  show K (.int .u32 (IntKind.u32.wrap ((BitVec.ofInt 32 (x.toNat : Int) ||| BitVec.ofInt 32 (y.toNat : Int)).toNat : Int))) = _
  rw [ofInt_w, ofInt_w, wu32w]
theorem wv_shr (k : IntKind) {n : Nat} (hn : n ≤ 32) : sh .shr (wv x) (.int k (n : Int)) K = K (wv (x >>> n)) := by
  unfold wv
  rw [sh_shr _ _ _ _ _ (by omega)]
  have h1 : min ((n : Int)).toNat IntKind.u32.bits = n := by show min n 32 = n; omega
  rw [h1, BitVec.toNat_ushiftRight, Nat.shiftRight_eq_div_pow]
  have h2 : ((2 : Int) ^ n) = ((2 ^ n : Nat) : Int) := by simp
  rw [h2, Int.ofNat_fdiv]
theorem wv_shl (k : IntKind) {n : Nat} (hn : n ≤ 32) : sh .shl (wv x) (.int k (n : Int)) K = K (wv (x <<< n)) := by
  unfold wv
  rw [sh_shl _ _ _ _ _ (by omega)]
  have h1 : min ((n : Int)).toNat IntKind.u32.bits = n := by show min n 32 = n; omega
  rw [h1, wu32, BitVec.toNat_shiftLeft, Nat.shiftLeft_eq, Int.natCast_emod, Int.natCast_mul, Int.natCast_pow]
  rfl
theorem wv_not {w : World} {P : Program} : rdP P (Op.unary .xor (wv x)) w K = K (wv (~~~x)) := by
  refine rdP_eq ?_ K
  have e : BitVec.ofInt 32 (x.toNat : Int) = x := ofInt_w x
  have h : (BitVec.ofInt 32 4294967295 ^^^ BitVec.ofInt 32 (x.toNat : Int)) = ~~~x := by
    rw [e, show BitVec.ofInt 32 4294967295 = BitVec.allOnes 32 from rfl, BitVec.allOnes_xor]
  have hr : (Op.unary .xor (wv x)).run P w = .ok (.int .u32 (IntKind.u32.wrap ((BitVec.ofInt 32 4294967295 ^^^ BitVec.ofInt 32 (x.toNat : Int)).toNat : Int))) w := rfl
  rw [hr, h, wu32w]
  rfl
theorem wv_b (b : UInt8) : cvi .u32 (bv b) K = K (wv (BitVec.ofNat 32 b.toNat)) := by
  unfold wv bv
  have := b.toNat_lt
  rw [cvi_int, wu32i (by omega) (by omega), BitVec.toNat_ofNat, Nat.mod_eq_of_lt (by omega)]
theorem w_b : cvi .u8 (wv x) K = K (bv (UInt8.ofNat x.toNat)) := by
  unfold wv
  rw [cvi_int, bv_of _ (by omega), Int.toNat_natCast]
end
end Go.Fx
