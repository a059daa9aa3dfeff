import Derived.Laws.BitsLemmas
import Derived.RowKit
namespace Go.Proofs.Ytopblnecdabcgaa.B
open Go.RowKit
theorem wrap_u64 (n : Int) : IntKind.u64.wrap n = n % 18446744073709551616 := by simp [IntKind.wrap, IntKind.bits, IntKind.signed]
theorem wrap_u32 (n : Int) : IntKind.u32.wrap n = n % 4294967296 := by simp [IntKind.wrap, IntKind.bits, IntKind.signed]
theorem wrap_u16 (n : Int) : IntKind.u16.wrap n = n % 65536 := by simp [IntKind.wrap, IntKind.bits, IntKind.signed]
theorem wrap_u8 (n : Int) : IntKind.u8.wrap n = n % 256 := by simp [IntKind.wrap, IntKind.bits, IntKind.signed]
theorem wrap_i64 (n : Int) : IntKind.i64.wrap n = wrap64 n := by
  simp only [IntKind.wrap, IntKind.bits, IntKind.signed, wrap64, Bool.true_and, ge_iff_le, decide_eq_true_eq]
  by_cases h : (2 : Int) ^ (64 - 1) ≤ n % 2 ^ 64
  · rw [if_pos h]; omega
  · rw [if_neg h]; omega
theorem wf_i64 {n : Int} (h : (Lit.int .i64 n).wf = true) : -9223372036854775808 ≤ n ∧ n ≤ 9223372036854775807 := by
  simpa [Lit.wf, IntKind.min, IntKind.max, IntKind.signed, IntKind.bits] using h
theorem wf_u64 {n : Int} (h : (Lit.int .u64 n).wf = true) : 0 ≤ n ∧ n ≤ 18446744073709551615 := by
  simpa [Lit.wf, IntKind.min, IntKind.max, IntKind.signed, IntKind.bits] using h
theorem wf_u32 {n : Int} (h : (Lit.int .u32 n).wf = true) : 0 ≤ n ∧ n ≤ 4294967295 := by
  simpa [Lit.wf, IntKind.min, IntKind.max, IntKind.signed, IntKind.bits] using h
theorem wf_u16 {n : Int} (h : (Lit.int .u16 n).wf = true) : 0 ≤ n ∧ n ≤ 65535 := by
  simpa [Lit.wf, IntKind.min, IntKind.max, IntKind.signed, IntKind.bits] using h
theorem wf_u8 {n : Int} (h : (Lit.int .u8 n).wf = true) : 0 ≤ n ∧ n ≤ 255 := by
  simpa [Lit.wf, IntKind.min, IntKind.max, IntKind.signed, IntKind.bits] using h
/-- Bits of numbers of an unsigned kind, as of natural numbers. -/
theorem ofInt_toNat (n : Nat) (x : Int) (h0 : 0 ≤ x) (h1 : x < 2 ^ n) : (BitVec.ofInt n x).toNat = x.toNat := by
  obtain ⟨m, rfl⟩ := Int.eq_ofNat_of_zero_le h0
  have : m < 2 ^ n := by exact_mod_cast h1
  rw [BitVec.ofInt_natCast, BitVec.toNat_ofNat, Nat.mod_eq_of_lt this, Int.toNat_natCast]
theorem lt_two_pow {n : Nat} {x : Int} (h0 : 0 ≤ x) (h1 : x < 2 ^ n) : x.toNat < 2 ^ n := by
  obtain ⟨m, rfl⟩ := Int.eq_ofNat_of_zero_le h0
  rw [Int.toNat_natCast]
  exact_mod_cast h1
theorem bits_and {k : IntKind} (hk : k.signed = false) (x y : Int) (hx0 : 0 ≤ x) (hx : x < 2 ^ k.bits) (hy0 : 0 ≤ y) (hy : y < 2 ^ k.bits) : bits .and k x y = ((x.toNat &&& y.toNat : Nat) : Int) := by
  have h := Nat.lt_of_le_of_lt (Nat.and_le_left (n := x.toNat) (m := y.toNat)) (lt_two_pow hx0 hx)
  simp only [bits, IntKind.wrap, hk, Bool.false_and, Bool.false_eq_true, if_false, BitVec.toNat_and, ofInt_toNat _ _ hx0 hx, ofInt_toNat _ _ hy0 hy]
  exact Int.emod_eq_of_lt (by omega) (by exact_mod_cast h)
theorem bits_or {k : IntKind} (hk : k.signed = false) (x y : Int) (hx0 : 0 ≤ x) (hx : x < 2 ^ k.bits) (hy0 : 0 ≤ y) (hy : y < 2 ^ k.bits) : bits .or k x y = ((x.toNat ||| y.toNat : Nat) : Int) := by
  have h := Nat.or_lt_two_pow (lt_two_pow hx0 hx) (lt_two_pow hy0 hy)
  simp only [bits, IntKind.wrap, hk, Bool.false_and, Bool.false_eq_true, if_false, BitVec.toNat_or, ofInt_toNat _ _ hx0 hx, ofInt_toNat _ _ hy0 hy]
  exact Int.emod_eq_of_lt (by omega) (by exact_mod_cast h)
theorem bits_xor {k : IntKind} (hk : k.signed = false) (x y : Int) (hx0 : 0 ≤ x) (hx : x < 2 ^ k.bits) (hy0 : 0 ≤ y) (hy : y < 2 ^ k.bits) : bits .xor k x y = ((x.toNat ^^^ y.toNat : Nat) : Int) := by
  have h := Nat.xor_lt_two_pow (lt_two_pow hx0 hx) (lt_two_pow hy0 hy)
  simp only [bits, IntKind.wrap, hk, Bool.false_and, Bool.false_eq_true, if_false, BitVec.toNat_xor, ofInt_toNat _ _ hx0 hx, ofInt_toNat _ _ hy0 hy]
  exact Int.emod_eq_of_lt (by omega) (by exact_mod_cast h)
/-- Exclusive or with nought, and with all ones. -/
theorem xor_zero (k : IntKind) (x : Int) (hx : k.wrap x = x) : bits .xor k x 0 = x := by
  have h1 : BitVec.ofInt k.bits 0 = 0#k.bits := by rfl
  simp only [bits, h1, BitVec.xor_zero]
  rw [BitVec.toNat_ofInt]
  have hw : ∀ n : Int, k.wrap n = k.wrap (n % 2 ^ k.bits) := fun n => by simp only [IntKind.wrap, Int.emod_emod]
  rw [show ((x % ((2 ^ k.bits : Nat) : Int)).toNat : Int) = x % 2 ^ k.bits from by
    rw [Int.toNat_of_nonneg (Int.emod_nonneg _ (by exact_mod_cast (Nat.pos_iff_ne_zero.1 (Nat.two_pow_pos _))))]; norm_cast]
  rw [← hw, hx]
theorem xor_ones_i64 (x : Int) : bits .xor .i64 x (-1) = wrap64 (-1 - x) := by
  show IntKind.i64.wrap (((BitVec.ofInt 64 x ^^^ BitVec.ofInt 64 (-1)).toNat : Nat) : Int) = _
  rw [show BitVec.ofInt 64 (-1) = BitVec.allOnes 64 from rfl, BitVec.xor_allOnes, BitVec.toNat_not, BitVec.toNat_ofInt, wrap_i64]
  unfold wrap64
  omega
theorem xor_ones_u64 (x : Int) (h0 : 0 ≤ x) (h1 : x ≤ 18446744073709551615) : bits .xor .u64 x 18446744073709551615 = 18446744073709551615 - x := by
  show IntKind.u64.wrap (((BitVec.ofInt 64 x ^^^ BitVec.ofInt 64 18446744073709551615).toNat : Nat) : Int) = _
  rw [show BitVec.ofInt 64 18446744073709551615 = BitVec.allOnes 64 from rfl, BitVec.xor_allOnes, BitVec.toNat_not, BitVec.toNat_ofInt, wrap_u64]
  omega
theorem and_one_u64 (x : Int) (h0 : 0 ≤ x) (h1 : x ≤ 18446744073709551615) : bits .and .u64 x 1 = x % 2 := by
  rw [bits_and rfl x 1 h0 (by simp only [IntKind.bits]; omega) (by omega) (by decide), show (1 : Int).toNat = 1 from rfl, Nat.and_one_is_mod]
  omega
end Go.Proofs.Ytopblnecdabcgaa.B
