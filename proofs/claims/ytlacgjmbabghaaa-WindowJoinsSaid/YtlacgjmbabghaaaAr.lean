/- Numbers of 64 bits as whole numbers. -/
import Derived.Test.YtlacgjmbabghaaaDm21
namespace Go.Dm

theorem wrap_u64 (n : Int) : IntKind.u64.wrap n = n % 18446744073709551616 := by
  simp [IntKind.wrap, IntKind.signed, IntKind.bits]
theorem wrap_i64 (n : Int) : IntKind.i64.wrap n = if n % 18446744073709551616 ≥ 9223372036854775808 then n % 18446744073709551616 - 18446744073709551616 else n % 18446744073709551616 := by
  simp [IntKind.wrap, IntKind.signed, IntKind.bits]
theorem wrap_i64_of {n : Int} (h1 : -9223372036854775808 ≤ n) (h2 : n < 9223372036854775808) : IntKind.i64.wrap n = n := by
  rw [wrap_i64]; split <;> omega
theorem shr_eq (k : IntKind) (a : Int) (n : Nat) (h : n ≤ k.bits) : aInt.shr k a (n : Int) = a / 2 ^ n := by
  unfold aInt.shr
  rw [Int.toNat_natCast, Nat.min_eq_left h, Int.fdiv_eq_ediv_of_nonneg _ (Int.pow_nonneg (by decide))]
theorem shr63 (a : Int) : aInt.shr .i64 a 63 = a / 9223372036854775808 := by
  have := shr_eq .i64 a 63 (by decide)
  simpa using this
theorem shr32u (a : Int) : aInt.shr .u64 a 32 = a / 4294967296 := by
  have := shr_eq .u64 a 32 (by decide)
  simpa using this
theorem shr16u (a : Int) : aInt.shr .u64 a 16 = a / 65536 := by
  have := shr_eq .u64 a 16 (by decide)
  simpa using this
theorem shr8u (a : Int) : aInt.shr .u64 a 8 = a / 256 := by
  have := shr_eq .u64 a 8 (by decide)
  simpa using this
theorem shl32u (a : Int) : aInt.shl .u64 a 32 = (a * 4294967296) % 18446744073709551616 := by
  unfold aInt.shl
  rw [wrap_u64]
  rfl
theorem and_half (x : Int) (h1 : 0 ≤ x) (h2 : x < 18446744073709551616) : aInt.bits .and .u64 x 4294967295 = x % 4294967296 := by
  unfold aInt.bits
  obtain ⟨n, rfl⟩ := Int.eq_ofNat_of_zero_le h1
  have e : (BitVec.ofInt 64 (n : Int) &&& BitVec.ofInt 64 4294967295).toNat = n % 4294967296 := by
    rw [BitVec.toNat_and]
    have a1 : (BitVec.ofInt 64 (n : Int)).toNat = n := by
      simp [BitVec.toNat_ofInt]; omega
    have a2 : (BitVec.ofInt 64 4294967295).toNat = 2 ^ 32 - 1 := by decide
    rw [a1, a2, Nat.and_two_pow_sub_one_eq_mod]
  show IntKind.u64.wrap ((BitVec.ofInt 64 (n : Int) &&& BitVec.ofInt 64 4294967295).toNat : Int) = _
  rw [e, wrap_u64]
  omega
theorem or_add (a b : Int) (h1 : 0 ≤ a) (h2 : a < 18446744073709551616) (h3 : a % 4294967296 = 0) (h4 : 0 ≤ b) (h5 : b < 4294967296) : aInt.bits .or .u64 a b = a + b := by
  unfold aInt.bits
  obtain ⟨n, rfl⟩ := Int.eq_ofNat_of_zero_le h1
  obtain ⟨m, rfl⟩ := Int.eq_ofNat_of_zero_le h4
  have e : (BitVec.ofInt 64 (n : Int) ||| BitVec.ofInt 64 (m : Int)).toNat = n + m := by
    rw [BitVec.toNat_or]
    have a1 : (BitVec.ofInt 64 (n : Int)).toNat = n := by simp [BitVec.toNat_ofInt]; omega
    have a2 : (BitVec.ofInt 64 (m : Int)).toNat = m := by simp [BitVec.toNat_ofInt]; omega
    rw [a1, a2]
    have hn : n = (n / 2 ^ 32) <<< 32 := by rw [Nat.shiftLeft_eq]; omega
    rw [hn]
    exact (Nat.shiftLeft_add_eq_or_of_lt (by omega) _).symm
  show IntKind.u64.wrap ((BitVec.ofInt 64 (n : Int) ||| BitVec.ofInt 64 (m : Int)).toNat : Int) = _
  rw [e, wrap_u64]
  omega
end Go.Dm
namespace Go.Dm
theorem bbeq (a b : ByteArray) : (a == b) = decide (a = b) := by
  obtain ⟨x⟩ := a
  obtain ⟨y⟩ := b
  have : ((⟨x⟩ : ByteArray) == ⟨y⟩) = (x == y) := rfl
  rw [this, Bool.eq_iff_iff]
  simp
end Go.Dm
