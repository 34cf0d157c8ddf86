/- Bits of numbers as the walk spells them: and, or, xor of natural numbers of 64, 32 and 8 bits. No program stands here. -/
import Derived.Laws.BitsLemmas
import Derived.Laws.Bits64
import Derived.Laws.Bits64b
namespace Go.Proofs.YtodaajokphoioaaDoor

theorem nat_and_127 (z : Nat) : z &&& 127 = z % 128 := Nat.and_two_pow_sub_one_eq_mod z 7

theorem u64_and127 (z : Nat) (h : z < 18446744073709551616) : bits .and .u64 (z : Int) 127 % 256 = ((z % 128 : Nat) : Int) := by
  have e := bits_and_u64_nat z 127 h (by omega)
  rw [nat_and_127] at e
  have e' : bits .and .u64 (z : Int) 127 = ((z % 128 : Nat) : Int) := e
  rw [e']
  omega

theorem u8_or128 (g : Nat) (h : g < 128) : bits .or .u8 (g : Int) 128 = (g : Int) + 128 := by
  have e := (bits_nat .u8 8 (by decide) wraps_u8 g 128 (by omega) (by omega)).2
  have e2 : g ||| 128 = g + 128 := by
    have h2 := Nat.two_pow_add_eq_or_of_lt (i := 7) (b := g) (by omega) 1
    rw [Nat.or_comm]
    simpa [Nat.add_comm] using h2.symm
  rw [e2] at e
  exact e

theorem nat_xor_ones (a : Nat) (h : a < 18446744073709551616) : a ^^^ 18446744073709551615 = 18446744073709551615 - a := by
  have e : BitVec.ofNat 64 a ^^^ BitVec.allOnes 64 = ~~~ BitVec.ofNat 64 a := BitVec.xor_allOnes
  have e2 := congrArg BitVec.toNat e
  rw [BitVec.toNat_xor, BitVec.toNat_not, BitVec.toNat_ofNat, BitVec.toNat_allOnes, Nat.mod_eq_of_lt h] at e2
  exact e2

/-- The number that stands for n. -/
def zz (n : Int) : Nat := if 0 ≤ n then (2 * n).toNat else (-2 * n - 1).toNat

theorem zz_lt (x : Int) (h0 : -4611686018427387903 ≤ x) (h1 : x ≤ 4611686018427387903) : zz x < 9223372036854775807 := by
  unfold zz
  split <;> omega

theorem zz_bits (x : Int) (h0 : -4611686018427387903 ≤ x) (h1 : x ≤ 4611686018427387903) :
    bits .xor .u64 (IntKind.u64.wrap (IntKind.u64.wrap x * 2)) (IntKind.u64.wrap (x / 9223372036854775808)) = (zz x : Int) := by
  simp only [IntKind.wrap_u64]
  by_cases hx : 0 ≤ x
  · obtain ⟨a, rfl⟩ := Int.eq_ofNat_of_zero_le hx
    have e1 : ((a : Int) % 18446744073709551616 * 2) % 18446744073709551616 = ((2 * a : Nat) : Int) := by omega
    have e2 : ((a : Int) / 9223372036854775808) % 18446744073709551616 = ((0 : Nat) : Int) := by omega
    rw [e1, e2, bits_xor_u64_nat _ _ (by omega) (by omega), Nat.xor_zero]
    simp only [zz, if_pos hx]
    omega
  · have e1 : (x % 18446744073709551616 * 2) % 18446744073709551616 = (((18446744073709551616 + 2 * x).toNat : Nat) : Int) := by omega
    have e2 : (x / 9223372036854775808) % 18446744073709551616 = ((18446744073709551615 : Nat) : Int) := by omega
    rw [e1, e2, bits_xor_u64_nat _ _ (by omega) (by omega), nat_xor_ones _ (by omega)]
    simp only [zz, if_neg hx]
    omega

end Go.Proofs.YtodaajokphoioaaDoor
