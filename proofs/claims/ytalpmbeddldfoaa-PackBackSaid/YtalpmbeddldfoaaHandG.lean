/- Words for a walk over a label; and bits as sums, for the numbers of package varint. -/
import Derived.Test.YtalpmbeddldfoaaHandS
import Derived.WalkMore
import Derived.Laws.BitsLemmas
namespace Go.Proofs.Ytalpmbeddldfoaa.Hand
open Go.RowKit Go.Proofs.YtalpmbeddldfoaaW.PrintWords
theorem and127 (c : Int) (h0 : 0 ≤ c) (h1 : c ≤ 255) : bits .and .u8 c 127 = c % 128 := bits_mask .u8 8 (by decide) wraps_u8 7 (by decide) c h0 (by omega)
theorem wraps_u64 (n : Int) (h0 : 0 ≤ n) (h1 : n < 2 ^ 63) : IntKind.u64.wrap n = n := by
  show n % (2 ^ 64 : Int) = n
  omega
theorem bits_or_comm (k : IntKind) (x y : Int) : bits .or k x y = bits .or k y x := by simp only [bits, BitVec.or_comm]
theorem orU (i : Nat) (N m : Int) (hi : i ≤ 56) (h0 : 0 ≤ N) (h1 : N < 2 ^ i) (h2 : 0 ≤ m) (h3 : m ≤ 127) : bits .or .u64 N (IntKind.u64.wrap (m * 2 ^ i)) = N + m * 2 ^ i ∧ 0 ≤ m * 2 ^ i ∧ N + m * 2 ^ i < 2 ^ (i + 7) := by
  have hp : (0 : Int) < 2 ^ i := Int.pow_pos (by decide)
  have hq : (2 : Int) ^ i ≤ 2 ^ 56 := by
    have := Nat.pow_le_pow_right (n := 2) (by decide) hi
    exact_mod_cast this
  have hm0 : 0 ≤ m * 2 ^ i := Int.mul_nonneg h2 (Int.le_of_lt hp)
  have hm1 : m * 2 ^ i ≤ 127 * 2 ^ i := Int.mul_le_mul_of_nonneg_right h3 (Int.le_of_lt hp)
  have h7 : (2 : Int) ^ (i + 7) = 128 * 2 ^ i := by rw [Int.pow_add]; omega
  refine ⟨?_, hm0, by rw [h7]; omega⟩
  rw [wraps_u64 _ hm0 (by omega), bits_or_comm, bits_join .u64 63 (by decide) wraps_u64 i (m * 2 ^ i) N hm0 (Int.mul_emod_left _ _) (by omega) h0 h1 (by omega)]
  omega
theorem get_or (a1 : Int) (j : Nat) (N c : Int) (hj : j ≤ 8) (h0 : 0 ≤ N) (h1 : N < 2 ^ (7 * j)) (h2 : 0 ≤ c) (h3 : c ≤ 255) :
    bits .or .u64 N (IntKind.u64.wrap (IntKind.u64.wrap (bits .and .u8 c 127) * 2 ^ (7 * (a1 + (j : Int) - a1)).toNat)) = N + (c % 128) * 2 ^ (7 * j) ∧ 0 ≤ N + (c % 128) * 2 ^ (7 * j) ∧ N + (c % 128) * 2 ^ (7 * j) < 2 ^ (7 * (j + 1)) ∧ N + (c % 128) * 2 ^ (7 * j) < 2 ^ 63 ∧ N < 2 ^ 56 := by
  obtain ⟨o1, o2, o3⟩ := orU (7 * j) N (c % 128) (by omega) h0 h1 (by omega) (by omega)
  have e1 : (7 * (a1 + (j : Int) - a1)).toNat = 7 * j := by omega
  have e2 : IntKind.u64.wrap (c % 128) = c % 128 := by rw [wraps_u64 _ (by omega) (by omega)]
  have hq : (2 : Int) ^ (7 * (j + 1)) ≤ 2 ^ 63 := by
    have := Nat.pow_le_pow_right (n := 2) (by decide) (show 7 * (j + 1) ≤ 63 by omega)
    exact_mod_cast this
  have hq2 : (2 : Int) ^ (7 * j) ≤ 2 ^ 56 := by
    have := Nat.pow_le_pow_right (n := 2) (by decide) (show 7 * j ≤ 56 by omega)
    exact_mod_cast this
  rw [e1, and127 c h2 h3, e2]
  rw [show 7 * j + 7 = 7 * (j + 1) by omega] at o3
  exact ⟨o1, by omega, o3, by omega, by omega⟩
end Go.Proofs.Ytalpmbeddldfoaa.Hand
