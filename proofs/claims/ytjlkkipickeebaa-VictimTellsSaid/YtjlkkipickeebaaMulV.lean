/-
  math/bits.Mul64, as printed, is the product in two digits.
  Conditions: both numbers are below 2^64.
-/
import Derived.Test.YtjlkkipickeebaaNums
import Derived.Test.YtjlkkipickeebaaPVx1
namespace Go.Proofs.Ytjlkkipickeebaa.MulV
open Go.RowKit Nums PV

theorem mul64 (a b : Int) (h0 : 0 ≤ a) (h1 : a < 18446744073709551616) (h2 : 0 ≤ b) (h3 : b < 18446744073709551616) :
    bits_Mul64.f a b = some (a * b / 18446744073709551616, a * b % 18446744073709551616) := by
  unfold bits_Mul64.f
  rw [and64 a h0 h1, and64 b h2 h3]
  have ea : a = a / 4294967296 * 4294967296 + a % 4294967296 := by omega
  have eb : b = b / 4294967296 * 4294967296 + b % 4294967296 := by omega
  have A1 : 0 ≤ a / 4294967296 ∧ a / 4294967296 ≤ 4294967295 := by omega
  have A0 : 0 ≤ a % 4294967296 ∧ a % 4294967296 ≤ 4294967295 := by omega
  have B1 : 0 ≤ b / 4294967296 ∧ b / 4294967296 ≤ 4294967295 := by omega
  have B0 : 0 ≤ b % 4294967296 ∧ b % 4294967296 ≤ 4294967295 := by omega
  have H := mul_hi (a / 4294967296) (a % 4294967296) (b / 4294967296) (b % 4294967296)
  rw [← ea, ← eb] at H
  generalize a / 4294967296 = a1 at *
  generalize a % 4294967296 = a0 at *
  generalize b / 4294967296 = b1 at *
  generalize b % 4294967296 = b0 at *
  have p11 := le_mul a1 b1 _ _ A1.1 A1.2 B1.1 B1.2
  have p10 := le_mul a1 b0 _ _ A1.1 A1.2 B0.1 B0.2
  have p01 := le_mul a0 b1 _ _ A0.1 A0.2 B1.1 B1.2
  have p00 := le_mul a0 b0 _ _ A0.1 A0.2 B0.1 B0.2
  generalize a1 * b1 = p at *
  generalize a1 * b0 = q at *
  generalize a0 * b1 = r at *
  generalize a0 * b0 = s at *
  rw [u64_in p (by omega) (by omega), u64_in q (by omega) (by omega), u64_in r (by omega) (by omega), u64_in s (by omega) (by omega)]
  rw [u64_in (q + s / 4294967296) (by omega) (by omega)]
  rw [and64 (q + s / 4294967296) (by omega) (by omega)]
  rw [u64_in ((q + s / 4294967296) % 4294967296 + r) (by omega) (by omega)]
  have hb : p + (q + s / 4294967296) / 4294967296 + ((q + s / 4294967296) % 4294967296 + r) / 4294967296 < 18446744073709551616 := by omega
  rw [u64_in (p + (q + s / 4294967296) / 4294967296) (by omega) (by omega)]
  rw [u64_in (p + (q + s / 4294967296) / 4294967296 + ((q + s / 4294967296) % 4294967296 + r) / 4294967296) (by omega) (by omega), H, u64_wrap]
end Go.Proofs.Ytjlkkipickeebaa.MulV
