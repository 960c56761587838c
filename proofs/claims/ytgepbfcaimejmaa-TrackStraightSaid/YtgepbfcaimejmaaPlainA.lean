/-
  Numbers, products, squared distances and turns, as the printed functions reckon them.
  Conditions: coordinates are of Go's uint32.
-/
import Derived.Laws.BitsLemmas
import Derived.RowKit
import Derived.Test.YtgepbfcaimejmaaWMore
import Derived.Test.YtgepbfcaimejmaaPAx3
import Derived.Test.YtgepbfcaimejmaaPAx16
import Derived.Test.YtgepbfcaimejmaaPAx5
import Derived.Test.YtgepbfcaimejmaaPAx9
namespace Go.Proofs.Ytgepbfcaimejmaa.Nums
open Go.RowKit Go.Proofs.YtgepbfcaimejmaaW.PrintWords Go.Proofs.YtgepbfcaimejmaaW.PrintLast Go.Proofs.YtgepbfcaimejmaaW.PrintMore

theorem u64_wrap (n : Int) : IntKind.u64.wrap n = n % 18446744073709551616 := by simp [IntKind.wrap, IntKind.bits, IntKind.signed]
theorem u64_in (n : Int) (h0 : 0 ≤ n) (h1 : n < 18446744073709551616) : IntKind.u64.wrap n = n := by rw [u64_wrap]; omega
theorem wraps_u64 (n : Int) (h₀ : 0 ≤ n) (h₁ : n < 2 ^ 64) : IntKind.u64.wrap n = n := u64_in n h₀ (by simpa using h₁)
theorem wraps_u32 (n : Int) (h₀ : 0 ≤ n) (h₁ : n < 2 ^ 32) : IntKind.u32.wrap n = n := by rw [IntKind.wrap_u32]; omega
theorem w64_in (n : Int) (h0 : -9223372036854775808 ≤ n) (h1 : n ≤ 9223372036854775807) : wrap64 n = n := by unfold wrap64; omega
theorem and64 (a : Int) (h0 : 0 ≤ a) (h1 : a < 18446744073709551616) : Go.bits .and .u64 a 4294967295 = a % 4294967296 :=
  bits_mask .u64 64 (by decide) wraps_u64 32 (by decide) a h0 (by simpa using h1)
theorem wf_u32 {a : Int} (h : (Lit.int .u32 a).wf = true) : 0 ≤ a ∧ a < 4294967296 := by
  have : IntKind.u32.min ≤ a ∧ a ≤ IntKind.u32.max := by simpa [Lit.wf] using h
  simp [IntKind.min, IntKind.max, IntKind.bits, IntKind.signed] at this
  omega
theorem wf_u64 {a : Int} (h : (Lit.int .u64 a).wf = true) : 0 ≤ a ∧ a < 18446744073709551616 := by
  have : IntKind.u64.min ≤ a ∧ a ≤ IntKind.u64.max := by simpa [Lit.wf] using h
  simp [IntKind.min, IntKind.max, IntKind.bits, IntKind.signed] at this
  omega
theorem wf_i64 {a : Int} (h : (Lit.int .i64 a).wf = true) : -9223372036854775808 ≤ a ∧ a ≤ 9223372036854775807 := by
  have : IntKind.i64.min ≤ a ∧ a ≤ 9223372036854775807 := by simpa [Lit.wf] using h
  simp [IntKind.min, IntKind.bits, IntKind.signed] at this
  omega
theorem tdiv_pos (a b : Int) (h : 0 ≤ a) : Int.tdiv a b = a / b := Int.tdiv_eq_ediv_of_nonneg h
theorem tmod_pos (a b : Int) (h : 0 ≤ a) : Int.tmod a b = a % b := Int.tmod_eq_emod_of_nonneg h

/-- The product's upper digit, as the code reckons it. -/
theorem mul_hi (a1 a0 b1 b0 : Int) :
    a1 * b1 + (a1 * b0 + a0 * b0 / 4294967296) / 4294967296 + ((a1 * b0 + a0 * b0 / 4294967296) % 4294967296 + a0 * b1) / 4294967296 = (a1 * 4294967296 + a0) * (b1 * 4294967296 + b0) / 18446744073709551616 := by
  have e : (a1 * 4294967296 + a0) * (b1 * 4294967296 + b0) = (a1 * b1) * 18446744073709551616 + (a1 * b0) * 4294967296 + (a0 * b1) * 4294967296 + a0 * b0 := by grind
  rw [e]
  generalize a1 * b1 = p
  generalize a1 * b0 = q
  generalize a0 * b1 = r
  generalize a0 * b0 = s
  omega
theorem le_mul (a b m n : Int) (h0 : 0 ≤ a) (h1 : a ≤ m) (h2 : 0 ≤ b) (h3 : b ≤ n) : 0 ≤ a * b ∧ a * b ≤ m * n :=
  ⟨Int.mul_nonneg h0 h2, Int.mul_le_mul h1 h3 h2 (by omega)⟩
end Go.Proofs.Ytgepbfcaimejmaa.Nums

namespace Go.Proofs.Ytgepbfcaimejmaa.MulA
open Go.RowKit Nums PA

theorem mul64 (a b : Int) (h0 : 0 ≤ a) (h1 : a < 18446744073709551616) (h2 : 0 ≤ b) (h3 : b < 18446744073709551616) :
    bits_Mul64.f a b = some (a * b / 18446744073709551616, a * b % 18446744073709551616) := by
  unfold bits_Mul64.f
  rw [and64 a h0 h1, and64 b h2 h3]
  have ea : a = a / 4294967296 * 4294967296 + a % 4294967296 := by omega
  have eb : b = b / 4294967296 * 4294967296 + b % 4294967296 := by omega
  have A1 : 0 ≤ a / 4294967296 ∧ a / 4294967296 ≤ 4294967295 := by omega
  have A0 : 0 ≤ a % 4294967296 ∧ a % 4294967296 ≤ 4294967295 := by omega
  have B1 : 0 ≤ b / 4294967296 ∧ b / 4294967296 ≤ 4294967295 := by omega
  have B0 : 0 ≤ b % 4294967296 ∧ b % 4294967296 ≤ 4294967295 := by omega
  have H := mul_hi (a / 4294967296) (a % 4294967296) (b / 4294967296) (b % 4294967296)
  rw [← ea, ← eb] at H
  generalize a / 4294967296 = a1 at *
  generalize a % 4294967296 = a0 at *
  generalize b / 4294967296 = b1 at *
  generalize b % 4294967296 = b0 at *
  have p11 := le_mul a1 b1 _ _ A1.1 A1.2 B1.1 B1.2
  have p10 := le_mul a1 b0 _ _ A1.1 A1.2 B0.1 B0.2
  have p01 := le_mul a0 b1 _ _ A0.1 A0.2 B1.1 B1.2
  have p00 := le_mul a0 b0 _ _ A0.1 A0.2 B0.1 B0.2
  generalize a1 * b1 = p at *
  generalize a1 * b0 = q at *
  generalize a0 * b1 = r at *
  generalize a0 * b0 = s at *
  rw [u64_in p (by omega) (by omega), u64_in q (by omega) (by omega), u64_in r (by omega) (by omega), u64_in s (by omega) (by omega)]
  rw [u64_in (q + s / 4294967296) (by omega) (by omega)]
  rw [and64 (q + s / 4294967296) (by omega) (by omega)]
  rw [u64_in ((q + s / 4294967296) % 4294967296 + r) (by omega) (by omega)]
  have hb : p + (q + s / 4294967296) / 4294967296 + ((q + s / 4294967296) % 4294967296 + r) / 4294967296 < 18446744073709551616 := by omega
  rw [u64_in (p + (q + s / 4294967296) / 4294967296) (by omega) (by omega)]
  rw [u64_in (p + (q + s / 4294967296) / 4294967296 + ((q + s / 4294967296) % 4294967296 + r) / 4294967296) (by omega) (by omega), H, u64_wrap]
end Go.Proofs.Ytgepbfcaimejmaa.MulA

namespace Go.Proofs.Ytgepbfcaimejmaa.WideA
open Go.RowKit Go.Proofs.YtgepbfcaimejmaaW.PrintWords Go.Proofs.YtgepbfcaimejmaaW.PrintLast Go.Proofs.YtgepbfcaimejmaaW.PrintMore Nums MulA PA

theorem add_eq (a b c d : Int) (h0 : 0 ≤ a) (h1 : 0 ≤ b) (h2 : 0 ≤ c) (h3 : 0 ≤ d) (h4 : b < 18446744073709551616) (h5 : d < 18446744073709551616) :
    Ext.wide_Add.f a b c d = some ((a + c + (b + d) / 18446744073709551616) % 18446744073709551616, (b + d) % 18446744073709551616) := by
  unfold Ext.wide_Add.f
  rw [if_pos ⟨h0, h1, h2, h3, h4, h5⟩]

/-- The squared distance, exactly. -/
def d2 (x0 y0 x1 y1 : Int) : Int := (x0 - x1) * (x0 - x1) + (y0 - y1) * (y0 - y1)

theorem gap_eq (a b : Int) (h0 : 0 ≤ a) (h1 : a < 4294967296) (h2 : 0 ≤ b) (h3 : b < 4294967296) :
    ∃ g, wide_gap.f a b = some g ∧ 0 ≤ g ∧ g ≤ 4294967295 ∧ g * g = (a - b) * (a - b) := by
  unfold wide_gap.f mx mn
  by_cases h : a < b
  · refine ⟨b - a, ?_, by omega, by omega, by grind⟩
    rw [if_pos h, if_neg (by omega)]
    congr 1
    omega
  · by_cases h' : b < a
    · refine ⟨a - b, ?_, by omega, by omega, rfl⟩
      rw [if_neg h, if_pos h']
      congr 1
      omega
    · obtain rfl : a = b := by omega
      refine ⟨0, ?_, by omega, by omega, by simp⟩
      rw [if_neg h]
      simp
theorem square_eq (g : Int) (h0 : 0 ≤ g) (h1 : g ≤ 4294967295) : wide_Square.f g = some (0, g * g) := by
  unfold wide_Square.f
  have b := le_mul g g _ _ h0 h1 h0 h1
  rw [u64_in g h0 (by omega), mul64 g g h0 (by omega) h0 (by omega)]
  generalize g * g = z at *
  simp only [Option.bind_some, Option.some.injEq, Prod.mk.injEq]
  omega
theorem sum_eq (k : Nat) (q r : Int) (h0 : 0 ≤ q) (h1 : q < 18446744073709551616) (h2 : 0 ≤ r) (h3 : r < 18446744073709551616) :
    wide_sum.f (k + 3) [(⟨0, q⟩ : S43), ⟨0, r⟩] = some ((q + r) / 18446744073709551616, (q + r) % 18446744073709551616) := by
  have e1 : Ext.wide_Add.f 0 0 0 q = some (0, q) := by
    rw [add_eq 0 0 0 q (by omega) (by omega) (by omega) h0 (by omega) h1]
    simp only [Option.some.injEq, Prod.mk.injEq]
    omega
  have e2 : Ext.wide_Add.f 0 q 0 r = some ((q + r) / 18446744073709551616, (q + r) % 18446744073709551616) := by
    rw [add_eq 0 q 0 r (by omega) h0 (by omega) h2 h1 h3, show (0 + 0 + (q + r) / 18446744073709551616) % 18446744073709551616 = (q + r) / 18446744073709551616 from by omega]
  simp [wide_sum.f, wide_sum.l0, rd_T43, wrap64, e1, e2]
theorem d2_bound (x0 y0 x1 y1 : Int) (a0 : 0 ≤ x0) (a1 : x0 < 4294967296) (b0 : 0 ≤ y0) (b1 : y0 < 4294967296) (c0 : 0 ≤ x1) (c1 : x1 < 4294967296) (e0 : 0 ≤ y1) (e1 : y1 < 4294967296) :
    0 ≤ d2 x0 y0 x1 y1 ∧ d2 x0 y0 x1 y1 < 36893488147419103232 := by
  obtain ⟨g, _, g0, g1, g2⟩ := gap_eq x0 x1 a0 a1 c0 c1
  obtain ⟨g', _, g0', g1', g2'⟩ := gap_eq y0 y1 b0 b1 e0 e1
  have b := le_mul g g _ _ g0 g1 g0 g1
  have b' := le_mul g' g' _ _ g0' g1' g0' g1'
  unfold d2
  rw [← g2, ← g2']
  omega
theorem between_eq (k : Nat) (x0 y0 x1 y1 : Int) (a0 : 0 ≤ x0) (a1 : x0 < 4294967296) (b0 : 0 ≤ y0) (b1 : y0 < 4294967296) (c0 : 0 ≤ x1) (c1 : x1 < 4294967296) (e0 : 0 ≤ y1) (e1 : y1 < 4294967296) :
    wide_Between.f (k + 3) x0 y0 x1 y1 = some (d2 x0 y0 x1 y1 / 18446744073709551616, d2 x0 y0 x1 y1 % 18446744073709551616) := by
  obtain ⟨g, hg, g0, g1, g2⟩ := gap_eq x0 x1 a0 a1 c0 c1
  obtain ⟨g', hg', g0', g1', g2'⟩ := gap_eq y0 y1 b0 b1 e0 e1
  unfold wide_Between.f
  simp only [hg, hg', Option.bind_some, square_eq g g0 g1, square_eq g' g0' g1']
  have b := le_mul g g _ _ g0 g1 g0 g1
  have b' := le_mul g' g' _ _ g0' g1' g0' g1'
  rw [sum_eq k (g * g) (g' * g') b.1 (by omega) b'.1 (by omega)]
  unfold d2
  rw [g2, g2']
  rfl
theorem compare_eq (a b : Int) : cmp_Compare_uint64.f a b = some (if a < b then -1 else if b < a then 1 else 0) := by
  unfold cmp_Compare_uint64.f cmp_isNaN_uint64.f
  simp only [Option.bind_some, bne_self_eq_false, Bool.false_eq_true, if_false]
  by_cases h : a < b
  · simp [h]
  · by_cases h' : b < a
    · simp [h, h']
    · simp [h, h']
theorem or_eq (k : Nat) (x y : Int) : cmp_Or_int.f (k + 3) [x, y] = some (if x = 0 then y else x) := by
  by_cases hx : x = 0
  · by_cases hy : y = 0
    · simp [cmp_Or_int.f, cmp_Or_int.l0, rd, wrap64, hx, hy]
    · simp [cmp_Or_int.f, cmp_Or_int.l0, rd, wrap64, hx, hy]
  · simp [cmp_Or_int.f, cmp_Or_int.l0, rd, hx]
theorem cmp_eq (k : Nat) (a b c d : Int) : wide_Cmp.f (k + 3) a b c d = some (if a < c ∨ a = c ∧ b < d then -1 else if c < a ∨ a = c ∧ d < b then 1 else 0) := by
  unfold wide_Cmp.f
  simp only [compare_eq, Option.bind_some, or_eq, Option.some.injEq]
  by_cases h1 : a < c
  · simp [h1]
  · by_cases h2 : c < a
    · have : ¬ a = c := by omega
      simp [h1, h2, this]
    · have : a = c := by omega
      subst this
      simp
/-- Two numbers of two digits each are compared as they are. -/
theorem cmp_digits (k : Nat) (D E : Int) : wide_Cmp.f (k + 3) (D / 18446744073709551616) (D % 18446744073709551616) (E / 18446744073709551616) (E % 18446744073709551616) = some (if D < E then -1 else if E < D then 1 else 0) := by
  rw [cmp_eq]
  by_cases h1 : D < E
  · rw [if_pos (show D < E from h1), if_pos (by omega)]
  · rw [if_neg (show ¬ D < E from h1), if_neg (by omega)]
    by_cases h2 : E < D
    · rw [if_pos (show E < D from h2), if_pos (by omega)]
    · rw [if_neg (show ¬ E < D from h2), if_neg (by omega)]
theorem sq_nonneg (x : Int) : 0 ≤ x * x := by
  rcases Int.le_total 0 x with h | h
  · exact Int.mul_nonneg h h
  · have := Int.mul_nonneg (show 0 ≤ -x by omega) (show 0 ≤ -x by omega)
    have e : -x * -x = x * x := by grind
    omega
theorem sq_le (x y : Int) (h : (0 ≤ x ∧ x ≤ y) ∨ (y ≤ x ∧ x ≤ 0)) : x * x ≤ y * y := by
  rcases h with ⟨h0, h1⟩ | ⟨h0, h1⟩
  · exact Int.mul_le_mul h1 h1 h0 (by omega)
  · have := Int.mul_le_mul (show -x ≤ -y by omega) (show -x ≤ -y by omega) (by omega) (by omega)
    have e1 : -x * -x = x * x := by grind
    have e2 : -y * -y = y * y := by grind
    omega
theorem sq_zero (x : Int) (h : x * x = 0) : x = 0 := by
  rcases Int.mul_eq_zero.1 h with h | h <;> exact h
end Go.Proofs.Ytgepbfcaimejmaa.WideA

namespace Go.Proofs.Ytgepbfcaimejmaa.PolyA
open Go.RowKit Go.Proofs.YtgepbfcaimejmaaW.PrintWords Go.Proofs.YtgepbfcaimejmaaW.PrintLast Go.Proofs.YtgepbfcaimejmaaW.PrintMore Nums MulA WideA PA

def sgn (n : Int) : Int := if n = 0 then 0 else if n < 0 then -1 else 1
def cr (ax ay bx by_ cx cy : Int) : Int := (bx - ax) * (cy - ay) - (by_ - ay) * (cx - ax)
def val (n : Bool) (m : Int) : Int := if n then -m else m

theorem sub_eq (M E : Int) (h0 : 0 ≤ E) (h1 : E ≤ M) (h2 : M < 340282366920938463463374607431768211456) :
    Ext.poly_sub.f (M / 18446744073709551616) (M % 18446744073709551616) (E / 18446744073709551616) (E % 18446744073709551616) = some ((M - E) / 18446744073709551616, (M - E) % 18446744073709551616) := by
  unfold Ext.poly_sub.f
  rw [if_pos (by omega)]
  unfold Ext.bor
  simp only [Option.some.injEq, Prod.mk.injEq]
  constructor
  · split <;> omega
  · omega

theorem plus_eq (k : Nat) (n1 n2 : Bool) (M1 M2 : Int) (h0 : 0 ≤ M1) (h1 : M1 < 36893488147419103232) (h2 : 0 ≤ M2) (h3 : M2 < 36893488147419103232) :
    ∃ n M, poly_signed_plus.f (k + 3) n1 (M1 / 18446744073709551616) (M1 % 18446744073709551616) n2 (M2 / 18446744073709551616) (M2 % 18446744073709551616) = some (n, M / 18446744073709551616, M % 18446744073709551616) ∧ 0 ≤ M ∧ M ≤ M1 + M2 ∧ val n M = val n1 M1 + val n2 M2 := by
  unfold poly_signed_plus.f
  by_cases hn : n1 = n2
  · subst hn
    refine ⟨n1, M1 + M2, ?_, by omega, by omega, by unfold val; split <;> omega⟩
    rw [add_eq _ _ _ _ (by omega) (by omega) (by omega) (by omega) (by omega) (by omega)]
    simp only [beq_self_eq_true, if_true, Option.bind_some, Option.some.injEq, Prod.mk.injEq, true_and]
    omega
  · have hb : (n1 == n2) = false := by simpa using hn
    rw [hb, cmp_digits]
    simp only [Bool.false_eq_true, if_false, Option.bind_some]
    by_cases h : M1 < M2
    · rw [if_pos h, if_neg (by omega), sub_eq M2 M1 h0 (by omega) (by omega)]
      refine ⟨n2, M2 - M1, rfl, by omega, by omega, ?_⟩
      unfold val
      cases n1 <;> cases n2 <;> simp at * <;> omega
    · have e : (if M1 < M2 then (-1 : Int) else if M2 < M1 then 1 else 0) ≥ 0 := by rw [if_neg h]; split <;> omega
      rw [if_pos e, sub_eq M1 M2 h2 (by omega) (by omega)]
      refine ⟨n1, M1 - M2, rfl, by omega, by omega, ?_⟩
      unfold val
      cases n1 <;> cases n2 <;> simp at * <;> omega

theorem times_eq (a b : Int) (h0 : -4294967296 ≤ a) (h1 : a ≤ 4294967296) (h2 : -4294967296 ≤ b) (h3 : b ≤ 4294967296) :
    ∃ n M, poly_times.f a b = some (n, M / 18446744073709551616, M % 18446744073709551616) ∧ 0 ≤ M ∧ M ≤ 18446744073709551616 ∧ val n M = a * b := by
  have size : ∀ c : Int, -4294967296 ≤ c → c ≤ 4294967296 → ∃ m, poly_size.f c = some m ∧ 0 ≤ m ∧ m ≤ 4294967296 ∧ ((c < 0 ∧ m = -c) ∨ (¬ c < 0 ∧ m = c)) := by
    intro c c0 c1
    unfold poly_size.f
    by_cases h : c < 0
    · refine ⟨-c, ?_, by omega, by omega, .inl ⟨h, rfl⟩⟩
      rw [if_pos h, w64_in _ (by omega) (by omega), u64_in _ (by omega) (by omega)]
    · refine ⟨c, ?_, by omega, by omega, .inr ⟨h, rfl⟩⟩
      rw [if_neg h, u64_in _ (by omega) (by omega)]
  obtain ⟨m, hm, m0, m1, m2⟩ := size a h0 h1
  obtain ⟨q, hq, q0, q1, q2⟩ := size b h2 h3
  unfold poly_times.f
  rw [hm, hq]
  simp only [Option.bind_some]
  rw [mul64 m q m0 (by omega) q0 (by omega)]
  have b := le_mul m q _ _ m0 m1 q0 q1
  refine ⟨_, m * q, rfl, b.1, by omega, ?_⟩
  unfold val
  rcases m2 with ⟨c1, rfl⟩ | ⟨c1, rfl⟩ <;> rcases q2 with ⟨c2, rfl⟩ | ⟨c2, rfl⟩ <;> simp [c1, c2] <;> grind

theorem gapp_eq (a b : Int) (h0 : 0 ≤ a) (h1 : a < 4294967296) (h2 : 0 ≤ b) (h3 : b < 4294967296) : poly_gap.f a b = some (b - a) := by
  unfold poly_gap.f
  rw [w64_in b (by omega) (by omega), w64_in a (by omega) (by omega), w64_in _ (by omega) (by omega)]

theorem turn_eq (k : Nat) (ai ax ay : Int) (ad : ByteArray) (bi bx by_ : Int) (bd : ByteArray) (ci cx cy : Int) (cd : ByteArray)
    (a0 : 0 ≤ ax) (a1 : ax < 4294967296) (a2 : 0 ≤ ay) (a3 : ay < 4294967296) (b0 : 0 ≤ bx) (b1 : bx < 4294967296) (b2 : 0 ≤ by_) (b3 : by_ < 4294967296) (c0 : 0 ≤ cx) (c1 : cx < 4294967296) (c2 : 0 ≤ cy) (c3 : cy < 4294967296) :
    poly_Turn.f (k + 3) ai ax ay ad bi bx by_ bd ci cx cy cd = some (sgn (cr ax ay bx by_ cx cy)) := by
  unfold poly_Turn.f poly_turn.f
  rw [gapp_eq ax bx a0 a1 b0 b1, gapp_eq ay cy a2 a3 c2 c3, gapp_eq ay by_ a2 a3 b2 b3, gapp_eq ax cx a0 a1 c0 c1]
  simp only [Option.bind_some]
  obtain ⟨n1, M1, e1, p0, p1, p2⟩ := times_eq (bx - ax) (cy - ay) (by omega) (by omega) (by omega) (by omega)
  obtain ⟨n2, M2, e2, q0, q1, q2⟩ := times_eq (by_ - ay) (cx - ax) (by omega) (by omega) (by omega) (by omega)
  rw [e1, e2]
  simp only [Option.bind_some]
  unfold poly_signed_minus.f
  obtain ⟨n, M, e, r0, _, r2⟩ := plus_eq k n1 (!n2) M1 M2 p0 (by omega) q0 (by omega)
  rw [e]
  simp only [Option.bind_some]
  unfold poly_signed_sign.f
  have hv : val n M = cr ax ay bx by_ cx cy := by
    unfold cr
    rw [r2, p2, ← q2]
    unfold val
    cases n2 <;> simp <;> omega
  rw [← hv]
  unfold sgn val
  by_cases hM : M = 0
  · subst hM
    simp
  · have hz : (M / 18446744073709551616 == 0 && M % 18446744073709551616 == 0) = false := by
      rw [Bool.eq_false_iff]
      intro h
      simp at h
      omega
    rw [hz]
    cases n
    · simp only [Bool.false_eq_true, if_false]
      rw [if_neg hM, if_neg (by omega)]
      rfl
    · simp only [Bool.false_eq_true, if_false, if_true]
      rw [if_neg (by omega), if_pos (by omega)]
      rfl

theorem sgn_neg (n : Int) : sgn (-n) = -sgn n := by
  unfold sgn
  split <;> split <;> (try split) <;> (try split) <;> omega
theorem sgn_cases (n : Int) : sgn n = -1 ∧ n < 0 ∨ sgn n = 0 ∧ n = 0 ∨ sgn n = 1 ∧ 0 < n := by
  unfold sgn
  split
  · omega
  · split <;> omega

/-! ### small coordinates -/
end Go.Proofs.Ytgepbfcaimejmaa.PolyA
