/-
  Squares of distances, as printed: what wide.Between and wide.Cmp answer.
  Conditions: coordinates are of Go's uint32.
-/
import Derived.Test.YtgepbfcaimejmaaMulP
import Derived.Test.YtgepbfcaimejmaaPPx3
import Derived.Test.YtgepbfcaimejmaaPPx2
namespace Go.Proofs.Ytgepbfcaimejmaa.WideP
open Go.RowKit Go.Proofs.YtgepbfcaimejmaaW.PrintWords Go.Proofs.YtgepbfcaimejmaaW.PrintLast Go.Proofs.YtgepbfcaimejmaaW.PrintMore Nums MulP PP

theorem add_eq (a b c d : Int) (h0 : 0 ≤ a) (h1 : 0 ≤ b) (h2 : 0 ≤ c) (h3 : 0 ≤ d) (h4 : b < 18446744073709551616) (h5 : d < 18446744073709551616) :
    Ext.wide_Add.f a b c d = some ((a + c + (b + d) / 18446744073709551616) % 18446744073709551616, (b + d) % 18446744073709551616) := by
  unfold Ext.wide_Add.f
  rw [if_pos ⟨h0, h1, h2, h3, h4, h5⟩]

/-- The squared distance, exactly. -/
def d2 (x0 y0 x1 y1 : Int) : Int := (x0 - x1) * (x0 - x1) + (y0 - y1) * (y0 - y1)

theorem gap_eq (a b : Int) (h0 : 0 ≤ a) (h1 : a < 4294967296) (h2 : 0 ≤ b) (h3 : b < 4294967296) :
    ∃ g, wide_gap.f a b = some g ∧ 0 ≤ g ∧ g ≤ 4294967295 ∧ g * g = (a - b) * (a - b) := by
  unfold wide_gap.f mx mn
  by_cases h : a < b
  · refine ⟨b - a, ?_, by omega, by omega, by grind⟩
    rw [if_pos h, if_neg (by omega)]
    congr 1
    omega
  · by_cases h' : b < a
    · refine ⟨a - b, ?_, by omega, by omega, rfl⟩
      rw [if_neg h, if_pos h']
      congr 1
      omega
    · obtain rfl : a = b := by omega
      refine ⟨0, ?_, by omega, by omega, by simp⟩
      rw [if_neg h]
      simp
theorem square_eq (g : Int) (h0 : 0 ≤ g) (h1 : g ≤ 4294967295) : wide_Square.f g = some (0, g * g) := by
  unfold wide_Square.f
  have b := le_mul g g _ _ h0 h1 h0 h1
  rw [u64_in g h0 (by omega), mul64 g g h0 (by omega) h0 (by omega)]
  generalize g * g = z at *
  simp only [Option.bind_some, Option.some.injEq, Prod.mk.injEq]
  omega
theorem sum_eq (k : Nat) (q r : Int) (h0 : 0 ≤ q) (h1 : q < 18446744073709551616) (h2 : 0 ≤ r) (h3 : r < 18446744073709551616) :
    wide_sum.f (k + 3) [(⟨0, q⟩ : S43), ⟨0, r⟩] = some ((q + r) / 18446744073709551616, (q + r) % 18446744073709551616) := by
  have e1 : Ext.wide_Add.f 0 0 0 q = some (0, q) := by
    rw [add_eq 0 0 0 q (by omega) (by omega) (by omega) h0 (by omega) h1]
    simp only [Option.some.injEq, Prod.mk.injEq]
    omega
  have e2 : Ext.wide_Add.f 0 q 0 r = some ((q + r) / 18446744073709551616, (q + r) % 18446744073709551616) := by
    rw [add_eq 0 q 0 r (by omega) h0 (by omega) h2 h1 h3, show (0 + 0 + (q + r) / 18446744073709551616) % 18446744073709551616 = (q + r) / 18446744073709551616 from by omega]
  simp [wide_sum.f, wide_sum.l0, rd_T43, wrap64, e1, e2]
theorem d2_bound (x0 y0 x1 y1 : Int) (a0 : 0 ≤ x0) (a1 : x0 < 4294967296) (b0 : 0 ≤ y0) (b1 : y0 < 4294967296) (c0 : 0 ≤ x1) (c1 : x1 < 4294967296) (e0 : 0 ≤ y1) (e1 : y1 < 4294967296) :
    0 ≤ d2 x0 y0 x1 y1 ∧ d2 x0 y0 x1 y1 < 36893488147419103232 := by
  obtain ⟨g, _, g0, g1, g2⟩ := gap_eq x0 x1 a0 a1 c0 c1
  obtain ⟨g', _, g0', g1', g2'⟩ := gap_eq y0 y1 b0 b1 e0 e1
  have b := le_mul g g _ _ g0 g1 g0 g1
  have b' := le_mul g' g' _ _ g0' g1' g0' g1'
  unfold d2
  rw [← g2, ← g2']
  omega
theorem between_eq (k : Nat) (x0 y0 x1 y1 : Int) (a0 : 0 ≤ x0) (a1 : x0 < 4294967296) (b0 : 0 ≤ y0) (b1 : y0 < 4294967296) (c0 : 0 ≤ x1) (c1 : x1 < 4294967296) (e0 : 0 ≤ y1) (e1 : y1 < 4294967296) :
    wide_Between.f (k + 3) x0 y0 x1 y1 = some (d2 x0 y0 x1 y1 / 18446744073709551616, d2 x0 y0 x1 y1 % 18446744073709551616) := by
  obtain ⟨g, hg, g0, g1, g2⟩ := gap_eq x0 x1 a0 a1 c0 c1
  obtain ⟨g', hg', g0', g1', g2'⟩ := gap_eq y0 y1 b0 b1 e0 e1
  unfold wide_Between.f
  simp only [hg, hg', Option.bind_some, square_eq g g0 g1, square_eq g' g0' g1']
  have b := le_mul g g _ _ g0 g1 g0 g1
  have b' := le_mul g' g' _ _ g0' g1' g0' g1'
  rw [sum_eq k (g * g) (g' * g') b.1 (by omega) b'.1 (by omega)]
  unfold d2
  rw [g2, g2']
  rfl
theorem compare_eq (a b : Int) : cmp_Compare_uint64.f a b = some (if a < b then -1 else if b < a then 1 else 0) := by
  unfold cmp_Compare_uint64.f cmp_isNaN_uint64.f
  simp only [Option.bind_some, bne_self_eq_false, Bool.false_eq_true, if_false]
  by_cases h : a < b
  · simp [h]
  · by_cases h' : b < a
    · simp [h, h']
    · simp [h, h']
theorem or_eq (k : Nat) (x y : Int) : cmp_Or_int.f (k + 3) [x, y] = some (if x = 0 then y else x) := by
  by_cases hx : x = 0
  · by_cases hy : y = 0
    · simp [cmp_Or_int.f, cmp_Or_int.l0, rd, wrap64, hx, hy]
    · simp [cmp_Or_int.f, cmp_Or_int.l0, rd, wrap64, hx, hy]
  · simp [cmp_Or_int.f, cmp_Or_int.l0, rd, hx]
theorem cmp_eq (k : Nat) (a b c d : Int) : wide_Cmp.f (k + 3) a b c d = some (if a < c ∨ a = c ∧ b < d then -1 else if c < a ∨ a = c ∧ d < b then 1 else 0) := by
  unfold wide_Cmp.f
  simp only [compare_eq, Option.bind_some, or_eq, Option.some.injEq]
  by_cases h1 : a < c
  · simp [h1]
  · by_cases h2 : c < a
    · have : ¬ a = c := by omega
      simp [h1, h2, this]
    · have : a = c := by omega
      subst this
      simp
/-- Two numbers of two digits each are compared as they are. -/
theorem cmp_digits (k : Nat) (D E : Int) : wide_Cmp.f (k + 3) (D / 18446744073709551616) (D % 18446744073709551616) (E / 18446744073709551616) (E % 18446744073709551616) = some (if D < E then -1 else if E < D then 1 else 0) := by
  rw [cmp_eq]
  by_cases h1 : D < E
  · rw [if_pos (show D < E from h1), if_pos (by omega)]
  · rw [if_neg (show ¬ D < E from h1), if_neg (by omega)]
    by_cases h2 : E < D
    · rw [if_pos (show E < D from h2), if_pos (by omega)]
    · rw [if_neg (show ¬ E < D from h2), if_neg (by omega)]
theorem sq_nonneg (x : Int) : 0 ≤ x * x := by
  rcases Int.le_total 0 x with h | h
  · exact Int.mul_nonneg h h
  · have := Int.mul_nonneg (show 0 ≤ -x by omega) (show 0 ≤ -x by omega)
    have e : -x * -x = x * x := by grind
    omega
theorem sq_le (x y : Int) (h : (0 ≤ x ∧ x ≤ y) ∨ (y ≤ x ∧ x ≤ 0)) : x * x ≤ y * y := by
  rcases h with ⟨h0, h1⟩ | ⟨h0, h1⟩
  · exact Int.mul_le_mul h1 h1 h0 (by omega)
  · have := Int.mul_le_mul (show -x ≤ -y by omega) (show -x ≤ -y by omega) (by omega) (by omega)
    have e1 : -x * -x = x * x := by grind
    have e2 : -y * -y = y * y := by grind
    omega
theorem sq_zero (x : Int) (h : x * x = 0) : x = 0 := by
  rcases Int.mul_eq_zero.1 h with h | h <;> exact h
end Go.Proofs.Ytgepbfcaimejmaa.WideP
