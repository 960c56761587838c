/-
  The plain half of the law WideTells: what its code computes is true, at all numbers of the kinds that come in.
  Conditions: none but the kinds' own bounds.
-/
import Derived.Test.YtjlkkipickeebaaWideB
import Derived.Test.YtjlkkipickeebaaPBx8
namespace Go.Proofs.Ytjlkkipickeebaa.Pure
open Go.RowKit Go.Proofs.Ytjlkkipickeebaa.PB Go.Proofs.YtjlkkipickeebaaW.PrintWords Go.Proofs.YtjlkkipickeebaaW.PrintLast Nums MulB WideB

theorem alive03' (k : Nat) : croftlaw03_alive.f (k + 3) = some true := by
  unfold croftlaw03_alive.f
  rw [between_eq k 0 0 3 4 (by omega) (by omega) (by omega) (by omega) (by omega) (by omega) (by omega) (by omega)]
  rfl
theorem refgap_eq (a b : Int) (h0 : 0 ≤ a) (h1 : a < 4294967296) (h2 : 0 ≤ b) (h3 : b < 4294967296) :
    ∃ g, croftref03_gap.f a b = some g ∧ 0 ≤ g ∧ g ≤ 4294967295 ∧ g * g = (a - b) * (a - b) := by
  unfold croftref03_gap.f
  by_cases h : a > b
  · refine ⟨a - b, ?_, by omega, by omega, rfl⟩
    rw [if_pos h]
    congr 1
    omega
  · refine ⟨b - a, ?_, by omega, by omega, by grind⟩
    rw [if_neg h]
    congr 1
    omega
theorem refbetween_eq (x0 y0 x1 y1 : Int) (a0 : 0 ≤ x0) (a1 : x0 < 4294967296) (b0 : 0 ≤ y0) (b1 : y0 < 4294967296) (c0 : 0 ≤ x1) (c1 : x1 < 4294967296) (e0 : 0 ≤ y1) (e1 : y1 < 4294967296) :
    croftref03_Between.f x0 y0 x1 y1 = some (d2 x0 y0 x1 y1 / 18446744073709551616, d2 x0 y0 x1 y1 % 18446744073709551616) := by
  obtain ⟨g, hg, g0, g1, g2⟩ := refgap_eq x0 x1 a0 a1 c0 c1
  obtain ⟨g', hg', g0', g1', g2'⟩ := refgap_eq y0 y1 b0 b1 e0 e1
  unfold croftref03_Between.f d2
  simp only [hg, hg', Option.bind_some]
  have b := le_mul g g _ _ g0 g1 g0 g1
  have b' := le_mul g' g' _ _ g0' g1' g0' g1'
  rw [← g2, ← g2']
  generalize g * g = q at *
  generalize g' * g' = r at *
  rw [u64_in q (by omega) (by omega), u64_in r (by omega) (by omega), u64_wrap]
  by_cases h : (q + r) % 18446744073709551616 < q
  · rw [if_pos h, show (q + r) / 18446744073709551616 = 1 from by omega]
  · rw [if_neg h, show (q + r) / 18446744073709551616 = 0 from by omega]
theorem less_eq (a b c d : Int) : croftref03_Less.f a b c d = some (decide (a < c ∨ a = c ∧ b < d)) := by
  unfold croftref03_Less.f
  by_cases h : a < c
  · simp [h]
  · by_cases h' : a = c
    · simp [h']
    · simp [h, h']

theorem WideTells : croftlaw03_WideTells.Pure := by
  intro x0 y0 x1 y1 a b c d w0 w1 w2 w3 w4 w5 w6 w7
  have w0 := wf_u32 w0
  have w1 := wf_u32 w1
  have w2 := wf_u32 w2
  have w3 := wf_u32 w3
  refine ⟨5, ?_⟩
  unfold croftlaw03_WideTells.f
  rw [alive03', refbetween_eq x0 y0 x1 y1 w0.1 w0.2 w1.1 w1.2 w2.1 w2.2 w3.1 w3.2]
  simp only [Option.bind_some, if_true, less_eq]
  have hj : ∀ z, z = (if a < c ∨ a = c ∧ b < d then (-1 : Int) else if c < a ∨ a = c ∧ d < b then 1 else 0) →
      croftlaw03_WideTells.j1 4 x0 y0 x1 y1 (d2 x0 y0 x1 y1 / 18446744073709551616) (d2 x0 y0 x1 y1 % 18446744073709551616) z a b c d = some true := by
    intro z hz
    simp only [croftlaw03_WideTells.j1]
    rw [between_eq 0 x0 y0 x1 y1 w0.1 w0.2 w1.1 w1.2 w2.1 w2.2 w3.1 w3.2, cmp_eq 0, square_eq x0 w0.1 (by omega), alive03' 0]
    have b := le_mul x0 x0 _ _ w0.1 (show x0 ≤ 4294967295 by omega) w0.1 (show x0 ≤ 4294967295 by omega)
    rw [u64_in x0 w0.1 (by omega), u64_in (x0 * x0) b.1 (by omega)]
    simp [← hz]
  have key : ∀ z, z = (if a < c ∨ a = c ∧ b < d then (-1 : Int) else 0) →
      croftlaw03_WideTells.j0 5 x0 y0 x1 y1 (d2 x0 y0 x1 y1 / 18446744073709551616) (d2 x0 y0 x1 y1 % 18446744073709551616) z a b c d = some true := by
    intro z hz
    simp only [croftlaw03_WideTells.j0, less_eq, Option.bind_some]
    by_cases h1 : c < a ∨ c = a ∧ d < b
    · simp only [h1, decide_true, if_true]
      apply hj
      rw [if_neg (by omega), if_pos (by omega)]
    · simp only [h1, decide_false, Bool.false_eq_true, if_false]
      apply hj
      rw [hz]
      by_cases h2 : a < c ∨ a = c ∧ b < d
      · rw [if_pos h2, if_pos h2]
      · rw [if_neg h2, if_neg h2, if_neg (by omega)]
  by_cases h : a < c ∨ a = c ∧ b < d
  · simp only [h, decide_true, if_true]
    apply key
    rw [if_pos h]
  · simp only [h, decide_false, Bool.false_eq_true, if_false]
    apply key
    rw [if_neg h]
end Go.Proofs.Ytjlkkipickeebaa.Pure
