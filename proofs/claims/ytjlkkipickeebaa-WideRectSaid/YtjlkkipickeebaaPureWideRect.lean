/-
  The plain half of the law WideRect: what its code computes is true, at all numbers of the kinds that come in.
  Conditions: none but the kinds' own bounds.
-/
import Derived.Test.YtjlkkipickeebaaWideB
import Derived.Test.YtjlkkipickeebaaPBx10
namespace Go.Proofs.Ytjlkkipickeebaa.Pure
open Go.RowKit Go.Proofs.Ytjlkkipickeebaa.PB Go.Proofs.YtjlkkipickeebaaW.PrintWords Go.Proofs.YtjlkkipickeebaaW.PrintLast Go.Proofs.YtjlkkipickeebaaW.PrintMore Nums MulB WideB

theorem alive03r (k : Nat) : croftlaw03_alive.f (k + 3) = some true := by
  unfold croftlaw03_alive.f
  rw [between_eq k 0 0 3 4 (by omega) (by omega) (by omega) (by omega) (by omega) (by omega) (by omega) (by omega)]
  rfl
/-- The nearest number. -/
theorem near_of (x lo hi : Int) (h : lo ≤ hi) : ∃ n, mn (mx x lo) hi = n ∧ lo ≤ n ∧ n ≤ hi ∧ (n = x ∨ x < lo ∧ n = lo ∨ hi < x ∧ n = hi) := by
  refine ⟨_, rfl, ?_⟩
  unfold mn mx
  split <;> split <;> omega
theorem mnmx (a b : Int) : mn a b ≤ mx a b ∧ (mn a b = a ∨ mn a b = b) ∧ (mx a b = a ∨ mx a b = b) := by
  unfold mn mx
  split <;> split <;> omega

theorem WideRect : croftlaw03_WideRect.Pure := by
  intro x y rx0 ry0 rx1 ry1 a b w0 w1 w2 w3 w4 w5 _ _
  have w0 := wf_u32 w0
  have w1 := wf_u32 w1
  have w2 := wf_u32 w2
  have w3 := wf_u32 w3
  have w4 := wf_u32 w4
  have w5 := wf_u32 w5
  refine ⟨5, ?_⟩
  unfold croftlaw03_WideRect.f wide_Rect.f wide_near.f
  have hX := mnmx rx0 rx1
  have hY := mnmx ry0 ry1
  generalize mn rx0 rx1 = x0 at *
  generalize mx rx0 rx1 = x1 at *
  generalize mn ry0 ry1 = y0 at *
  generalize mx ry0 ry1 = y1 at *
  have x0b : 0 ≤ x0 ∧ x0 < 4294967296 := by omega
  have x1b : 0 ≤ x1 ∧ x1 < 4294967296 := by omega
  have y0b : 0 ≤ y0 ∧ y0 < 4294967296 := by omega
  have y1b : 0 ≤ y1 ∧ y1 < 4294967296 := by omega
  obtain ⟨n, hn, n0, n1, n2⟩ := near_of x x0 x1 hX.1
  obtain ⟨m, hm, m0, m1, m2⟩ := near_of y y0 y1 hY.1
  obtain ⟨p, hp, p0, p1, p2⟩ := near_of a x0 x1 hX.1
  obtain ⟨q, hq, q0, q1, q2⟩ := near_of b y0 y1 hY.1
  rw [alive03r, hn, hm]
  simp only [Option.bind_some, if_true]
  rw [between_eq 2 x y n m w0.1 w0.2 w1.1 w1.2 (by omega) (by omega) (by omega) (by omega)]
  simp only [Option.bind_some]
  have hD := d2_bound x y n m w0.1 w0.2 w1.1 w1.2 (by omega) (by omega) (by omega) (by omega)
  have hle : d2 x y n m ≤ d2 x y p q := by
    unfold d2
    have s1 := sq_le (x - n) (x - p) (by omega)
    have s2 := sq_le (y - m) (y - q) (by omega)
    omega
  have hj1 : croftlaw03_WideRect.j1 4 x y a b x0 x1 y0 y1 false (d2 x y n m / 18446744073709551616) (d2 x y n m % 18446744073709551616) = some true := by
    simp only [croftlaw03_WideRect.j1, Bool.false_eq_true, if_false]
    rw [hp, hq, between_eq 0 x y p q w0.1 w0.2 w1.1 w1.2 (by omega) (by omega) (by omega) (by omega)]
    simp only [Option.bind_some]
    rw [cmp_digits 0]
    simp only [Option.bind_some, Option.some.injEq]
    by_cases h : d2 x y n m < d2 x y p q
    · simp [h]
    · rw [if_neg h, if_neg (by omega)]
      rfl
  have hj0 : ∀ z, z = decide (x0 ≤ x ∧ x ≤ x1 ∧ y0 ≤ y ∧ y ≤ y1) →
      croftlaw03_WideRect.j0 5 x y a b x0 x1 y0 y1 z (d2 x y n m / 18446744073709551616) (d2 x y n m % 18446744073709551616) = some true := by
    intro z hz
    have hzero : (d2 x y n m / 18446744073709551616 == 0 && d2 x y n m % 18446744073709551616 == 0) = z := by
      rw [hz]
      by_cases hin : x0 ≤ x ∧ x ≤ x1 ∧ y0 ≤ y ∧ y ≤ y1
      · have e1 : n = x := by omega
        have e2 : m = y := by omega
        have : d2 x y n m = 0 := by unfold d2; rw [e1, e2]; simp
        rw [this]
        simp [hin]
      · have hne : d2 x y n m ≠ 0 := by
          intro h0
          unfold d2 at h0
          have s1 := sq_nonneg (x - n)
          have s2 := sq_nonneg (y - m)
          have e1 := sq_zero (x - n) (by omega)
          have e2 := sq_zero (y - m) (by omega)
          omega
        rw [show decide (x0 ≤ x ∧ x ≤ x1 ∧ y0 ≤ y ∧ y ≤ y1) = false from by simpa using hin]
        rw [Bool.eq_false_iff]
        intro h
        simp at h
        omega
    simp only [croftlaw03_WideRect.j0, hzero, bne_self_eq_false, Bool.false_eq_true, if_false]
    rw [hn, hm, between_eq 1 x y n m w0.1 w0.2 w1.1 w1.2 (by omega) (by omega) (by omega) (by omega)]
    simpa using hj1
  by_cases c1 : x ≥ x0
  · rw [if_pos c1]
    by_cases c2 : x ≤ x1
    · rw [if_pos c2]
      by_cases c3 : y ≥ y0
      · rw [if_pos c3]
        apply hj0
        by_cases c4 : y ≤ y1
        · simp [c4]; omega
        · simp [c4]
      · rw [if_neg c3]
        apply hj0
        symm; simp; omega
    · rw [if_neg c2]
      apply hj0
      symm; simp; omega
  · rw [if_neg c1]
    apply hj0
    symm; simp; omega
end Go.Proofs.Ytjlkkipickeebaa.Pure
