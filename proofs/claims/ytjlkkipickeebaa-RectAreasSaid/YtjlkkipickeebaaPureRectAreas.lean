/-
  The plain half of the law RectAreas: what its code computes is true, at all numbers and lists of the kinds that come in.
  Conditions: none but the kinds' own bounds.
-/
import Derived.Test.YtjlkkipickeebaaPAx4
import Derived.Test.YtjlkkipickeebaaMulA
namespace Go.Proofs.Ytjlkkipickeebaa.Pure
open Go.RowKit Go.Proofs.Ytjlkkipickeebaa.PA Go.Proofs.YtjlkkipickeebaaW.PrintWords Go.Proofs.YtjlkkipickeebaaW.PrintLast Nums MulA

theorem area_empty (a b c d : Int) (h : a > c ∨ b > d) : rect_Area.f a b c d = some (0, true) := by
  unfold rect_Area.f rect_Empty.f
  by_cases h1 : a > c
  · rw [if_pos h1]; rfl
  · have h2 : b > d := by omega
    rw [if_neg h1]
    simp [h2]
theorem area_of (a b c d : Int) (h1 : 0 ≤ a) (h2 : a ≤ c) (h3 : c < 4294967296) (h4 : 0 ≤ b) (h5 : b ≤ d) (h6 : d < 4294967296) :
    rect_Area.f a b c d = some ((c - a + 1) * (d - b + 1) % 18446744073709551616, decide ((c - a + 1) * (d - b + 1) / 18446744073709551616 = 0)) := by
  unfold rect_Area.f rect_Empty.f
  rw [if_neg (by omega)]
  have e : decide (b > d) = false := by simp; omega
  simp only [Option.bind_some, e, Bool.false_eq_true, if_false]
  rw [show (c - a) % 4294967296 = c - a from by omega, show (d - b) % 4294967296 = d - b from by omega]
  rw [mul64 _ _ (by omega) (by omega) (by omega) (by omega)]
  rfl

theorem RectAreas : croftlaw06_RectAreas.Pure := by
  intro x0 y0 x1 y1 x w0 w1 w2 w3 w4
  have w0 := wf_u32 w0
  have w1 := wf_u32 w1
  have w2 := wf_u32 w2
  have w3 := wf_u32 w3
  have w4 := wf_u32 w4
  refine ⟨3, ?_⟩
  have ha : croftlaw06_alive.f = some true := by
    unfold croftlaw06_alive.f
    rw [area_of 0 0 1 1 (by omega) (by omega) (by omega) (by omega) (by omega) (by omega)]
    rfl
  unfold croftlaw06_RectAreas.f
  rw [ha]
  simp only [Option.bind_some, if_true]
  by_cases he : x0 > x1 ∨ y0 > y1
  · rw [area_empty _ _ _ _ he]
    simp only [Option.bind_some]
    by_cases h1 : x0 > x1
    · rw [if_pos h1]
      simp only [croftlaw06_RectAreas.j0]
      simp
    · have h2 : y0 > y1 := by omega
      rw [if_neg h1]
      have e : decide (y0 > y1) = true := by simp [h2]
      rw [e]
      simp only [croftlaw06_RectAreas.j0]
      simp
  · have h1 : x0 ≤ x1 := by omega
    have h2 : y0 ≤ y1 := by omega
    rw [area_of _ _ _ _ w0.1 h1 w2.2 w1.1 h2 w3.2]
    have e : decide (y0 > y1) = false := by simp; omega
    simp only [Option.bind_some]
    rw [if_neg (by omega), e]
    simp only [croftlaw06_RectAreas.j0, Bool.false_eq_true, if_false]
    rw [show (x1 - x0) % 4294967296 = x1 - x0 from by omega, show (y1 - y0) % 4294967296 = y1 - y0 from by omega, u64_wrap]
    generalize hA : (x1 - x0 + 1) * (y1 - y0 + 1) = A
    have hle : 0 ≤ A ∧ A ≤ 4294967296 * 4294967296 := by
      rw [← hA]; exact le_mul _ _ _ _ (by omega) (by omega) (by omega) (by omega)
    have hstrict : (x1 - x0 + 1 < 4294967296 ∨ y1 - y0 + 1 < 4294967296) → A < 18446744073709551616 := by
      rintro (h | h)
      · have := (le_mul (x1 - x0 + 1) (y1 - y0 + 1) 4294967295 4294967296 (by omega) (by omega) (by omega) (by omega)).2
        omega
      · have := (le_mul (x1 - x0 + 1) (y1 - y0 + 1) 4294967296 4294967295 (by omega) (by omega) (by omega) (by omega)).2
        omega
    have hwhole : (x0 = 0 ∧ y0 = 0 ∧ x1 = 4294967295 ∧ y1 = 4294967295) → A = 18446744073709551616 := by
      rintro ⟨rfl, rfl, rfl, rfl⟩
      omega
    have hne : (decide (A / 18446744073709551616 = 0) == (x0 == 0 && (y0 == 0 && (x1 == 4294967295 && (y1 == 4294967295))))) = false := by
      by_cases hw : x0 = 0 ∧ y0 = 0 ∧ x1 = 4294967295 ∧ y1 = 4294967295
      · have := hwhole hw
        obtain ⟨rfl, rfl, rfl, rfl⟩ := hw
        simp [this]
      · have hlt := hstrict (by omega)
        have e1 : decide (A / 18446744073709551616 = 0) = true := by simp; omega
        rw [e1]
        have e2 : (x0 == 0 && (y0 == 0 && (x1 == 4294967295 && (y1 == 4294967295)))) = false := by
          rw [Bool.eq_false_iff]
          intro h
          simp at h
          exact hw ⟨h.1, h.2.1, h.2.2.1, h.2.2.2⟩
        rw [e2]
        rfl
    rw [hne]
    simp only [Bool.false_eq_true, if_false, bne_self_eq_false, croftlaw06_RectAreas.j1]
    by_cases hx : x < x0
    · rw [if_pos hx]
      simp only [croftlaw06_RectAreas.j2, if_true]
    · rw [if_neg hx]
      by_cases hx2 : x ≥ x1
      · have e3 : decide (x ≥ x1) = true := by simp [hx2]
        rw [e3]
        simp only [croftlaw06_RectAreas.j2, if_true]
      · have e3 : decide (x ≥ x1) = false := by simp; omega
        rw [e3]
        simp only [croftlaw06_RectAreas.j2, Bool.false_eq_true, if_false]
        rw [area_of x0 y0 x y1 (by omega) (by omega) (by omega) (by omega) (by omega) (by omega), show (x + 1) % 4294967296 = x + 1 from by omega, area_of (x + 1) y0 x1 y1 (by omega) (by omega) (by omega) (by omega) (by omega) (by omega)]
        have hsum : (x - x0 + 1) * (y1 - y0 + 1) + (x1 - (x + 1) + 1) * (y1 - y0 + 1) = A := by
          rw [← hA, ← Int.add_mul]
          congr 1
          omega
        have b1 := (le_mul (x - x0 + 1) (y1 - y0 + 1) 4294967295 4294967296 (by omega) (by omega) (by omega) (by omega))
        have b2 := (le_mul (x1 - (x + 1) + 1) (y1 - y0 + 1) 4294967295 4294967296 (by omega) (by omega) (by omega) (by omega))
        generalize (x - x0 + 1) * (y1 - y0 + 1) = B at *
        generalize (x1 - (x + 1) + 1) * (y1 - y0 + 1) = C at *
        have q1 : decide (B / 18446744073709551616 = 0) = true := by simp; omega
        have q2 : decide (C / 18446744073709551616 = 0) = true := by simp; omega
        simp only [Option.bind_some, q1, q2, if_true, u64_wrap]
        congr 1
        simp
        omega
end Go.Proofs.Ytjlkkipickeebaa.Pure
