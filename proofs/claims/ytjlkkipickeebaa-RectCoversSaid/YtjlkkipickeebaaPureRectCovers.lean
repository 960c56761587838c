/-
  The plain half of the law RectCovers: what its code computes is true, at all lists of points.
  Conditions: none but the kinds' own bounds.
-/
import Derived.Test.YtjlkkipickeebaaPCx6
namespace Go.Proofs.Ytjlkkipickeebaa.Pure
open Go.RowKit Go.Proofs.Ytjlkkipickeebaa.PC Go.Proofs.YtjlkkipickeebaaW.PrintWords Go.Proofs.YtjlkkipickeebaaW.PrintLast Go.Proofs.YtjlkkipickeebaaW.PrintMore
namespace RectCoversAux
theorem w64_in (n : Int) (h0 : -9223372036854775808 ≤ n) (h1 : n ≤ 9223372036854775807) : wrap64 n = n := by unfold wrap64; omega
theorem alive06 : croftlaw06_alive.f = some true := by decide +kernel
/-- The least and the greatest of the first m of g, and of g 0. -/
def lo (g : Nat → Int) : Nat → Int
  | 0 => g 0
  | m + 1 => mn (lo g m) (g m)
def hi (g : Nat → Int) : Nat → Int
  | 0 => g 0
  | m + 1 => mx (hi g m) (g m)
/-- Is one of the first m of g the number v? -/
def sd (g : Nat → Int) (v : Int) : Nat → Bool
  | 0 => false
  | m + 1 => sd g v m || (g m == v)
theorem lo_spec (g : Nat → Int) (m : Nat) : (∀ j, j < m → lo g m ≤ g j) ∧ lo g m ≤ g 0 ∧ (lo g m = g 0 ∨ ∃ j, j < m ∧ g j = lo g m) := by
  induction m with
  | zero => exact ⟨fun j h => absurd h (by omega), Int.le_refl _, Or.inl rfl⟩
  | succ m ih =>
    obtain ⟨h1, h2, h3⟩ := ih
    simp only [lo, mn]
    by_cases h : g m < lo g m
    · rw [if_pos h]
      refine ⟨fun j hj => ?_, by omega, Or.inr ⟨m, by omega, rfl⟩⟩
      by_cases e : j = m
      · rw [e]; exact Int.le_refl _
      · have := h1 j (by omega)
        omega
    · rw [if_neg h]
      refine ⟨fun j hj => ?_, h2, ?_⟩
      · by_cases e : j = m
        · rw [e]; omega
        · exact h1 j (by omega)
      · rcases h3 with h3 | ⟨j, hj, e⟩
        · exact Or.inl h3
        · exact Or.inr ⟨j, by omega, e⟩
theorem hi_spec (g : Nat → Int) (m : Nat) : (∀ j, j < m → g j ≤ hi g m) ∧ g 0 ≤ hi g m ∧ (hi g m = g 0 ∨ ∃ j, j < m ∧ g j = hi g m) := by
  induction m with
  | zero => exact ⟨fun j h => absurd h (by omega), Int.le_refl _, Or.inl rfl⟩
  | succ m ih =>
    obtain ⟨h1, h2, h3⟩ := ih
    simp only [hi, mx]
    by_cases h : hi g m < g m
    · rw [if_pos h]
      refine ⟨fun j hj => ?_, by omega, Or.inr ⟨m, by omega, rfl⟩⟩
      by_cases e : j = m
      · rw [e]; exact Int.le_refl _
      · have := h1 j (by omega)
        omega
    · rw [if_neg h]
      refine ⟨fun j hj => ?_, h2, ?_⟩
      · by_cases e : j = m
        · rw [e]; omega
        · exact h1 j (by omega)
      · rcases h3 with h3 | ⟨j, hj, e⟩
        · exact Or.inl h3
        · exact Or.inr ⟨j, by omega, e⟩
theorem sd_true (g : Nat → Int) (v : Int) (j : Nat) (e : g j = v) (m : Nat) (h : j < m) : sd g v m = true := by
  induction m with
  | zero => omega
  | succ m ih =>
    simp only [sd]
    by_cases hj : j < m
    · rw [ih hj]
      rfl
    · have : j = m := by omega
      subst this
      rw [e]
      simp
section
variable (l : List S52) (hn : l.length ≤ 9223372036854775806)
def X (j : Nat) : Int := (l.getD j z52).f1
def Y (j : Nat) : Int := (l.getD j z52).f2
theorem has_eq (a b c d x y : Int) (h1 : a ≤ x) (h2 : x ≤ c) (h3 : b ≤ y) (h4 : y ≤ d) : croftlaw06_has.f a b c d x y = some true := by
  unfold croftlaw06_has.f
  rw [if_pos h1, if_pos h2, if_pos h3, decide_eq_true h4]
include hn
theorem cover_l0 (d : Nat) : ∀ K m : Nat, l.length - m = d → m ≤ l.length →
    rect_Cover.l0 (d + K + 1) l (l.length : Int) m (lo (X l) m) (lo (Y l) m) (hi (X l) m) (hi (Y l) m) = some (lo (X l) l.length, lo (Y l) l.length, hi (X l) l.length, hi (Y l) l.length, true) := by
  induction d with
  | zero =>
    intro K m h1 h2
    obtain rfl : m = l.length := by omega
    simp only [rect_Cover.l0]
    rw [if_neg (by omega)]
  | succ d ih =>
    intro K m h1 h2
    have h := ih K (m + 1) (by omega) (by omega)
    rw [← h]
    obtain ⟨F, hF⟩ : ∃ F, d + K + 1 = F := ⟨_, rfl⟩
    rw [show d + 1 + K + 1 = F + 1 by omega, hF]
    simp only [rect_Cover.l0]
    rw [if_pos (by omega), if_pos (by omega), if_pos (by omega), w64_in ((m : Int) + 1) (by omega) (by omega)]
    rfl
theorem law_l0 (a b c d' : Int) (hx : ∀ j, j < l.length → a ≤ X l j ∧ X l j ≤ c ∧ b ≤ Y l j ∧ Y l j ≤ d')
    (s0 : sd (X l) a l.length = true) (s1 : sd (X l) c l.length = true) (s2 : sd (Y l) b l.length = true) (s3 : sd (Y l) d' l.length = true) (d : Nat) : ∀ K m : Nat, l.length - m = d → m ≤ l.length →
    croftlaw06_RectCovers.l0 (3 * d + K + 1) l true m a b c d' (sd (X l) a m) (sd (X l) c m) (sd (Y l) b m) (sd (Y l) d' m) = some true := by
  induction d with
  | zero =>
    intro K m h1 h2
    obtain rfl : m = l.length := by omega
    simp only [croftlaw06_RectCovers.l0]
    rw [if_neg (by omega), s0, s1, s2, s3]
    rfl
  | succ d ih =>
    intro K m h1 h2
    have h := ih K (m + 1) (by omega) (by omega)
    obtain ⟨g1, g2, g3, g4⟩ := hx m (by omega)
    obtain ⟨F, hF⟩ : ∃ F, 3 * d + K + 1 = F := ⟨_, rfl⟩
    rw [hF] at h
    rw [show 3 * (d + 1) + K + 1 = F + 1 + 1 + 1 by omega]
    rw [← h]
    have hX : (rd_T52 l (m : Int)).f1 = X l m := rfl
    have hY : (rd_T52 l (m : Int)).f2 = Y l m := rfl
    rw [show ((m + 1 : Nat) : Int) = (m : Int) + 1 from rfl] at h
    simp only [croftlaw06_RectCovers.l0]
    rw [if_pos (by omega), if_pos (by omega), hX, hY, has_eq a b c d' _ _ g1 g2 g3 g4]
    simp only [Option.bind_some, if_true, sd]
    have hj : ∀ p q : Bool, croftlaw06_RectCovers.j1 (F + 1 + 1) l true m a b c d' p q (sd (Y l) b m) (sd (Y l) d' m) = croftlaw06_RectCovers.l0 F l true ((m : Int) + 1) a b c d' p q (sd (Y l) b m || (Y l m == b)) (sd (Y l) d' m || (Y l m == d')) := by
      intro p q
      simp only [croftlaw06_RectCovers.j1, croftlaw06_RectCovers.j2, hY]
      rw [w64_in ((m : Int) + 1) (by omega) (by omega)]
      have e1 : (0 : Int) ≤ (m : Int) := by omega
      have e2 : (m : Int) < (l.length : Int) := by omega
      cases sd (Y l) b m <;> cases sd (Y l) d' m <;> simp [e1, e2]
    rw [hj, hj, hj, hj]
    cases sd (X l) a m <;> cases sd (X l) c m <;> simp
end
end RectCoversAux
open RectCoversAux

theorem RectCovers : croftlaw06_RectCovers.Pure := by
  intro l _ hl _
  have hn : l.length ≤ 9223372036854775806 := by omega
  refine ⟨3 * l.length + 1, ?_⟩
  unfold croftlaw06_RectCovers.f
  rw [alive06]
  simp only [Option.bind_some, if_true]
  unfold rect_Cover.f
  by_cases h0 : (l.length : Int) = 0
  · rw [if_pos h0, Option.bind_some, if_pos h0]
    rfl
  · rw [if_neg h0, if_pos (by omega)]
    have hc := cover_l0 l hn l.length (2 * l.length) 0 (by omega) (by omega)
    have hc2 : rect_Cover.l0 (3 * l.length + 1) l (l.length : Int) 0 (rd_T52 l 0).f1 (rd_T52 l 0).f2 (rd_T52 l 0).f1 (rd_T52 l 0).f2 = some (lo (X l) l.length, lo (Y l) l.length, hi (X l) l.length, hi (Y l) l.length, true) := by
      rw [← hc, show l.length + 2 * l.length + 1 = 3 * l.length + 1 by omega]
      rfl
    rw [hc2, Option.bind_some, if_neg h0]
    have side : ∀ (g : Nat → Int) (v : Int), (v = g 0 ∨ ∃ j, j < l.length ∧ g j = v) → sd g v l.length = true := by
      intro g v h
      rcases h with h | ⟨j, hj, e⟩
      · exact sd_true g v 0 h.symm _ (by omega)
      · exact sd_true g v j e _ hj
    have hx := lo_spec (X l) l.length
    have hy := lo_spec (Y l) l.length
    have kx := hi_spec (X l) l.length
    have ky := hi_spec (Y l) l.length
    exact law_l0 l hn _ _ _ _ (fun j hj => ⟨hx.1 j hj, kx.1 j hj, hy.1 j hj, ky.1 j hj⟩) (side _ _ hx.2.2) (side _ _ kx.2.2) (side _ _ hy.2.2) (side _ _ ky.2.2) l.length 0 0 (by omega) (by omega)
end Go.Proofs.Ytjlkkipickeebaa.Pure
