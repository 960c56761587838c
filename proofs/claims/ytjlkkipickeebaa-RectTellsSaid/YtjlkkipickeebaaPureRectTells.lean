/-
  The plain half of the law RectTells: what its code computes is true, at all windows and places.
  Conditions: none but the kinds' own bounds.
-/
import Derived.Test.YtjlkkipickeebaaPRx5
namespace Go.Proofs.Ytjlkkipickeebaa.Pure
open Go.RowKit Go.Proofs.Ytjlkkipickeebaa.PR Go.Proofs.YtjlkkipickeebaaW.PrintWords Go.Proofs.YtjlkkipickeebaaW.PrintLast

set_option linter.unusedSimpArgs false
namespace RectTellsAux
/-- Has a window no place? -/
def em (a b c d : Int) : Prop := c < a ∨ d < b
instance (a b c d : Int) : Decidable (em a b c d) := by unfold em; infer_instance
/-- Is a place in a window? -/
def hs (a b c d x y : Int) : Prop := a ≤ x ∧ x ≤ c ∧ b ≤ y ∧ y ≤ d
instance (a b c d x y : Int) : Decidable (hs a b c d x y) := by unfold hs; infer_instance
theorem empty_eq (a b c d : Int) : rect_Empty.f a b c d = some (decide (em a b c d)) := by
  unfold rect_Empty.f em
  by_cases h : c < a
  · simp [h]
  · simp [h]
theorem none_eq (a b c d : Int) : croftlaw06_RectTells_1.f a b c d = some (decide (em a b c d)) := by
  unfold croftlaw06_RectTells_1.f em
  by_cases h : c < a
  · simp [h]
  · simp [h]
theorem has_eq (a b c d x y : Int) : croftlaw06_has.f a b c d x y = some (decide (hs a b c d x y)) := by
  unfold croftlaw06_has.f hs
  by_cases h1 : a ≤ x
  · by_cases h2 : x ≤ c
    · by_cases h3 : b ≤ y
      · simp [h1, h2, h3]
      · simp [h1, h2, h3]
    · simp [h1, h2]
  · simp [h1]
theorem rhas_eq (a b c d x y : Int) : rect_Has.f a b c d x y = some (decide (hs a b c d x y)) := by
  unfold rect_Has.f hs
  by_cases h1 : a ≤ x
  · by_cases h2 : x ≤ c
    · by_cases h3 : b ≤ y
      · simp [h1, h2, h3]
      · simp [h1, h2, h3]
    · simp [h1, h2]
  · simp [h1]
/-- Have two windows no place in common? -/
def ec (a0 a1 a2 a3 b0 b1 b2 b3 : Int) : Prop := em a0 a1 a2 a3 ∨ em b0 b1 b2 b3 ∨ em (mx a0 b0) (mx a1 b1) (mn a2 b2) (mn a3 b3)
instance (a0 a1 a2 a3 b0 b1 b2 b3 : Int) : Decidable (ec a0 a1 a2 a3 b0 b1 b2 b3) := by unfold ec; infer_instance
theorem cut_eq (a0 a1 a2 a3 b0 b1 b2 b3 : Int) : rect_Cut.f a0 a1 a2 a3 b0 b1 b2 b3 = some (if ec a0 a1 a2 a3 b0 b1 b2 b3 then (1, 1, 0, 0) else (mx a0 b0, mx a1 b1, mn a2 b2, mn a3 b3)) := by
  unfold rect_Cut.f rect_none.f ec
  simp only [empty_eq, Option.bind_some]
  by_cases h1 : em a0 a1 a2 a3
  · simp [h1]
  · by_cases h2 : em b0 b1 b2 b3
    · simp [h1, h2]
    · by_cases h3 : em (mx a0 b0) (mx a1 b1) (mn a2 b2) (mn a3 b3)
      · simp [h1, h2, h3]
      · simp [h1, h2, h3]
def meets (a0 a1 a2 a3 b0 b1 b2 b3 : Int) : Prop := ¬ em a0 a1 a2 a3 ∧ ¬ em b0 b1 b2 b3 ∧ a0 ≤ b2 ∧ b0 ≤ a2 ∧ a1 ≤ b3 ∧ b1 ≤ a3
instance (a0 a1 a2 a3 b0 b1 b2 b3 : Int) : Decidable (meets a0 a1 a2 a3 b0 b1 b2 b3) := by unfold meets; infer_instance
def within (a0 a1 a2 a3 b0 b1 b2 b3 : Int) : Prop := em a0 a1 a2 a3 ∨ (¬ em b0 b1 b2 b3 ∧ b0 ≤ a0 ∧ a2 ≤ b2 ∧ b1 ≤ a1 ∧ a3 ≤ b3)
instance (a0 a1 a2 a3 b0 b1 b2 b3 : Int) : Decidable (within a0 a1 a2 a3 b0 b1 b2 b3) := by unfold within; infer_instance
theorem meets_ec (a0 a1 a2 a3 b0 b1 b2 b3 : Int) : meets a0 a1 a2 a3 b0 b1 b2 b3 ↔ ¬ ec a0 a1 a2 a3 b0 b1 b2 b3 := by
  unfold meets ec em mx mn
  repeat' split
  all_goals omega
theorem meets_eq (a0 a1 a2 a3 b0 b1 b2 b3 : Int) : rect_Meets.f a0 a1 a2 a3 b0 b1 b2 b3 = some (decide (meets a0 a1 a2 a3 b0 b1 b2 b3)) := by
  unfold rect_Meets.f
  simp only [cut_eq, Option.bind_some, empty_eq]
  have h := meets_ec a0 a1 a2 a3 b0 b1 b2 b3
  by_cases c : ec a0 a1 a2 a3 b0 b1 b2 b3
  · rw [if_pos c, decide_eq_false (fun z => h.1 z c)]
    rfl
  · rw [if_neg c, decide_eq_true (h.2 c)]
    have c2 : ¬ em (mx a0 b0) (mx a1 b1) (mn a2 b2) (mn a3 b3) := fun z => c (Or.inr (Or.inr z))
    simp [c2]
theorem mx_or (a b : Int) : (mx a b = a ∧ b ≤ a) ∨ (mx a b = b ∧ a < b) := by unfold mx; split <;> omega
theorem mn_or (a b : Int) : (mn a b = a ∧ a ≤ b) ∨ (mn a b = b ∧ b < a) := by unfold mn; split <;> omega
theorem within_eq (a0 a1 a2 a3 b0 b1 b2 b3 : Int) : rect_Within.f a0 a1 a2 a3 b0 b1 b2 b3 = some (decide (within a0 a1 a2 a3 b0 b1 b2 b3)) := by
  unfold rect_Within.f
  simp only [cut_eq, Option.bind_some, empty_eq, decide_eq_true_eq]
  by_cases c0 : em a0 a1 a2 a3
  · rw [if_pos c0, decide_eq_true (show within a0 a1 a2 a3 b0 b1 b2 b3 from Or.inl c0)]
  · rw [if_neg c0]
    congr 1
    rw [Bool.eq_iff_iff]
    simp only [Bool.and_eq_true, beq_iff_eq, decide_eq_true_eq]
    have q0 := mx_or a0 b0
    have q1 := mx_or a1 b1
    have q2 := mn_or a2 b2
    have q3 := mn_or a3 b3
    by_cases c : ec a0 a1 a2 a3 b0 b1 b2 b3
    · rw [if_pos c]
      unfold within ec em at *
      simp only
      generalize mx a0 b0 = m0 at *
      generalize mx a1 b1 = m1 at *
      generalize mn a2 b2 = m2 at *
      generalize mn a3 b3 = m3 at *
      omega
    · rw [if_neg c]
      unfold within ec em at *
      simp only
      generalize mx a0 b0 = m0 at *
      generalize mx a1 b1 = m1 at *
      generalize mn a2 b2 = m2 at *
      generalize mn a3 b3 = m3 at *
      omega
theorem cut_has (a0 a1 a2 a3 b0 b1 b2 b3 x y : Int) (c : Int × Int × Int × Int) (hc : c = if ec a0 a1 a2 a3 b0 b1 b2 b3 then (1, 1, 0, 0) else (mx a0 b0, mx a1 b1, mn a2 b2, mn a3 b3)) :
    hs c.1 c.2.1 c.2.2.1 c.2.2.2 x y ↔ hs a0 a1 a2 a3 x y ∧ hs b0 b1 b2 b3 x y := by
  by_cases h : ec a0 a1 a2 a3 b0 b1 b2 b3
  · rw [if_pos h] at hc
    subst hc
    unfold hs ec em mx mn at *
    revert h
    repeat' split
    all_goals (intro h; simp only; omega)
  · rw [if_neg h] at hc
    subst hc
    unfold hs mx mn
    repeat' split
    all_goals (simp only; omega)
theorem j2_eq (k : Nat) (u v : Bool) (a0 a1 a2 a3 b0 b1 b2 b3 : Int) (c : Int × Int × Int × Int) (hc : c = if ec a0 a1 a2 a3 b0 b1 b2 b3 then (1, 1, 0, 0) else (mx a0 b0, mx a1 b1, mn a2 b2, mn a3 b3))
    (hu : u = decide (meets a0 a1 a2 a3 b0 b1 b2 b3)) (hv : v = decide (within a0 a1 a2 a3 b0 b1 b2 b3)) :
    croftlaw06_RectTells.j2 (k + 1) u v a0 a1 a2 a3 b0 b1 b2 b3 c.1 c.2.1 c.2.2.1 c.2.2.2 = some true := by
  simp only [croftlaw06_RectTells.j2]
  rw [meets_eq, within_eq]
  simp only [Option.bind_some, ← hu, ← hv, beq_self_eq_true, if_true]
  by_cases h : meets a0 a1 a2 a3 b0 b1 b2 b3
  · rw [if_pos (by rw [hu]; exact decide_eq_true h)]
  · rw [if_neg (by rw [hu, decide_eq_false h]; simp)]
    have e : ec a0 a1 a2 a3 b0 b1 b2 b3 := by
      by_cases e : ec a0 a1 a2 a3 b0 b1 b2 b3
      · exact e
      · exact absurd ((meets_ec _ _ _ _ _ _ _ _).2 e) h
    rw [hc, if_pos e]
    rfl
theorem j1_eq (k : Nat) (u : Bool) (a0 a1 a2 a3 b0 b1 b2 b3 : Int) (c : Int × Int × Int × Int) (hc : c = if ec a0 a1 a2 a3 b0 b1 b2 b3 then (1, 1, 0, 0) else (mx a0 b0, mx a1 b1, mn a2 b2, mn a3 b3))
    (hu : u = decide (meets a0 a1 a2 a3 b0 b1 b2 b3)) :
    croftlaw06_RectTells.j1 (k + 2) u a0 a1 a2 a3 b0 b1 b2 b3 c.1 c.2.1 c.2.2.1 c.2.2.2 = some true := by
  have fin : ∀ v, (v = true ↔ within a0 a1 a2 a3 b0 b1 b2 b3) → croftlaw06_RectTells.j2 (k + 1) u v a0 a1 a2 a3 b0 b1 b2 b3 c.1 c.2.1 c.2.2.1 c.2.2.2 = some true := fun v hv => j2_eq k u v a0 a1 a2 a3 b0 b1 b2 b3 c hc hu (by rw [Bool.eq_iff_iff, decide_eq_true_eq]; exact hv)
  rw [show k + 2 = (k + 1) + 1 from rfl]
  obtain ⟨K, hK⟩ : ∃ K, k + 1 = K := ⟨_, rfl⟩
  rw [hK] at fin ⊢
  simp only [croftlaw06_RectTells.j1, none_eq, Option.bind_some, decide_eq_true_eq]
  by_cases h1 : em a0 a1 a2 a3
  · rw [if_pos h1]
    exact fin _ (by unfold within em at *; simp only [decide_eq_true_eq, Bool.false_eq_true, true_iff, false_iff]; omega)
  · rw [if_neg h1]
    by_cases h2 : em b0 b1 b2 b3
    · rw [if_pos h2]
      exact fin _ (by unfold within em at *; simp only [decide_eq_true_eq, Bool.false_eq_true, true_iff, false_iff]; omega)
    · rw [if_neg h2]
      by_cases h3 : a0 ≥ b0
      · rw [if_pos h3]
        by_cases h4 : a2 ≤ b2
        · rw [if_pos h4]
          by_cases h5 : a1 ≥ b1
          · rw [if_pos h5]
            exact fin _ (by unfold within em at *; simp only [decide_eq_true_eq, Bool.false_eq_true, true_iff, false_iff]; omega)
          · rw [if_neg h5]
            exact fin _ (by unfold within em at *; simp only [decide_eq_true_eq, Bool.false_eq_true, true_iff, false_iff]; omega)
        · rw [if_neg h4]
          exact fin _ (by unfold within em at *; simp only [decide_eq_true_eq, Bool.false_eq_true, true_iff, false_iff]; omega)
      · rw [if_neg h3]
        exact fin _ (by unfold within em at *; simp only [decide_eq_true_eq, Bool.false_eq_true, true_iff, false_iff]; omega)
theorem j0_eq (k : Nat) (a0 a1 a2 a3 b0 b1 b2 b3 : Int) (c : Int × Int × Int × Int) (hc : c = if ec a0 a1 a2 a3 b0 b1 b2 b3 then (1, 1, 0, 0) else (mx a0 b0, mx a1 b1, mn a2 b2, mn a3 b3)) :
    croftlaw06_RectTells.j0 (k + 3) false a0 a1 a2 a3 b0 b1 b2 b3 c.1 c.2.1 c.2.2.1 c.2.2.2 = some true := by
  have fin : ∀ u, (u = true ↔ meets a0 a1 a2 a3 b0 b1 b2 b3) → croftlaw06_RectTells.j1 (k + 2) u a0 a1 a2 a3 b0 b1 b2 b3 c.1 c.2.1 c.2.2.1 c.2.2.2 = some true := fun u hu => j1_eq k u a0 a1 a2 a3 b0 b1 b2 b3 c hc (by rw [Bool.eq_iff_iff, decide_eq_true_eq]; exact hu)
  rw [show k + 3 = (k + 2) + 1 from rfl]
  obtain ⟨K, hK⟩ : ∃ K, k + 2 = K := ⟨_, rfl⟩
  rw [hK] at fin ⊢
  simp only [croftlaw06_RectTells.j0, none_eq, Option.bind_some, decide_eq_true_eq, Bool.false_eq_true, if_false]
  by_cases h1 : em a0 a1 a2 a3
  · rw [if_pos h1]
    exact fin _ (by unfold meets em at *; simp only [decide_eq_true_eq, Bool.false_eq_true, true_iff, false_iff]; omega)
  · rw [if_neg h1]
    by_cases h2 : em b0 b1 b2 b3
    · rw [if_pos h2]
      exact fin _ (by unfold meets em at *; simp only [decide_eq_true_eq, Bool.false_eq_true, true_iff, false_iff]; omega)
    · rw [if_neg h2]
      by_cases h3 : a0 ≤ b2
      · rw [if_pos h3]
        by_cases h4 : b0 ≤ a2
        · rw [if_pos h4]
          by_cases h5 : a1 ≤ b3
          · rw [if_pos h5]
            exact fin _ (by unfold meets em at *; simp only [decide_eq_true_eq, Bool.false_eq_true, true_iff, false_iff]; omega)
          · rw [if_neg h5]
            exact fin _ (by unfold meets em at *; simp only [decide_eq_true_eq, Bool.false_eq_true, true_iff, false_iff]; omega)
        · rw [if_neg h4]
          exact fin _ (by unfold meets em at *; simp only [decide_eq_true_eq, Bool.false_eq_true, true_iff, false_iff]; omega)
      · rw [if_neg h3]
        exact fin _ (by unfold meets em at *; simp only [decide_eq_true_eq, Bool.false_eq_true, true_iff, false_iff]; omega)
theorem alive06 : croftlaw06_alive.f = some true := by decide +kernel
end RectTellsAux
open RectTellsAux

theorem RectTells : croftlaw06_RectTells.Pure := by
  intro a0 a1 a2 a3 b0 b1 b2 b3 x y _ _ _ _ _ _ _ _ _ _
  refine ⟨3, ?_⟩
  unfold croftlaw06_RectTells.f
  obtain ⟨c, hc⟩ : ∃ c : Int × Int × Int × Int, c = if ec a0 a1 a2 a3 b0 b1 b2 b3 then (1, 1, 0, 0) else (mx a0 b0, mx a1 b1, mn a2 b2, mn a3 b3) := ⟨_, rfl⟩
  have ch := cut_has a0 a1 a2 a3 b0 b1 b2 b3 x y c hc
  have fin := j0_eq 0 a0 a1 a2 a3 b0 b1 b2 b3 c hc
  rw [alive06, cut_eq, ← hc]
  simp only [Option.bind_some, if_true, has_eq, rhas_eq, none_eq, empty_eq, bne_self_eq_false, Bool.false_eq_true, if_false, decide_eq_true_eq]
  by_cases h1 : hs a0 a1 a2 a3 x y
  · rw [if_pos h1]
    have e : (decide (hs c.1 c.2.1 c.2.2.1 c.2.2.2 x y) != decide (hs b0 b1 b2 b3 x y)) = false := by
      rw [bne_eq_false_iff_eq, decide_eq_decide, ch]
      exact ⟨fun z => z.2, fun z => ⟨h1, z⟩⟩
    rw [e]
    exact fin
  · rw [if_neg h1]
    have e : (decide (hs c.1 c.2.1 c.2.2.1 c.2.2.2 x y) != false) = false := by
      rw [bne_eq_false_iff_eq, decide_eq_false_iff_not, ch]
      exact fun z => h1 z.1
    rw [e]
    exact fin
end Go.Proofs.Ytjlkkipickeebaa.Pure
