/-
  The plain half of the law PairsNear: what its code computes is true, at all lists of points.
  Conditions: none but the kinds' own bounds.
-/
import Derived.Test.YtgepbfcaimejmaaNearP
import Derived.Test.YtgepbfcaimejmaaPPx9
namespace Go.Proofs.Ytgepbfcaimejmaa.Pure
open Go.RowKit Go.Proofs.Ytgepbfcaimejmaa.PP Go.Proofs.YtgepbfcaimejmaaW.PrintWords Go.Proofs.YtgepbfcaimejmaaW.PrintLast Nums MulP WideP NearP

namespace PairsNearAux
theorem ok_of {l : List S24} {F : Nat} (hn : l.length ≤ 25) (hF : 800 ≤ F) : l.length * (l.length + 2) + 2 * l.length + 9 ≤ F := by
  have := Nat.mul_le_mul hn (show l.length + 2 ≤ 27 by omega)
  omega
theorem alive36 (k : Nat) : croftlaw36_alive.f (k + 800) = some true := by
  unfold croftlaw36_alive.f
  have hl : ∀ p ∈ ([(⟨5, 0, 0, (⟨#[]⟩ : ByteArray)⟩ : S24), (⟨6, 3, 0, (⟨#[]⟩ : ByteArray)⟩ : S24)] : List S24), ok p := by
    intro p hp
    simp at hp
    rcases hp with rfl | rfl <;> (unfold ok; simp)
  rw [close_eq _ hl (by simp) (k + 800) (by simp only [List.length_cons, List.length_nil]; omega)]
  have hc : crow ([(⟨5, 0, 0, (⟨#[]⟩ : ByteArray)⟩ : S24), (⟨6, 3, 0, (⟨#[]⟩ : ByteArray)⟩ : S24)] : List S24) ([(⟨5, 0, 0, (⟨#[]⟩ : ByteArray)⟩ : S24), (⟨6, 3, 0, (⟨#[]⟩ : ByteArray)⟩ : S24)] : List S24).length = 0 := by decide
  have hnr : nr ([(⟨5, 0, 0, (⟨#[]⟩ : ByteArray)⟩ : S24), (⟨6, 3, 0, (⟨#[]⟩ : ByteArray)⟩ : S24)] : List S24) 0 = 1 := by decide
  unfold fin
  rw [hc, if_neg (by omega)]
  simp only [Option.bind_some, Int.toNat_zero, hnr]
  have hj : Join.joined.f (k + 800) ([(⟨0, 0, 0, (⟨#[]⟩ : ByteArray)⟩ : S24)] : List S24) 0 0 = some (Join.gJ 0 0 [(⟨0, 0, 0, (⟨#[]⟩ : ByteArray)⟩ : S24)] 1).2.2 := by
    unfold Join.joined.f
    rw [if_pos]
    · rfl
    · refine ⟨by simp, fun i hi j hj => ?_⟩
      have hp : ∀ m, ok (([(⟨0, 0, 0, (⟨#[]⟩ : ByteArray)⟩ : S24)] : List S24).getD m z24) := getD_ok _ (by intro p hp; simp at hp; subst hp; unfold ok; simp)
      unfold Join.near
      rw [show (3 : Nat) = 0 + 3 from rfl, far_eq 0 _ _ (hp i) (hp j)]
      simp only [Option.bind_some, cmp_eq, Option.isSome_some]
  rw [hj]
  have hg : ((Join.gJ 0 0 [(⟨0, 0, 0, (⟨#[]⟩ : ByteArray)⟩ : S24)] 1).2.2.length : Int) = 1 := by
    have h := Join.gJ_inv 0 0 [(⟨0, 0, 0, (⟨#[]⟩ : ByteArray)⟩ : S24)] 1 (by simp)
    have := h.2.2.2.1 0 (by omega)
    have := h.2.2.2.2
    omega
  simp [hg]
variable (l : List S24)
theorem nr_other (i k : Nat) (hk : k < l.length) (hne : k ≠ i) : 0 ≤ nr l i ∧ (nr l i).toNat ≠ i ∧ D l i (nr l i).toNat ≤ D l i k := by
  obtain ⟨h1, h2, h3⟩ := nrow_spec l i l.length
  have h : 0 ≤ nrow l i l.length := by
    rcases h1 with h1 | h1
    · exact absurd (h2 h1 k hk) hne
    · exact h1
  exact ⟨h, (h3 h).2.1, (h3 h).2.2.1 k hk hne⟩
/-- The first pair that is nearest is as near as anyone's nearest. -/
theorem min_all (hc : 0 ≤ crow l l.length) (i : Nat) : i < l.length → 0 ≤ nr l i ∧ D l (crow l l.length).toNat (nr l (crow l l.length).toNat).toNat ≤ D l i (nr l i).toNat := by
  obtain ⟨c1, c2, c3, c4⟩ := (crow_spec l l.length).2.2 hc
  have hlt := nr_lt l (crow l l.length).toNat (by omega)
  induction i using Nat.strongRecOn with
  | ind i ih =>
    intro hi
    have h0 : 0 ≤ nr l i := by
      by_cases e : (crow l l.length).toNat = i
      · rw [← e]; omega
      · exact (nr_other l i _ (by omega) e).1
    refine ⟨h0, ?_⟩
    have hil := nr_lt l i h0
    have hne := ((nrow_spec l i l.length).2.2 h0).2.1
    by_cases hgt : nr l i > i
    · exact c3 i hi hgt
    · have hlt2 : (nr l i).toNat < i := by
        have : (nr l i).toNat ≠ i := hne
        omega
      obtain ⟨_, hle⟩ := ih (nr l i).toNat hlt2 (by omega)
      have := (nr_other l (nr l i).toNat i hi (by omega)).2.2
      rw [D_comm l (nr l i).toNat i] at this
      omega
theorem none_small (hc : crow l l.length < 0) : l.length < 2 := by
  obtain ⟨h1, h2, _⟩ := crow_spec l l.length
  by_cases h : l.length < 2
  · exact h
  · have := h2 (by omega) 0 (by omega)
    have h3 := nr_other l 0 1 (by omega) (by omega)
    omega
theorem law_loop (hl : ∀ p ∈ l, ok p) (hn : l.length ≤ 25) (hc : 0 ≤ crow l l.length) (d : Nat) : ∀ (K i : Nat), l.length - i = d → i ≤ l.length →
    croftlaw36_PairsNear.l0 (2 * d + K + 8) l (nears l l.length) (decide (∃ j, j < i ∧ D l j (nr l j).toNat = D l (crow l l.length).toNat (nr l (crow l l.length).toNat).toNat)) i
      (D l (crow l l.length).toNat (nr l (crow l l.length).toNat).toNat / 18446744073709551616) (D l (crow l l.length).toNat (nr l (crow l l.length).toNat).toNat % 18446744073709551616) = some true := by
  have hrd : ∀ j : Nat, rd_T24 l (j : Int) = l.getD j z24 := fun _ => rfl
  have hrn : ∀ j : Nat, j < l.length → rd (nears l l.length) (j : Int) = nr l j := fun j hj => by
    show (nears l l.length).getD (j : Int).toNat 0 = _
    rw [Int.toNat_natCast, nears_at l l.length j hj]
    rfl
  have hlen := nears_length l l.length
  obtain ⟨M, hM⟩ : ∃ M, D l (crow l l.length).toNat (nr l (crow l l.length).toNat).toNat = M := ⟨_, rfl⟩
  have hmin := min_all l hc
  have hcl := ((crow_spec l l.length).2.2 hc).1
  rw [hM] at hmin ⊢
  induction d with
  | zero =>
    intro K i h1 h2
    obtain rfl : i = l.length := by omega
    obtain ⟨F, hF⟩ : ∃ F, K + 7 = F := ⟨_, rfl⟩
    rw [show 2 * 0 + K + 8 = F + 1 by omega]
    simp only [croftlaw36_PairsNear.l0]
    rw [if_neg (by omega)]
    congr 1
    exact decide_eq_true ⟨(crow l l.length).toNat, by omega, hM⟩
  | succ d ih =>
    intro K i h1 h2
    have hi : i < l.length := by omega
    obtain ⟨h0, hle⟩ := hmin i hi
    have hil := nr_lt l i h0
    obtain ⟨e, hee⟩ : ∃ e : Nat, (e : Int) = nr l i := ⟨(nr l i).toNat, by omega⟩
    have fin' := ih K (i + 1) (by omega) (by omega)
    obtain ⟨F2, hF2⟩ : ∃ F2, 2 * d + K + 8 = F2 := ⟨_, rfl⟩
    rw [hF2] at fin'
    rw [show 2 * (d + 1) + K + 8 = F2 + 1 + 1 by omega]
    have hD : wide_Between.f F2 (l.getD i z24).f1 (l.getD i z24).f2 (l.getD e z24).f1 (l.getD e z24).f2 = some (D l i e / 18446744073709551616, D l i e % 18446744073709551616) := by
      obtain ⟨G, rfl⟩ : ∃ G, F2 = G + 3 := ⟨F2 - 3, by omega⟩
      have hp := getD_ok l hl i
      have hq := getD_ok l hl e
      exact between_eq G _ _ _ _ hp.1.1 hp.1.2 hp.2.1 hp.2.2 hq.1.1 hq.1.2 hq.2.1 hq.2.2
    have hC : wide_Cmp.f F2 (D l i e / 18446744073709551616) (D l i e % 18446744073709551616) (M / 18446744073709551616) (M % 18446744073709551616) = some (if D l i e < M then -1 else if M < D l i e then 1 else 0) := by
      obtain ⟨G, rfl⟩ : ∃ G, F2 = G + 3 := ⟨F2 - 3, by omega⟩
      exact cmp_digits G _ _
    rw [← hee, Int.toNat_natCast] at hle
    have hx : decide (∃ j, j < i + 1 ∧ D l j (nr l j).toNat = M) = (decide (∃ j, j < i ∧ D l j (nr l j).toNat = M) || decide (D l i e = M)) := by
      rw [Bool.eq_iff_iff]
      simp only [Bool.or_eq_true, decide_eq_true_eq]
      constructor
      · rintro ⟨j, hj, h⟩
        by_cases ej : j = i
        · subst ej
          rw [← hee, Int.toNat_natCast] at h
          exact Or.inr h
        · exact Or.inl ⟨j, by omega, h⟩
      · rintro (⟨j, hj, h⟩ | h)
        · exact ⟨j, by omega, h⟩
        · exact ⟨i, by omega, by rw [← hee, Int.toNat_natCast]; exact h⟩
    rw [hx] at fin'
    simp only [croftlaw36_PairsNear.l0]
    rw [if_pos (by omega), if_pos (by omega), if_pos (by omega), hrn i hi, ← hee, if_neg (by omega)]
    simp only [croftlaw36_PairsNear.j2]
    rw [if_neg (by simp; omega), if_pos (by omega), if_pos (by omega), if_pos (by omega), hrn i hi, ← hee, if_pos (by omega), if_pos (by omega), hrd i, hrd e, hD]
    simp only [Option.bind_some]
    rw [hC]
    simp only [Option.bind_some]
    rw [w64_in ((i : Int) + 1) (by omega) (by omega), if_neg (show ¬ D l i e < M by omega)]
    generalize decide (∃ j, j < i ∧ D l j (nr l j).toNat = M) = t at fin' ⊢
    cases t with
    | true =>
      rw [if_pos rfl, if_neg (by split <;> omega)]
      simpa using fin'
    | false =>
      rw [if_neg (by simp), if_neg (by split <;> omega)]
      by_cases hd : M < D l i e
      · rw [if_pos hd]
        have : decide (D l i e = M) = false := decide_eq_false (by omega)
        rw [this] at fin'
        exact fin'
      · rw [if_neg hd]
        have : decide (D l i e = M) = true := decide_eq_true (by omega)
        rw [this] at fin'
        exact fin'
end PairsNearAux
open PairsNearAux

theorem PairsNear : croftlaw36_PairsNear.Pure := by
  intro l _ _ hl
  have hl : ∀ p ∈ l, ok p := fun p hp => ⟨wf_u32 (hl p hp).2.1, wf_u32 (hl p hp).2.2⟩
  obtain ⟨F, hF⟩ : ∃ F : Nat, F = 1000 := ⟨_, rfl⟩
  refine ⟨F + 1, ?_⟩
  unfold croftlaw36_PairsNear.f
  have ha := alive36 (F - 799)
  rw [show F - 799 + 800 = F + 1 by omega] at ha
  rw [ha]
  simp only [Option.bind_some, if_true]
  have key : ∀ l' : List S24, (∀ p ∈ l', ok p) → l'.length ≤ 25 → croftlaw36_PairsNear.j0 (F + 1) l' = some true := by
    intro l' h1 h2
    have := ok_of (l := l') (F := F) h2 (by omega)
    simp only [croftlaw36_PairsNear.j0]
    rw [close_eq l' h1 (by omega) F this, near_eq l' h1 (by omega) F (by omega)]
    unfold fin
    by_cases hc : crow l' l'.length < 0
    · rw [if_pos hc]
      have := none_small l' hc
      simp only [Option.bind_some]
      rw [if_neg (by simp)]
      simp
      omega
    · rw [if_neg hc]
      simp only [Option.bind_some, if_true]
      rw [nears_length, if_pos rfl]
      have hp := getD_ok l' h1 (crow l' l'.length).toNat
      have hq := getD_ok l' h1 (nr l' (crow l' l'.length).toNat).toNat
      have hb := between_eq (F - 3) _ _ _ _ hp.1.1 hp.1.2 hp.2.1 hp.2.2 hq.1.1 hq.1.2 hq.2.1 hq.2.2
      rw [show F - 3 + 3 = F by omega] at hb
      rw [hb]
      simp only [Option.bind_some]
      have := law_loop l' h1 h2 (by omega) l'.length (F - 8 - 2 * l'.length) 0 (by omega) (by omega)
      rw [show 2 * l'.length + (F - 8 - 2 * l'.length) + 8 = F by omega] at this
      simp only [Nat.not_lt_zero, false_and, exists_false, decide_false] at this
      exact this
  by_cases h : (l.length : Int) > 25
  · rw [if_pos h, if_pos (by omega)]
    exact key _ (fun p hp => hl p (List.mem_of_mem_take hp)) (by simp; omega)
  · rw [if_neg h]
    exact key l hl (by omega)
end Go.Proofs.Ytgepbfcaimejmaa.Pure
