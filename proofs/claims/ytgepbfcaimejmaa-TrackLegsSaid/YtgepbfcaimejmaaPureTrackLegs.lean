/-
  The plain half of the law TrackLegs: what its code computes is true, at all lists of points.
  Conditions: none but the kinds' own bounds.
-/
import Derived.Test.YtgepbfcaimejmaaTrackA
import Derived.Test.YtgepbfcaimejmaaPAx27
namespace Go.Proofs.Ytgepbfcaimejmaa.Pure
open Go.RowKit Go.Proofs.Ytgepbfcaimejmaa.PA Go.Proofs.YtgepbfcaimejmaaW.PrintWords Go.Proofs.YtgepbfcaimejmaaW.PrintLast Nums MulA WideA PolyA TrackA

namespace TrackLegsAux
/-- How often it has turned left, and right, ahead of place i. -/
def trn (l : List S24) : Nat → Int × Int
  | 0 => (0, 0)
  | i + 1 => if 2 ≤ i then ((trn l i).1 + mx (sgn (tn (l.getD (i - 2) z24) (l.getD (i - 1) z24) (l.getD i z24))) 0, (trn l i).2 + mx (-sgn (tn (l.getD (i - 2) z24) (l.getD (i - 1) z24) (l.getD i z24))) 0) else (0, 0)
theorem mx_sgn (n : Int) : 0 ≤ mx (sgn n) 0 ∧ mx (sgn n) 0 ≤ 1 ∧ 0 ≤ mx (-sgn n) 0 ∧ mx (-sgn n) 0 ≤ 1 := by
  unfold mx
  rcases sgn_cases n with h | h | h <;> (split <;> split <;> omega)
theorem trn_bound (l : List S24) (i : Nat) : 0 ≤ (trn l i).1 ∧ (trn l i).1 ≤ i ∧ 0 ≤ (trn l i).2 ∧ (trn l i).2 ≤ i := by
  induction i with
  | zero => simp [trn]
  | succ i ih =>
    unfold trn
    split
    · have := mx_sgn (tn (l.getD (i - 2) z24) (l.getD (i - 1) z24) (l.getD i z24))
      simp only
      omega
    · simp only
      omega
theorem trn_small (l : List S24) (i : Nat) (h : i ≤ 2) : trn l i = (0, 0) := by
  rcases (show i = 0 ∨ i = 1 ∨ i = 2 by omega) with rfl | rfl | rfl <;> simp [trn]
theorem turns_loop (l : List S24) (hl : ∀ p ∈ l, ok p) (hn : l.length < 4398046511104) (d : Nat) : ∀ (k i : Nat), l.length - i = d → 2 ≤ i → (i ≤ l.length ∨ l.length ≤ 2 ∧ i = 2) →
    track_Turns.l0 (d + k + 4) l (trn l i).1 (trn l i).2 i = some (trn l (if l.length ≤ 2 then 2 else l.length)) := by
  induction d with
  | zero =>
    intro k i h1 h2 h3
    obtain ⟨K, hK⟩ : ∃ K, k + 3 = K := ⟨_, rfl⟩
    rw [show 0 + k + 4 = K + 1 by omega]
    simp only [track_Turns.l0]
    rw [if_neg (by omega)]
    have : i = if l.length ≤ 2 then 2 else l.length := by split <;> omega
    rw [← this]
  | succ d ih =>
    intro k i h1 h2 h3
    obtain ⟨K, hK⟩ : ∃ K, d + k + 4 = K := ⟨_, rfl⟩
    rw [show d + 1 + k + 4 = K + 1 by omega]
    simp only [track_Turns.l0]
    have b := trn_bound l i
    rw [w64_in ((i : Int) - 2) (by omega) (by omega), w64_in ((i : Int) - 1) (by omega) (by omega), w64_in ((i : Int) + 1) (by omega) (by omega), w64_in ((trn l i).1 + 1) (by omega) (by omega), w64_in ((trn l i).2 + 1) (by omega) (by omega)]
    rw [if_pos (by omega), if_pos (by omega), if_pos (by omega), if_pos (by omega), if_pos (by omega), if_pos (by omega)]
    rw [show rd_T24 l ((i : Int) - 2) = l.getD (i - 2) z24 by unfold rd_T24; congr 1; omega, show rd_T24 l ((i : Int) - 1) = l.getD (i - 1) z24 by unfold rd_T24; congr 1; omega, show rd_T24 l (i : Int) = l.getD i z24 from rfl]
    rw [show K = (K - 3) + 3 by omega, turn3_eq _ _ _ _ (getD_ok l hl _) (getD_ok l hl _) (getD_ok l hl _)]
    rw [show (K - 3) + 3 = K by omega]
    simp only [Option.bind_some]
    have fin : track_Turns.l0 K l (trn l (i + 1)).1 (trn l (i + 1)).2 ((i : Int) + 1) = some (trn l (if l.length ≤ 2 then 2 else l.length)) := by
      have := ih k (i + 1) (by omega) (by omega) (by omega)
      rw [← this, ← hK]
      rfl
    rw [← fin]
    have e : trn l (i + 1) = ((trn l i).1 + mx (sgn (tn (l.getD (i - 2) z24) (l.getD (i - 1) z24) (l.getD i z24))) 0, (trn l i).2 + mx (-sgn (tn (l.getD (i - 2) z24) (l.getD (i - 1) z24) (l.getD i z24))) 0) := by
      rw [show trn l (i + 1) = if 2 ≤ i then _ else _ from rfl, if_pos h2]
    rw [e]
    simp only
    rcases sgn_cases (tn (l.getD (i - 2) z24) (l.getD (i - 1) z24) (l.getD i z24)) with ⟨h, _⟩ | ⟨h, _⟩ | ⟨h, _⟩ <;> rw [h]
    · rw [if_neg (by omega), if_pos rfl, show mx (-1) 0 = 0 from rfl, show mx (- -1) 0 = 1 from rfl, Int.add_zero]
    · rw [if_neg (by omega), if_neg (by omega), show mx 0 0 = 0 from rfl, show mx (-0) 0 = 0 from rfl, Int.add_zero, Int.add_zero]
    · rw [if_pos rfl, show mx 1 0 = 1 from rfl, show mx (-1) 0 = 0 from rfl, Int.add_zero]
theorem turns_eq (k : Nat) (l : List S24) (hl : ∀ p ∈ l, ok p) (hn : l.length < 4398046511104) : track_Turns.f (l.length + k + 4) l = some (trn l l.length) := by
  unfold track_Turns.f
  have := turns_loop l hl hn (l.length - 2) (l.length + k - (l.length - 2)) 2 rfl (by omega) (by omega)
  rw [show l.length - 2 + (l.length + k - (l.length - 2)) + 4 = l.length + k + 4 by omega, trn_small l 2 (by omega)] at this
  have h2 : trn l (if l.length ≤ 2 then 2 else l.length) = trn l l.length := by
    split
    · rw [trn_small l 2 (by omega), trn_small l l.length (by omega)]
    · rfl
  rw [← h2, ← this]
  rfl
theorem law_loop (l : List S24) (hl : ∀ p ∈ l, ok p) (hn : l.length ≤ 60) (d : Nat) : ∀ (k i : Nat), l.length - (i + 1) = d → (i = 0 ∨ i < l.length) →
    croftlaw46_TrackLegs.l0 (d + k + 200) l (legsTo l (l.length - 1)) (trn l (i + 1)).1 (trn l (i + 1)).2 (i + 1 : Nat) (sumTo l i).1 (sumTo l i).2 = some true := by
  induction d with
  | zero =>
    intro k i h1 h2
    obtain ⟨K, hK⟩ : ∃ K, k + 199 = K := ⟨_, rfl⟩
    rw [show 0 + k + 200 = K + 1 by omega]
    simp only [croftlaw46_TrackLegs.l0]
    rw [if_neg (by omega)]
    have ht : trn l (i + 1) = trn l l.length := by
      by_cases h : l.length = 0
      · rw [trn_small l (i + 1) (by omega), trn_small l l.length (by omega)]
      · rw [show i + 1 = l.length by omega]
    rw [show K = l.length + (K - 4 - l.length) + 4 by omega, turns_eq _ l hl (by omega), length_eq _ l hl (by omega), ht, show l.length - 1 = i by omega]
    simp
  | succ d ih =>
    intro k i h1 h2
    obtain ⟨K, hK⟩ : ∃ K, d + k + 200 = K := ⟨_, rfl⟩
    rw [show d + 1 + k + 200 = K + 1 by omega]
    simp only [croftlaw46_TrackLegs.l0]
    have b := trn_bound l (i + 1)
    have hi : i + 1 < l.length := by omega
    rw [w64_in (((i + 1 : Nat) : Int) - 1) (by omega) (by omega), w64_in (((i + 1 : Nat) : Int) + 1) (by omega) (by omega)]
    rw [if_pos (by omega), if_pos (by omega), if_pos (by omega), if_pos (by omega)]
    rw [show rd_T24 l (((i + 1 : Nat) : Int) - 1) = l.getD i z24 by unfold rd_T24; congr 1; omega, show rd_T24 l ((i + 1 : Nat) : Int) = l.getD (i + 1) z24 from rfl]
    rw [refdd_eq _ _ (getD_ok l hl _) (getD_ok l hl _)]
    simp only [Option.bind_some]
    have hlen : (legsTo l (l.length - 1)).length = l.length - 1 := by simp [legsTo]
    rw [if_pos (by rw [hlen]; omega), show ((i + 1 : Nat) : Int) - 1 = (i : Int) by omega, rd_legs l (l.length - 1) i (by omega)]
    rw [if_neg (by simp [leg, w2])]
    have s := sumTo_in l i
    have db := dd_bound _ _ (getD_ok l hl i) (getD_ok l hl (i + 1))
    have fin : croftlaw46_TrackLegs.l0 K l (legsTo l (l.length - 1)) (trn l (i + 1 + 1)).1 (trn l (i + 1 + 1)).2 (((i + 1 : Nat) : Int) + 1) (sumTo l (i + 1)).1 (sumTo l (i + 1)).2 = some true := by
      have := ih k (i + 1) (by omega) (by omega)
      rw [← this, ← hK]
      rfl
    rw [show sumTo l (i + 1) = add2 (sumTo l i) (leg l i) from rfl] at fin
    have e2 : (add2 (sumTo l i) (leg l i)).2 = IntKind.u64.wrap ((sumTo l i).2 + dd (l.getD i z24) (l.getD (i + 1) z24) % 18446744073709551616) := by
      rw [u64_wrap]; rfl
    have e1 : (add2 (sumTo l i) (leg l i)).1 = if IntKind.u64.wrap ((sumTo l i).2 + dd (l.getD i z24) (l.getD (i + 1) z24) % 18446744073709551616) < dd (l.getD i z24) (l.getD (i + 1) z24) % 18446744073709551616 then
        IntKind.u64.wrap (IntKind.u64.wrap ((sumTo l i).1 + 1) + dd (l.getD i z24) (l.getD (i + 1) z24) / 18446744073709551616) else IntKind.u64.wrap ((sumTo l i).1 + dd (l.getD i z24) (l.getD (i + 1) z24) / 18446744073709551616) := by
      unfold add2 leg w2 in2 at *
      simp only [u64_wrap]
      generalize dd (l.getD i z24) (l.getD (i + 1) z24) = D at *
      split <;> omega
    have e3 : trn l (i + 1 + 1) = if ((i + 1 : Nat) : Int) > 1 then (wrap64 ((trn l (i + 1)).1 + mx (sgn (tn (l.getD (i + 1 - 2) z24) (l.getD i z24) (l.getD (i + 1) z24))) 0), wrap64 ((trn l (i + 1)).2 + mx (wrap64 (-sgn (tn (l.getD (i + 1 - 2) z24) (l.getD i z24) (l.getD (i + 1) z24)))) 0)) else trn l (i + 1) := by
      have m := mx_sgn (tn (l.getD (i + 1 - 2) z24) (l.getD i z24) (l.getD (i + 1) z24))
      split
      · rw [show trn l (i + 1 + 1) = if 2 ≤ i + 1 then _ else _ from rfl, if_pos (by omega)]
        rw [show i + 1 - 1 = i by omega]
        rw [w64_in (-sgn (tn (l.getD (i + 1 - 2) z24) (l.getD i z24) (l.getD (i + 1) z24))) (by rcases sgn_cases (tn (l.getD (i + 1 - 2) z24) (l.getD i z24) (l.getD (i + 1) z24)) with h | h | h <;> omega) (by rcases sgn_cases (tn (l.getD (i + 1 - 2) z24) (l.getD i z24) (l.getD (i + 1) z24)) with h | h | h <;> omega)]
        rw [w64_in _ (by omega) (by omega), w64_in _ (by omega) (by omega)]
      · rw [trn_small l (i + 1 + 1) (by omega), trn_small l (i + 1) (by omega)]
    rw [e1, e2, e3] at fin
    have ht : ∀ K', poly_Turn.f (K' + 3) (l.getD (i + 1 - 2) z24).f0 (l.getD (i + 1 - 2) z24).f1 (l.getD (i + 1 - 2) z24).f2 (l.getD (i + 1 - 2) z24).f3 (l.getD i z24).f0 (l.getD i z24).f1 (l.getD i z24).f2 (l.getD i z24).f3 (l.getD (i + 1) z24).f0 (l.getD (i + 1) z24).f1 (l.getD (i + 1) z24).f2 (l.getD (i + 1) z24).f3 = some (sgn (tn (l.getD (i + 1 - 2) z24) (l.getD i z24) (l.getD (i + 1) z24))) :=
      fun K' => turn3_eq K' _ _ _ (getD_ok l hl _) (getD_ok l hl _) (getD_ok l hl _)
    have ht := ht (K - 3)
    rw [show K - 3 + 3 = K by omega] at ht
    by_cases h3 : ((i + 1 : Nat) : Int) > 1
    · rw [if_pos h3] at fin
      simp only [if_pos h3]
      rw [w64_in (((i + 1 : Nat) : Int) - 2) (by omega) (by omega)]
      simp only [if_pos (show (0 : Int) ≤ ((i + 1 : Nat) : Int) - 2 by omega), if_pos (show ((i + 1 : Nat) : Int) - 2 < (l.length : Int) by omega)]
      rw [show rd_T24 l (((i + 1 : Nat) : Int) - 2) = l.getD (i + 1 - 2) z24 by unfold rd_T24; congr 1; omega, ht]
      simp only [Option.bind_some]
      by_cases h4 : IntKind.u64.wrap ((sumTo l i).2 + dd (l.getD i z24) (l.getD (i + 1) z24) % 18446744073709551616) < dd (l.getD i z24) (l.getD (i + 1) z24) % 18446744073709551616
      · rw [if_pos h4] at fin ⊢
        exact fin
      · rw [if_neg h4] at fin ⊢
        exact fin
    · rw [if_neg h3] at fin
      simp only [if_neg h3]
      by_cases h4 : IntKind.u64.wrap ((sumTo l i).2 + dd (l.getD i z24) (l.getD (i + 1) z24) % 18446744073709551616) < dd (l.getD i z24) (l.getD (i + 1) z24) % 18446744073709551616
      · rw [if_pos h4] at fin ⊢
        exact fin
      · rw [if_neg h4] at fin ⊢
        exact fin
end TrackLegsAux
open TrackLegsAux

theorem TrackLegs : croftlaw46_TrackLegs.Pure := by
  intro l _ _ hl
  have hl : ∀ p ∈ l, ok p := fun p hp => ⟨wf_u32 (hl p hp).2.1, wf_u32 (hl p hp).2.2⟩
  refine ⟨400, ?_⟩
  unfold croftlaw46_TrackLegs.f
  rw [alive46 390]
  simp only [Option.bind_some, if_true]
  have key : ∀ l' : List S24, (∀ p ∈ l', ok p) → l'.length ≤ 60 → croftlaw46_TrackLegs.j0 400 l' = some true := by
    intro l' h1 h2
    obtain ⟨K, hK⟩ : ∃ K, 399 = K := ⟨_, rfl⟩
    rw [show 400 = K + 1 by omega]
    simp only [croftlaw46_TrackLegs.j0]
    rw [show K = l'.length + (K - 4 - l'.length) + 4 by omega, legs_eq _ l' h1 (by omega)]
    simp only [Option.bind_some]
    rw [if_pos (by
      rw [w64_in _ (by omega) (by omega)]
      simp only [legsTo, List.length_map, List.length_range, mx]
      split <;> omega)]
    have := law_loop l' h1 h2 (l'.length - 1) (199 - (l'.length - 1)) 0 (by omega) (by omega)
    rw [show l'.length - 1 + (199 - (l'.length - 1)) + 200 = l'.length + (K - 4 - l'.length) + 4 by omega, trn_small l' 1 (by omega)] at this
    exact this
  by_cases h : (l.length : Int) > 60
  · rw [if_pos h, if_pos (by omega)]
    exact key _ (fun p hp => hl p (List.mem_of_mem_take hp)) (by simp; omega)
  · rw [if_neg h]
    exact key l hl (by omega)
end Go.Proofs.Ytgepbfcaimejmaa.Pure
