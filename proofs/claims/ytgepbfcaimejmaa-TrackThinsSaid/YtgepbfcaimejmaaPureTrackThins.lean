/-
  The plain half of the law TrackThins: what its code computes is true, at all lists of points and all distances.
  Conditions: none but the kinds' own bounds.
-/
import Derived.Test.YtgepbfcaimejmaaTrackA
import Derived.Test.YtgepbfcaimejmaaThinA
import Derived.Test.YtgepbfcaimejmaaPAx24
namespace Go.Proofs.Ytgepbfcaimejmaa.Pure
open Go.RowKit Go.Proofs.Ytgepbfcaimejmaa.PA Go.Proofs.YtgepbfcaimejmaaW.PrintWords Go.Proofs.YtgepbfcaimejmaaW.PrintLast Nums MulA WideA PolyA TrackA ThinA

namespace TrackThinsAux
theorem law_loop (a b : Int) (l : List S24) (hl : ∀ p ∈ l, ok p) (hn : l.length ≤ 60) (d : Nat) : ∀ (k i : Nat) (out : List S24), l.length - i = d → i ≤ l.length → out.length ≤ i → (0 < i → 0 < out.length) → (∀ p ∈ out, ok p) →
    (l.drop i).foldl (tstep a b) out = l.foldl (tstep a b) [] → croftlaw46_TrackThins.l0 (d + k + 70) l out i a b = some true := by
  induction d with
  | zero =>
    intro k i out h1 h2 h3 h4 ho he
    obtain ⟨K, hK⟩ : ∃ K, k + 69 = K := ⟨_, rfl⟩
    rw [show 0 + k + 70 = K + 1 by omega]
    simp only [croftlaw46_TrackThins.l0]
    rw [if_neg (by omega)]
    rw [List.drop_of_length_le (by omega)] at he
    rw [← hK, show k + 69 = l.length + (k + 65 - l.length) + 4 by omega, thin_eq _ a b l hl (by omega), ← he]
    simp only [Option.bind_some, List.foldl_nil]
    rw [show l.length + (k + 65 - l.length) + 4 = out.length + (k + 68 - out.length) + 1 by omega, points_eq _ out (by omega)]
    rfl
  | succ d ih =>
    intro k i out h1 h2 h3 h4 ho he
    have hi : i < l.length := by omega
    have hp := hl _ (List.getElem_mem hi)
    have hrd : rd_T24 l (i : Int) = l[i] := by simp [rd_T24, hi]
    rw [List.drop_eq_getElem_cons hi, List.foldl_cons] at he
    obtain ⟨K, hK⟩ : ∃ K, d + k + 70 = K := ⟨_, rfl⟩
    rw [show d + 1 + k + 70 = K + 1 by omega]
    simp only [croftlaw46_TrackThins.l0]
    have tl := tstep_length a b out l[i]
    have fin : croftlaw46_TrackThins.l0 K l (tstep a b out l[i]) ((i : Int) + 1) a b = some true := by
      have := ih k (i + 1) (tstep a b out l[i]) (by omega) (by omega) (by omega) (fun _ => tl.2) (tstep_ok _ _ _ _ ho hp) he
      rw [← this, ← hK]
      rfl
    rw [if_pos (by omega), hrd, w64_in ((out.length : Int) - 1) (by omega) (by omega), w64_in ((i : Int) + 1) (by omega) (by omega)]
    rw [← fin]
    by_cases h0 : 0 < i
    · have h5 := h4 h0
      rw [if_pos (by omega), if_pos (by omega), if_pos (by omega), if_pos (by omega), show (out.length : Int) - 1 = (out.length : Int) - (1 : Nat) by omega, rd_lst out 1 (by omega), refdd_eq _ _ (lst_ok out ho 1) hp]
      simp only [Option.bind_some, less_eq]
      by_cases h2 : far2 a b (lst out 1) l[i]
      · rw [if_pos (by rw [decide_eq_true_eq]; exact h2), if_pos (by omega)]
        unfold tstep
        rw [if_pos (Or.inr h2)]
      · rw [if_neg (by rw [decide_eq_true_eq]; exact h2)]
        unfold tstep
        rw [if_neg (by intro h; rcases h with h | h; omega; exact h2 h)]
    · rw [if_neg (by omega), if_pos (by omega), if_pos (by omega)]
      unfold tstep
      rw [if_pos (Or.inl (by omega))]
end TrackThinsAux
open TrackThinsAux

theorem TrackThins : croftlaw46_TrackThins.Pure := by
  intro l a b _ _ hl _ _
  have hl : ∀ p ∈ l, ok p := fun p hp => ⟨wf_u32 (hl p hp).2.1, wf_u32 (hl p hp).2.2⟩
  refine ⟨200, ?_⟩
  unfold croftlaw46_TrackThins.f
  rw [alive46 190]
  simp only [Option.bind_some, if_true]
  have key : ∀ l' : List S24, (∀ p ∈ l', ok p) → l'.length ≤ 60 → croftlaw46_TrackThins.j0 200 l' a b = some true := by
    intro l' h1 h2
    simp only [croftlaw46_TrackThins.j0]
    have := law_loop a b l' h1 h2 l'.length (129 - l'.length) 0 [] (by omega) (by omega) (by simp) (by omega) (by simp) (by simp)
    rw [show l'.length + (129 - l'.length) + 70 = 199 by omega] at this
    exact this
  by_cases h : (l.length : Int) > 60
  · rw [if_pos h, if_pos (by omega)]
    exact key _ (fun p hp => hl p (List.mem_of_mem_take hp)) (by simp; omega)
  · rw [if_neg h]
    exact key l hl (by omega)
end Go.Proofs.Ytgepbfcaimejmaa.Pure
