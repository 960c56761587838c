/-
  The plain half of the law TrackZero: what its code computes is true, at all lists of points.
  Conditions: none but the kinds' own bounds.
-/
import Derived.Test.YtgepbfcaimejmaaTrackA
import Derived.Test.YtgepbfcaimejmaaThinA
import Derived.Test.YtgepbfcaimejmaaPAx25
namespace Go.Proofs.Ytgepbfcaimejmaa.Pure
open Go.RowKit Go.Proofs.Ytgepbfcaimejmaa.PA Go.Proofs.YtgepbfcaimejmaaW.PrintWords Go.Proofs.YtgepbfcaimejmaaW.PrintLast Nums MulA WideA PolyA TrackA ThinA

namespace TrackZeroAux
theorem dd_same (p q : S24) : dd p q = 0 ↔ same p q := by
  unfold dd d2 same
  constructor
  · intro h
    have a := sq_nonneg (p.f1 - q.f1)
    have b := sq_nonneg (p.f2 - q.f2)
    have := sq_zero (p.f1 - q.f1) (by omega)
    have := sq_zero (p.f2 - q.f2) (by omega)
    omega
  · rintro ⟨h1, h2⟩
    rw [h1, h2]
    simp
theorem far0 (p q : S24) (hp : ok p) (hq : ok q) : far2 0 0 p q ↔ ¬ same p q := by
  have b := dd_bound p q hp hq
  rw [← dd_same]
  unfold far2
  omega
/-- What the law reckons: those that are not at the place of the one ahead. -/
def zstep (l : List S24) (out : List S24) (i : Nat) : List S24 :=
  if i = 0 ∨ ¬ same (l.getD i z24) (l.getD (i - 1) z24) then out ++ [l.getD i z24] else out
def zto (l : List S24) : Nat → List S24
  | 0 => []
  | i + 1 => zstep l (zto l i) i
theorem lst_append (l : List S24) (p : S24) : lst (l ++ [p]) 1 = p := by simp [lst]
theorem zto_last (l : List S24) (i : Nat) : 0 < (zto l (i + 1)).length ∧ same (lst (zto l (i + 1)) 1) (l.getD i z24) := by
  induction i with
  | zero => simp [zto, zstep, lst, same]
  | succ i ih =>
    rw [show zto l (i + 1 + 1) = zstep l (zto l (i + 1)) (i + 1) from rfl]
    unfold zstep
    split
    · rw [lst_append]
      exact ⟨by simp, rfl, rfl⟩
    · rename_i h
      have h' : same (l.getD (i + 1) z24) (l.getD i z24) := by
        by_cases c : same (l.getD (i + 1) z24) (l.getD i z24)
        · exact c
        · exact absurd (Or.inr c) h
      exact ⟨ih.1, by unfold same at *; omega, by unfold same at *; omega⟩
theorem zto_length (l : List S24) (i : Nat) : (zto l i).length ≤ i := by
  induction i with
  | zero => simp [zto]
  | succ i ih =>
    rw [show zto l (i + 1) = zstep l (zto l i) i from rfl]
    unfold zstep
    split
    · simp; omega
    · omega
theorem zto_ok (l : List S24) (hl : ∀ p ∈ l, ok p) (i : Nat) : ∀ q ∈ zto l i, ok q := by
  induction i with
  | zero => simp [zto]
  | succ i ih =>
    rw [show zto l (i + 1) = zstep l (zto l i) i from rfl]
    unfold zstep
    split
    · intro q hq
      rcases List.mem_append.1 hq with h | h
      · exact ih q h
      · rw [List.mem_singleton.1 h]
        exact getD_ok l hl i
    · exact ih
/-- Thinned by nothing is just that. -/
theorem thin_zto (l : List S24) (hl : ∀ p ∈ l, ok p) (i : Nat) (hi : i ≤ l.length) : (l.take i).foldl (tstep 0 0) [] = zto l i := by
  induction i with
  | zero => simp [zto]
  | succ i ih =>
    have h : i < l.length := by omega
    rw [List.take_succ_eq_append_getElem h, List.foldl_append, ih (by omega)]
    rw [show zto l (i + 1) = zstep l (zto l i) i from rfl]
    simp only [List.foldl_cons, List.foldl_nil]
    have hg : l.getD i z24 = l[i] := by simp [h]
    unfold tstep zstep
    rw [hg]
    by_cases h0 : i = 0
    · subst h0
      rw [if_pos (Or.inl (by simp [zto])), if_pos (Or.inl rfl)]
    · obtain ⟨j, rfl⟩ : ∃ j, i = j + 1 := ⟨i - 1, by omega⟩
      have z := zto_last l j
      have f0 := far0 (lst (zto l (j + 1)) 1) l[j + 1] (lst_ok _ (zto_ok l hl _) 1) (hl _ (List.getElem_mem h))
      rw [show j + 1 - 1 = j by omega]
      by_cases c : same l[j + 1] (l.getD j z24)
      · rw [if_neg, if_neg]
        · intro e; rcases e with e | e; omega; exact e c
        · intro e; rcases e with e | e; omega
          apply f0.1 e
          unfold same at *
          omega
      · rw [if_pos, if_pos]
        · exact Or.inr c
        · refine Or.inr (f0.2 fun e => c ?_)
          unfold same at *
          omega
/-- Straightened, no more are kept. -/
theorem straight_zto (l : List S24) (i : Nat) (hi : i ≤ l.length) : ((l.take i).foldl sstep []).length ≤ (zto l i).length ∧ (0 < i → 0 < ((l.take i).foldl sstep []).length ∧ same (lst ((l.take i).foldl sstep []) 1) (l.getD (i - 1) z24)) := by
  induction i with
  | zero => simp
  | succ i ih =>
    have h : i < l.length := by omega
    have ih := ih (by omega)
    rw [List.take_succ_eq_append_getElem h, List.foldl_append]
    rw [show zto l (i + 1) = zstep l (zto l i) i from rfl]
    simp only [List.foldl_cons, List.foldl_nil]
    have hg : l.getD i z24 = l[i] := by simp [h]
    generalize (l.take i).foldl sstep [] = out at ih ⊢
    rw [show i + 1 - 1 = i by omega, hg]
    unfold sstep zstep
    rw [hg]
    by_cases c : 1 ≤ out.length ∧ same (lst out 1) l[i]
    · rw [if_pos c]
      refine ⟨?_, fun _ => ⟨by omega, c.2⟩⟩
      split
      · simp; omega
      · omega
    · rw [if_neg c]
      have hz : i = 0 ∨ ¬ same l[i] (l.getD (i - 1) z24) := by
        by_cases h0 : i = 0
        · exact Or.inl h0
        · refine Or.inr fun e => c ⟨by have := (ih.2 (by omega)).1; omega, ?_⟩
          have := (ih.2 (by omega)).2
          unfold same at *
          omega
      rw [if_pos hz]
      refine ⟨?_, fun _ => ?_⟩
      · split
        · simp; omega
        · simp; omega
      · split
        · rw [lst_append]
          exact ⟨by simp, rfl, rfl⟩
        · rw [lst_append]
          exact ⟨by simp, rfl, rfl⟩
theorem law_loop (l : List S24) (hl : ∀ p ∈ l, ok p) (hn : l.length ≤ 60) (d : Nat) : ∀ (k i : Nat), l.length - i = d → i ≤ l.length →
    croftlaw46_TrackZero.l0 (d + k + 200) l (zto l i) i = some true := by
  induction d with
  | zero =>
    intro k i h1 h2
    obtain ⟨K, hK⟩ : ∃ K, k + 199 = K := ⟨_, rfl⟩
    rw [show 0 + k + 200 = K + 1 by omega]
    simp only [croftlaw46_TrackZero.l0]
    rw [if_neg (by omega)]
    obtain rfl : i = l.length := by omega
    have t := thin_zto l hl l.length (Nat.le_refl _)
    have s := (straight_zto l l.length (Nat.le_refl _)).1
    have zl := zto_length l l.length
    rw [List.take_length] at t s
    rw [show K = l.length + (K - 4 - l.length) + 4 by omega, thin_eq _ 0 0 l hl (by omega), t]
    simp only [Option.bind_some]
    rw [show l.length + (K - 4 - l.length) + 4 = (zto l l.length).length + (K - 1 - (zto l l.length).length) + 1 by omega, points_eq _ _ (by omega)]
    simp only [Option.bind_some, if_true]
    rw [show (zto l l.length).length + (K - 1 - (zto l l.length).length) + 1 = 2 * l.length + (K - 4 - 2 * l.length) + 4 by omega, straight_eq _ l hl (by omega)]
    simp only [Option.bind_some, Option.some.injEq, decide_eq_true_eq]
    omega
  | succ d ih =>
    intro k i h1 h2
    have hi : i < l.length := by omega
    have hg : rd_T24 l (i : Int) = l.getD i z24 := rfl
    obtain ⟨K, hK⟩ : ∃ K, d + k + 200 = K := ⟨_, rfl⟩
    rw [show d + 1 + k + 200 = K + 1 by omega]
    simp only [croftlaw46_TrackZero.l0]
    have fin : croftlaw46_TrackZero.l0 K l (zstep l (zto l i) i) ((i : Int) + 1) = some true := by
      have := ih k (i + 1) (by omega) (by omega)
      rw [← this, ← hK]
      rfl
    have zl := zto_length l i
    rw [if_pos (by omega), hg, w64_in ((i : Int) - 1) (by omega) (by omega), w64_in ((i : Int) + 1) (by omega) (by omega)]
    rw [← fin]
    unfold zstep
    by_cases h0 : i = 0
    · rw [if_pos (by omega), if_pos (by omega), if_pos (by omega), if_pos (Or.inl h0)]
    · have hg' : rd_T24 l ((i : Int) - 1) = l.getD (i - 1) z24 := by unfold rd_T24; congr 1; omega
      rw [if_neg (by omega), if_pos (by omega), if_pos (by omega), if_pos (by omega), hg']
      by_cases c1 : (l.getD i z24).f1 = (l.getD (i - 1) z24).f1
      · rw [if_pos c1]
        by_cases c2 : (l.getD i z24).f2 = (l.getD (i - 1) z24).f2
        · rw [if_pos c2, if_neg]
          intro e
          rcases e with e | e
          · exact h0 e
          · exact e ⟨c1, c2⟩
        · rw [if_neg c2, if_pos (by omega), if_pos (Or.inr fun e => c2 e.2)]
      · rw [if_neg c1, if_pos (by omega), if_pos (Or.inr fun e => c1 e.1)]
end TrackZeroAux
open TrackZeroAux

theorem TrackZero : croftlaw46_TrackZero.Pure := by
  intro l _ _ hl
  have hl : ∀ p ∈ l, ok p := fun p hp => ⟨wf_u32 (hl p hp).2.1, wf_u32 (hl p hp).2.2⟩
  refine ⟨400, ?_⟩
  unfold croftlaw46_TrackZero.f
  rw [alive46 390]
  simp only [Option.bind_some, if_true]
  have key : ∀ l' : List S24, (∀ p ∈ l', ok p) → l'.length ≤ 60 → croftlaw46_TrackZero.j0 400 l' = some true := by
    intro l' h1 h2
    simp only [croftlaw46_TrackZero.j0]
    have := law_loop l' h1 h2 l'.length (199 - l'.length) 0 (by omega) (by omega)
    rw [show l'.length + (199 - l'.length) + 200 = 399 by omega] at this
    exact this
  by_cases h : (l.length : Int) > 60
  · rw [if_pos h, if_pos (by omega)]
    exact key _ (fun p hp => hl p (List.mem_of_mem_take hp)) (by simp; omega)
  · rw [if_neg h]
    exact key l hl (by omega)
end Go.Proofs.Ytgepbfcaimejmaa.Pure
