/-
  The plain half of the law TrackStraight: what its code computes is true, at all lists of points.
  Conditions: none but the kinds' own bounds.
-/
import Derived.Test.YtgepbfcaimejmaaTrackA
import Derived.Test.YtgepbfcaimejmaaPAx25
import Derived.Test.YtgepbfcaimejmaaPAx34
namespace Go.Proofs.Ytgepbfcaimejmaa.Pure
open Go.RowKit Go.Proofs.Ytgepbfcaimejmaa.PA Go.Proofs.YtgepbfcaimejmaaW.PrintWords Go.Proofs.YtgepbfcaimejmaaW.PrintLast Nums MulA WideA PolyA TrackA

namespace TrackStraightAux
theorem lst_append (l : List S24) (p : S24) : lst (l ++ [p]) 1 = p := by simp [lst]
theorem tn_turn (a b p : S24) : tn a p b = -tn a b p := by unfold tn cr; grind
theorem between_eq46 (p a b : S24) : croftlaw46_between.f p.f0 p.f1 p.f2 p.f3 a.f0 a.f1 a.f2 a.f3 b.f0 b.f1 b.f2 b.f3 =
    some (decide ((mn a.f1 b.f1 ≤ p.f1 ∧ p.f1 ≤ mx a.f1 b.f1) ∧ mn a.f2 b.f2 ≤ p.f2 ∧ p.f2 ≤ mx a.f2 b.f2)) := by
  unfold croftlaw46_between.f
  by_cases h1 : p.f1 ≥ mn a.f1 b.f1
  · rw [if_pos h1]
    by_cases h2 : p.f1 ≤ mx a.f1 b.f1
    · rw [if_pos h2]
      by_cases h3 : p.f2 ≥ mn a.f2 b.f2
      · rw [if_pos h3]
        simp [show mn a.f1 b.f1 ≤ p.f1 from h1, h2, show mn a.f2 b.f2 ≤ p.f2 from h3]
      · rw [if_neg h3]
        simp [show ¬ mn a.f2 b.f2 ≤ p.f2 from h3]
    · rw [if_neg h2]
      simp [h2]
  · rw [if_neg h1]
    simp [show ¬ mn a.f1 b.f1 ≤ p.f1 from h1]
/-- The last of what is straightened is at the last place; the first is the first. -/
theorem straight_ends (l : List S24) (i : Nat) (hi : i ≤ l.length) : (0 < i → 0 < ((l.take i).foldl sstep []).length ∧ same (lst ((l.take i).foldl sstep []) 1) (l.getD (i - 1) z24) ∧ ((l.take i).foldl sstep []).getD 0 z24 = l.getD 0 z24) ∧ ((l.take i).foldl sstep []).length ≤ i := by
  induction i with
  | zero => simp
  | succ i ih =>
    have h : i < l.length := by omega
    have ih := ih (by omega)
    rw [List.take_succ_eq_append_getElem h, List.foldl_append]
    simp only [List.foldl_cons, List.foldl_nil]
    have hg : l.getD i z24 = l[i] := by simp [h]
    generalize (l.take i).foldl sstep [] = out at ih ⊢
    rw [show i + 1 - 1 = i by omega, hg]
    have h0 : out = [] → i = 0 := by
      rintro rfl
      by_cases h0 : i = 0
      · exact h0
      · have := (ih.1 (by omega)).1
        simp at this
    have hi0 : i = 0 → out = [] := by
      rintro rfl
      have := ih.2
      exact List.eq_nil_of_length_eq_zero (by omega)
    have first : ∀ m, 0 < m → m ≤ out.length → (out.take m ++ [l[i]]).getD 0 z24 = l.getD 0 z24 := by
      intro m h1 h2
      have e : i ≠ 0 := by
        intro e
        have := hi0 e
        subst this
        simp at h2
        omega
      rw [← (ih.1 (by omega)).2.2]
      cases out with
      | nil => simp at h2; omega
      | cons a t => cases m with
        | zero => omega
        | succ m => simp
    have first0 : (out ++ [l[i]]).getD 0 z24 = l.getD 0 z24 := by
      cases out with
      | nil =>
        have := h0 rfl
        subst this
        rw [← hg]
        simp
      | cons a t =>
        have := first (a :: t).length (by simp) (Nat.le_refl _)
        simpa using this
    unfold sstep
    by_cases c : 1 ≤ out.length ∧ same (lst out 1) l[i]
    · rw [if_pos c]
      refine ⟨fun _ => ⟨by omega, c.2, ?_⟩, by omega⟩
      have e : i ≠ 0 := by
        intro e
        have := hi0 e
        subst this
        simp at c
      exact (ih.1 (by omega)).2.2
    · rw [if_neg c]
      split
      · rename_i c2
        rw [lst_append]
        refine ⟨fun _ => ⟨by simp, ⟨rfl, rfl⟩, ?_⟩, by simp; omega⟩
        exact first _ (by omega) (by omega)
      · rw [lst_append]
        exact ⟨fun _ => ⟨by simp, ⟨rfl, rfl⟩, first0⟩, by simp; omega⟩
theorem law_j3 (k : Nat) (l out : List S24) (i : Nat) (hi : i < l.length) (hl : l.length ≤ 60) (ho : out.length ≤ i) (b : Bool) (hb : b = true → 2 ≤ out.length) :
    croftlaw46_TrackStraight.j3 (k + 1) l out i out.length b = croftlaw46_TrackStraight.l0 k l ((if b = true then out.take (out.length - 1) else out) ++ [l.getD i z24]) ((i : Int) + 1) := by
  have hg : rd_T24 l (i : Int) = l.getD i z24 := rfl
  simp only [croftlaw46_TrackStraight.j3, hg]
  rw [w64_in ((i : Int) + 1) (by omega) (by omega)]
  cases b with
  | true =>
    have := hb rfl
    rw [if_pos rfl, w64_in ((out.length : Int) - 1) (by omega) (by omega), if_pos (by omega), if_pos (by omega)]
    simp only [Option.bind_some]
    rw [show ((out.length : Int) - 1).toNat = out.length - 1 by omega, if_pos (by simp; omega), if_pos (by omega), if_pos (by omega), if_pos (by simp; omega)]
    rfl
  | false =>
    rw [if_neg (by simp)]
    simp only [Option.bind_some]
    rw [if_pos (by simp; omega), if_pos (by omega), if_pos (by omega), if_pos (by simp; omega)]
    rfl
theorem law_j2 (k : Nat) (l out : List S24) (i : Nat) (hi : i < l.length) (hl : l.length ≤ 60) (ho : out.length ≤ i) (hlo : ∀ p ∈ l, ok p) (hoo : ∀ p ∈ out, ok p) (hk : 5 ≤ k) :
    ∃ j, (j = k ∨ j + 1 = k) ∧ croftlaw46_TrackStraight.j2 (k + 1) l out i out.length (decide (1 ≤ out.length ∧ same (lst out 1) (l.getD i z24))) = croftlaw46_TrackStraight.l0 j l (sstep out (l.getD i z24)) ((i : Int) + 1) := by
  have hg : rd_T24 l (i : Int) = l.getD i z24 := rfl
  have hp : ok (l.getD i z24) := getD_ok l hlo i
  simp only [croftlaw46_TrackStraight.j2, hg]
  rw [w64_in ((i : Int) + 1) (by omega) (by omega)]
  unfold sstep
  by_cases hs : 1 ≤ out.length ∧ same (lst out 1) (l.getD i z24)
  · rw [if_pos (by simpa using hs), if_pos hs]
    exact ⟨k, Or.inl rfl, rfl⟩
  · rw [if_neg (by simpa using hs), if_neg hs]
    obtain ⟨K, rfl⟩ : ∃ K, k = K + 3 + 1 := ⟨k - 4, by omega⟩
    refine ⟨K + 3, Or.inr rfl, ?_⟩
    have J := fun b hb => law_j3 (K + 3) l out i hi hl ho b hb
    by_cases h2 : 2 ≤ out.length
    · rw [if_pos (by omega), w64_in ((out.length : Int) - 2) (by omega) (by omega), w64_in ((out.length : Int) - 1) (by omega) (by omega), if_pos (by omega), if_pos (by omega), if_pos (by omega), if_pos (by omega), if_pos (by omega), if_pos (by omega)]
      rw [show (out.length : Int) - 2 = (out.length : Int) - (2 : Nat) by omega, rd_lst out 2 h2, show (out.length : Int) - 1 = (out.length : Int) - (1 : Nat) by omega, rd_lst out 1 (by omega)]
      rw [show K + 3 + 1 = (K + 1) + 3 by omega, turn3_eq (K + 1) (lst out 2) (lst out 1) (l.getD i z24) (getD_ok out hoo _) (getD_ok out hoo _) hp]
      simp only [Option.bind_some]
      have e0 : onseg (lst out 2) (l.getD i z24) (lst out 1) ↔ tn (lst out 2) (lst out 1) (l.getD i z24) = 0 ∧ (mn (lst out 2).f1 (l.getD i z24).f1 ≤ (lst out 1).f1 ∧ (lst out 1).f1 ≤ mx (lst out 2).f1 (l.getD i z24).f1) ∧ mn (lst out 2).f2 (l.getD i z24).f2 ≤ (lst out 1).f2 ∧ (lst out 1).f2 ≤ mx (lst out 2).f2 (l.getD i z24).f2 := by
        unfold onseg
        rw [tn_turn]
        have : -tn (lst out 2) (lst out 1) (l.getD i z24) = 0 ↔ tn (lst out 2) (lst out 1) (l.getD i z24) = 0 := by omega
        rw [this]
      by_cases h0 : tn (lst out 2) (lst out 1) (l.getD i z24) = 0
      · have es : sgn (tn (lst out 2) (lst out 1) (l.getD i z24)) = 0 := by rw [h0]; rfl
        rw [if_pos es, between_eq46]
        simp only [Option.bind_some]
        rw [show K + 1 + 3 = K + 3 + 1 by omega, J _ (fun _ => h2)]
        by_cases hw : (mn (lst out 2).f1 (l.getD i z24).f1 ≤ (lst out 1).f1 ∧ (lst out 1).f1 ≤ mx (lst out 2).f1 (l.getD i z24).f1) ∧ mn (lst out 2).f2 (l.getD i z24).f2 ≤ (lst out 1).f2 ∧ (lst out 1).f2 ≤ mx (lst out 2).f2 (l.getD i z24).f2
        · rw [if_pos (decide_eq_true hw), if_pos ⟨h2, e0.2 ⟨h0, hw⟩⟩]
        · rw [if_neg (by simpa using hw), if_neg (fun e => hw (e0.1 e.2).2)]
      · have es : sgn (tn (lst out 2) (lst out 1) (l.getD i z24)) ≠ 0 := by
          intro e
          rcases sgn_cases (tn (lst out 2) (lst out 1) (l.getD i z24)) with h' | h' | h' <;> omega
        rw [if_neg es, show K + 1 + 3 = K + 3 + 1 by omega, J false (fun h => by cases h), if_neg (by simp), if_neg (fun e => h0 (e0.1 e.2).1)]
    · rw [if_neg (by omega), J false (fun h => by cases h), if_neg (by simp), if_neg (fun e => h2 e.1)]
theorem law_loop (l : List S24) (hl : ∀ p ∈ l, ok p) (hn : l.length ≤ 60) (d : Nat) : ∀ (k i : Nat), l.length - i = d → i ≤ l.length →
    croftlaw46_TrackStraight.l0 (3 * d + k + 200) l ((l.take i).foldl sstep []) i = some true := by
  induction d with
  | zero =>
    intro k i h1 h2
    obtain ⟨K, hK⟩ : ∃ K, k + 199 = K := ⟨_, rfl⟩
    rw [show 3 * 0 + k + 200 = K + 1 by omega]
    simp only [croftlaw46_TrackStraight.l0]
    rw [if_neg (by omega)]
    obtain rfl : i = l.length := by omega
    have s := straight_ends l l.length (Nat.le_refl _)
    rw [List.take_length] at s ⊢
    obtain ⟨s1, s2⟩ := s
    rw [show K = 2 * l.length + (K - 4 - 2 * l.length) + 4 by omega, straight_eq _ l hl (by omega)]
    simp only [Option.bind_some]
    generalize l.foldl sstep [] = out at s1 s2 ⊢
    rw [show 2 * l.length + (K - 4 - 2 * l.length) + 4 = out.length + (K - 1 - out.length) + 1 by omega, points_eq _ _ (by omega)]
    simp only [Option.bind_some, if_true]
    by_cases h0 : l.length = 0
    · rw [if_pos (by omega)]
      have : out.length = 0 := by omega
      simp [this]
    · obtain ⟨t1, t2, t3⟩ := s1 (by omega)
      rw [if_neg (by omega), if_pos (by omega), w64_in ((out.length : Int) - 1) (by omega) (by omega), w64_in ((l.length : Int) - 1) (by omega) (by omega), if_pos (by omega), if_pos (by omega), if_pos (by omega)]
      rw [show rd_T24 out 0 = out.getD 0 z24 from rfl, show rd_T24 l 0 = l.getD 0 z24 from rfl, t3, if_pos (by simp), if_pos (by omega), if_pos (by omega)]
      rw [show (out.length : Int) - 1 = (out.length : Int) - (1 : Nat) by omega, rd_lst out 1 (by omega), show (l.length : Int) - 1 = (l.length : Int) - (1 : Nat) by omega, rd_lst l 1 (by omega)]
      rw [show lst l 1 = l.getD (l.length - 1) z24 from rfl, if_pos t2.1, t2.2]
      simp
  | succ d ih =>
    intro k i h1 h2
    have hi : i < l.length := by omega
    have hg : rd_T24 l (i : Int) = l.getD i z24 := rfl
    obtain ⟨K, hK⟩ : ∃ K, 3 * d + k + 200 = K := ⟨_, rfl⟩
    rw [show 3 * (d + 1) + k + 200 = K + 1 + 1 + 1 by omega]
    simp only [croftlaw46_TrackStraight.l0]
    have hz := (straight_ends l i (by omega)).2
    have hoo : ∀ p ∈ (l.take i).foldl sstep [], ok p := by
      have : ∀ (m : List S24) (o : List S24), (∀ p ∈ m, ok p) → (∀ p ∈ o, ok p) → ∀ p ∈ m.foldl sstep o, ok p := by
        intro m
        induction m with
        | nil => intro o _ h; exact h
        | cons a t iht => intro o h1 h2; exact iht _ (fun p hp => h1 p (List.mem_cons_of_mem _ hp)) (sstep_ok o a h2 (h1 a List.mem_cons_self))
      exact this _ _ (fun p hp => hl p (List.mem_of_mem_take hp)) (by simp)
    have fin : ∀ j, K ≤ j → croftlaw46_TrackStraight.l0 j l (sstep ((l.take i).foldl sstep []) (l.getD i z24)) ((i : Int) + 1) = some true := by
      intro j hj
      have := ih (k + (j - K)) (i + 1) (by omega) (by omega)
      rw [List.take_succ_eq_append_getElem hi, List.foldl_append] at this
      rw [← this, show 3 * d + (k + (j - K)) + 200 = j by omega]
      simp only [List.foldl_cons, List.foldl_nil]
      rw [show l.getD i z24 = l[i] by simp [hi]]
      rfl
    generalize (l.take i).foldl sstep [] = out at *
    obtain ⟨j, hj, e⟩ := law_j2 (K + 1) l out i hi hn hz hl hoo (by omega)
    have e' := e.trans (fin j (by omega))
    rw [if_pos (by omega), hg]
    by_cases h0 : 1 ≤ out.length
    · rw [if_pos (by omega), w64_in ((out.length : Int) - 1) (by omega) (by omega), if_pos (by omega), if_pos (by omega), if_pos (by omega)]
      rw [show (out.length : Int) - 1 = (out.length : Int) - (1 : Nat) by omega, rd_lst out 1 h0]
      by_cases c1 : (lst out 1).f1 = (l.getD i z24).f1
      · rw [if_pos c1]
        rw [← e']
        congr 1
        unfold same
        show decide ((lst out 1).f2 = (l.getD i z24).f2) = _
        rw [decide_eq_decide]
        exact ⟨fun e => ⟨h0, c1, e⟩, fun e => e.2.2⟩
      · rw [if_neg c1, ← e']
        congr 1
        unfold same
        exact (decide_eq_false fun e => c1 e.2.1).symm
    · rw [if_neg (by omega), ← e']
      congr 1
      simp [h0]
end TrackStraightAux
open TrackStraightAux

theorem TrackStraight : croftlaw46_TrackStraight.Pure := by
  intro l _ _ hl
  have hl : ∀ p ∈ l, ok p := fun p hp => ⟨wf_u32 (hl p hp).2.1, wf_u32 (hl p hp).2.2⟩
  refine ⟨600, ?_⟩
  unfold croftlaw46_TrackStraight.f
  rw [alive46 590]
  simp only [Option.bind_some, if_true]
  have key : ∀ l' : List S24, (∀ p ∈ l', ok p) → l'.length ≤ 60 → croftlaw46_TrackStraight.j0 600 l' = some true := by
    intro l' h1 h2
    simp only [croftlaw46_TrackStraight.j0]
    have := law_loop l' h1 h2 l'.length (399 - 3 * l'.length) 0 (by omega) (by omega)
    rw [show 3 * l'.length + (399 - 3 * l'.length) + 200 = 599 by omega] at this
    exact this
  by_cases h : (l.length : Int) > 60
  · rw [if_pos h, if_pos (by omega)]
    exact key _ (fun p hp => hl p (List.mem_of_mem_take hp)) (by simp; omega)
  · rw [if_neg h]
    exact key l hl (by omega)
end Go.Proofs.Ytgepbfcaimejmaa.Pure
