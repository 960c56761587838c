/-
  The plain half of the law PolyCrosses: what its code computes is true, at all four points.
  Conditions: none but the kinds' own bounds.
-/
import Derived.Test.YtgepbfcaimejmaaPlainC
import Derived.Test.YtgepbfcaimejmaaPCx8
namespace Go.Proofs.Ytgepbfcaimejmaa.Pure
open Go.RowKit Go.Proofs.Ytgepbfcaimejmaa.PC Go.Proofs.YtgepbfcaimejmaaW.PrintWords Go.Proofs.YtgepbfcaimejmaaW.PrintLast Nums MulC WideC PolyC

namespace PolyCrossesAux
/-- Do they lie on two sides of each other? -/
def cross (a b c d : S24) : Prop := sgn (tn a b c) * sgn (tn a b d) < 0 ∧ sgn (tn c d a) * sgn (tn c d b) < 0
instance (a b c d : S24) : Decidable (cross a b c d) := by unfold cross; infer_instance
/-- Have two sides a place in common? -/
def cr4 (a b c d : S24) : Prop := cross a b c d ∨ onseg a b c ∨ onseg a b d ∨ onseg c d a ∨ onseg c d b
instance (a b c d : S24) : Decidable (cr4 a b c d) := by unfold cr4; infer_instance
theorem sgn_mul (m n : Int) : -1 ≤ sgn m * sgn n ∧ sgn m * sgn n ≤ 1 := by
  rcases sgn_cases m with ⟨h, _⟩ | ⟨h, _⟩ | ⟨h, _⟩ <;> rcases sgn_cases n with ⟨h', _⟩ | ⟨h', _⟩ | ⟨h', _⟩ <;> rw [h, h'] <;> decide
theorem sgn_wrap (m n : Int) : wrap64 (sgn m * sgn n) = sgn m * sgn n := by
  have := sgn_mul m n
  exact w64_in _ (by omega) (by omega)
theorem cross_j0 (k : Nat) (x : Bool) (a b c d : S24) (ha : ok a) (hb : ok b) (hc : ok c) (hd : ok d) :
    poly_Cross.j0 (k + 4) x a.f0 a.f1 a.f2 a.f3 b.f0 b.f1 b.f2 b.f3 c.f0 c.f1 c.f2 c.f3 d.f0 d.f1 d.f2 d.f3 = some (decide (x = true ∨ onseg a b c ∨ onseg a b d ∨ onseg c d a ∨ onseg c d b)) := by
  obtain ⟨K, hK⟩ : ∃ K, k + 3 = K := ⟨_, rfl⟩
  rw [show k + 4 = K + 1 by omega]
  simp only [poly_Cross.j0]
  rw [← hK, side_eq _ _ _ _ ha hb hc, side_eq _ _ _ _ ha hb hd, side_eq _ _ _ _ hc hd ha, side_eq _ _ _ _ hc hd hb]
  simp only [Option.bind_some, decide_eq_true_eq]
  by_cases h0 : x = true
  · simp [h0]
  · by_cases h1 : onseg a b c
    · simp [h0, h1]
    · by_cases h2 : onseg a b d
      · simp [h0, h1, h2]
      · by_cases h3 : onseg c d a
        · simp [h0, h1, h2, h3]
        · simp [h0, h1, h2, h3]
theorem cross_eq (k : Nat) (a b c d : S24) (ha : ok a) (hb : ok b) (hc : ok c) (hd : ok d) :
    poly_Cross.f (k + 4) a.f0 a.f1 a.f2 a.f3 b.f0 b.f1 b.f2 b.f3 c.f0 c.f1 c.f2 c.f3 d.f0 d.f1 d.f2 d.f3 = some (decide (cr4 a b c d)) := by
  unfold poly_Cross.f
  rw [show k + 4 = (k + 1) + 3 by omega, turn3_eq _ _ _ _ ha hb hc, turn3_eq _ _ _ _ ha hb hd, turn3_eq _ _ _ _ hc hd ha, turn3_eq _ _ _ _ hc hd hb]
  simp only [Option.bind_some, sgn_wrap]
  rw [show k + 1 + 3 = k + 4 by omega, cross_j0 k _ a b c d ha hb hc hd, cross_j0 k _ a b c d ha hb hc hd]
  unfold cr4 cross
  by_cases h : sgn (tn a b c) * sgn (tn a b d) < 0
  · simp [h]
  · simp [h]
theorem neg_mul_neg' (m n : Int) : -m * -n = m * n := by grind
theorem cr4_turned (a b c d : S24) : cr4 b a c d ↔ cr4 a b c d := by
  unfold cr4 cross
  rw [tn_swap a b c, tn_swap a b d, sgn_neg, sgn_neg, neg_mul_neg', Int.mul_comm (sgn (tn c d b)), onseg_swap a b c, onseg_swap a b d]
  constructor
  · rintro (h | h | h | h | h)
    · exact Or.inl h
    · exact Or.inr (Or.inl h)
    · exact Or.inr (Or.inr (Or.inl h))
    · exact Or.inr (Or.inr (Or.inr (Or.inr h)))
    · exact Or.inr (Or.inr (Or.inr (Or.inl h)))
  · rintro (h | h | h | h | h)
    · exact Or.inl h
    · exact Or.inr (Or.inl h)
    · exact Or.inr (Or.inr (Or.inl h))
    · exact Or.inr (Or.inr (Or.inr (Or.inr h)))
    · exact Or.inr (Or.inr (Or.inr (Or.inl h)))
theorem cr4_other (a b c d : S24) : cr4 c d a b ↔ cr4 a b c d := by
  unfold cr4 cross
  constructor
  · rintro (h | h | h | h | h)
    · exact Or.inl ⟨h.2, h.1⟩
    · exact Or.inr (Or.inr (Or.inr (Or.inl h)))
    · exact Or.inr (Or.inr (Or.inr (Or.inr h)))
    · exact Or.inr (Or.inl h)
    · exact Or.inr (Or.inr (Or.inl h))
  · rintro (h | h | h | h | h)
    · exact Or.inl ⟨h.2, h.1⟩
    · exact Or.inr (Or.inr (Or.inr (Or.inl h)))
    · exact Or.inr (Or.inr (Or.inr (Or.inr h)))
    · exact Or.inr (Or.inl h)
    · exact Or.inr (Or.inr (Or.inl h))
/-- The end of the law, behind its loop. -/
theorem law_end (K : Nat) (x9 : Bool) (l : List S24) (x : Bool) (a b c d : S24) (ha : ok a) (hb : ok b) (hc : ok c) (hd : ok d) (hK : 9 ≤ K)
    (h9 : x9 = decide (cr4 a b c d)) (hl : l = [sm a, sm b, sm c, sm d]) (hx : x = decide (cr4 (sm a) (sm b) (sm c) (sm d))) :
    croftlaw34_PolyCrosses.l0 K x9 l x 2 a.f0 a.f1 a.f2 a.f3 b.f0 b.f1 b.f2 b.f3 c.f0 c.f1 c.f2 c.f3 d.f0 d.f1 d.f2 d.f3 = some true := by
  obtain ⟨k, rfl⟩ : ∃ k, K = (k + 4) + 1 := ⟨K - 5, by omega⟩
  obtain ⟨J, hJ⟩ : ∃ J, k + 4 = J := ⟨_, rfl⟩
  rw [hJ]
  simp only [croftlaw34_PolyCrosses.l0]
  rw [if_neg (by omega), ← hJ, cross_eq k b a c d hb ha hc hd, cross_eq k c d a b hc hd ha hb, cross_eq k a b a b ha hb ha hb, cross_eq k a b b c ha hb hb hc]
  simp only [Option.bind_some]
  have e1 : decide (cr4 b a c d) = decide (cr4 a b c d) := by rw [decide_eq_decide]; exact cr4_turned a b c d
  have e2 : decide (cr4 c d a b) = decide (cr4 a b c d) := by rw [decide_eq_decide]; exact cr4_other a b c d
  have e3 : cr4 a b a b := Or.inr (Or.inl (onseg_fst a b))
  have e4 : cr4 a b b c := Or.inr (Or.inl (onseg_snd a b))
  rw [e1, e2, h9]
  simp only [beq_self_eq_true, if_true, e3, e4, decide_true]
  have sa := sml_ok _ (sm_sml a ha)
  have sb := sml_ok _ (sm_sml b hb)
  have sc := sml_ok _ (sm_sml c hc)
  have sd := sml_ok _ (sm_sml d hd)
  have hlen : (l.length : Int) = 4 := by rw [hl]; rfl
  rw [hlen, show rd_T24 l 0 = sm a by rw [hl]; rfl, show rd_T24 l 1 = sm b by rw [hl]; rfl, show rd_T24 l 2 = sm c by rw [hl]; rfl, show rd_T24 l 3 = sm d by rw [hl]; rfl]
  rw [cross_eq k (sm a) (sm b) (sm c) (sm d) sa sb sc sd, hx]
  simp
theorem law_step (K : Nat) (x9 : Bool) (l : List S24) (x : Bool) (a b c d : S24) (ha : ok a) (hb : ok b) (hc : ok c) (hd : ok d) (hK : 9 ≤ K) (i : Nat) (hi : i < 2) (hl : l = [sm a, sm b, sm c, sm d]) :
    croftlaw34_PolyCrosses.l0 (K + 1) x9 l x i a.f0 a.f1 a.f2 a.f3 b.f0 b.f1 b.f2 b.f3 c.f0 c.f1 c.f2 c.f3 d.f0 d.f1 d.f2 d.f3 =
    croftlaw34_PolyCrosses.l0 K x9 l (decide (x = true ∨ onseg (sm a) (sm b) (l.getD (2 + i) z24) ∨ onseg (sm c) (sm d) (l.getD i z24))) (i + 1 : Nat) a.f0 a.f1 a.f2 a.f3 b.f0 b.f1 b.f2 b.f3 c.f0 c.f1 c.f2 c.f3 d.f0 d.f1 d.f2 d.f3 := by
  conv => lhs; simp only [croftlaw34_PolyCrosses.l0]
  have sa := sm_sml a ha
  have sb := sm_sml b hb
  have sc := sm_sml c hc
  have sd := sm_sml d hd
  have hls : ∀ p ∈ l, sml p := by
    intro p hp
    rw [hl] at hp
    simp at hp
    rcases hp with rfl | rfl | rfl | rfl <;> assumption
  rw [if_pos (by omega), w64_in ((i : Int) + 1) (by omega) (by omega), w64_in (2 + (i : Int)) (by omega) (by omega)]
  by_cases h0 : x = true
  · rw [if_pos h0]
    simp [h0]
  · rw [if_neg h0]
    have hlen : (l.length : Int) = 4 := by rw [hl]; rfl
    rw [hlen, if_pos (by omega), if_pos (by omega), if_pos (by omega)]
    have t2 : l.take 2 = [sm a, sm b] := by rw [hl]; rfl
    have d2 : l.drop 2 = [sm c, sm d] := by rw [hl]; rfl
    rw [show rd_T24 l (2 + (i : Int)) = l.getD (2 + i) z24 by unfold rd_T24; congr 1 <;> omega, show rd_T24 l (i : Int) = l.getD i z24 from rfl, t2, d2]
    have o1 := on_eq (K - 5) [sm a, sm b] (by intro p hp; simp at hp; rcases hp with rfl | rfl <;> assumption) (by simp) (l.getD (2 + i) z24) (getD_sml l hls _)
    have o2 := on_eq (K - 5) [sm c, sm d] (by intro p hp; simp at hp; rcases hp with rfl | rfl <;> assumption) (by simp) (l.getD i z24) (getD_sml l hls _)
    simp only [List.length_cons, List.length_nil, Nat.zero_add, Nat.reduceAdd, Nat.reduceMul, onl_two] at o1 o2
    rw [show 4 + (K - 5) + 1 = K by omega] at o1 o2
    rw [o1, o2]
    simp only [Option.bind_some]
    by_cases h1 : onseg (sm a) (sm b) (l.getD (2 + i) z24)
    · rw [if_pos (by rw [decide_eq_true_eq]; exact h1)]
      have e : decide (x = true ∨ onseg (sm a) (sm b) (l.getD (2 + i) z24) ∨ onseg (sm c) (sm d) (l.getD i z24)) = true := by
        rw [decide_eq_true_eq]
        exact Or.inr (Or.inl h1)
      rw [e]
      rfl
    · rw [if_neg (by rw [decide_eq_true_eq]; exact h1), if_pos (by omega), if_pos (by omega)]
      have e : decide (x = true ∨ onseg (sm a) (sm b) (l.getD (2 + i) z24) ∨ onseg (sm c) (sm d) (l.getD i z24)) = decide (onseg (sm c) (sm d) (l.getD i z24)) := by
        rw [decide_eq_decide]
        constructor
        · rintro (h | h | h)
          · exact absurd h h0
          · exact absurd h h1
          · exact h
        · exact fun h => Or.inr (Or.inr h)
      rw [e]
      rfl
end PolyCrossesAux
open PolyCrossesAux

theorem PolyCrosses : croftlaw34_PolyCrosses.Pure := by
  intro a0 a1 a2 a3 b0 b1 b2 b3 c0 c1 c2 c3 d0 d1 d2 d3 _ wa1 wa2 _ wb1 wb2 _ wc1 wc2 _ wd1 wd2
  have ha : ok (⟨a0, a1, a2, a3⟩ : S24) := ⟨wf_u32 wa1, wf_u32 wa2⟩
  have hb : ok (⟨b0, b1, b2, b3⟩ : S24) := ⟨wf_u32 wb1, wf_u32 wb2⟩
  have hc : ok (⟨c0, c1, c2, c3⟩ : S24) := ⟨wf_u32 wc1, wf_u32 wc2⟩
  have hd : ok (⟨d0, d1, d2, d3⟩ : S24) := ⟨wf_u32 wd1, wf_u32 wd2⟩
  generalize ha' : (⟨a0, a1, a2, a3⟩ : S24) = a at ha
  generalize hb' : (⟨b0, b1, b2, b3⟩ : S24) = b at hb
  generalize hc' : (⟨c0, c1, c2, c3⟩ : S24) = c at hc
  generalize hd' : (⟨d0, d1, d2, d3⟩ : S24) = d at hd
  refine ⟨20, ?_⟩
  have key : croftlaw34_PolyCrosses.f 20 a.f0 a.f1 a.f2 a.f3 b.f0 b.f1 b.f2 b.f3 c.f0 c.f1 c.f2 c.f3 d.f0 d.f1 d.f2 d.f3 = some true := by
    unfold croftlaw34_PolyCrosses.f
    have sa := sm_sml a ha
    have sb := sm_sml b hb
    have sc := sm_sml c hc
    have sd := sm_sml d hd
    have hcut := cut_eq 3 [a, b, c, d] (by
      intro p hp
      simp at hp
      unfold ok at ha hb hc hd
      rcases hp with rfl | rfl | rfl | rfl <;> omega)
    have rt : ∀ p q r : S24, ok p → ok q → ok r → croftlaw34_turn.f p.f0 p.f1 p.f2 p.f3 q.f0 q.f1 q.f2 q.f3 r.f0 r.f1 r.f2 r.f3 = some (sgn (tn (sm p) (sm q) (sm r))) :=
      fun p q r hp hq hr => refturn_eq _ _ _ _ _ _ _ _ _ _ _ _ hp.1.1 hp.2.1 hq.1.1 hq.2.1 hr.1.1 hr.2.1
    rw [alive34 17, cross_eq 16 a b c d ha hb hc hd, rt a b c ha hb hc, rt a b d ha hb hd, rt c d a hc hd ha, rt c d b hc hd hb]
    rw [show ([(⟨a.f0, a.f1, a.f2, a.f3⟩ : S24), (⟨b.f0, b.f1, b.f2, b.f3⟩ : S24), (⟨c.f0, c.f1, c.f2, c.f3⟩ : S24), (⟨d.f0, d.f1, d.f2, d.f3⟩ : S24)] : List S24) = [a, b, c, d] from rfl, hcut]
    simp only [Option.bind_some, if_true, sgn_wrap]
    have fin : ∀ x, x = decide (cross (sm a) (sm b) (sm c) (sm d)) → croftlaw34_PolyCrosses.j0 20 (decide (cr4 a b c d)) (List.map sm (List.take 16 [a, b, c, d])) x a.f0 a.f1 a.f2 a.f3 b.f0 b.f1 b.f2 b.f3 c.f0 c.f1 c.f2 c.f3 d.f0 d.f1 d.f2 d.f3 = some true := by
      intro x hx
      obtain ⟨J, hJ⟩ : ∃ J, 17 = J := ⟨_, rfl⟩
      rw [show 20 = J + 1 + 1 + 1 by omega]
      simp only [croftlaw34_PolyCrosses.j0]
      have hl : List.map sm (List.take 16 [a, b, c, d]) = [sm a, sm b, sm c, sm d] := rfl
      rw [show (0 : Int) = ((0 : Nat) : Int) from rfl, law_step (J + 1) _ _ _ a b c d ha hb hc hd (by omega) 0 (by omega) hl, law_step J _ _ _ a b c d ha hb hc hd (by omega) (0 + 1) (by omega) hl]
      refine law_end J _ _ _ a b c d ha hb hc hd (by omega) rfl hl ?_
      rw [decide_eq_decide, hx]
      unfold cr4
      simp only [decide_eq_true_eq]
      rw [show (List.map sm (List.take 16 [a, b, c, d])).getD (2 + 0) z24 = sm c from rfl, show (List.map sm (List.take 16 [a, b, c, d])).getD 0 z24 = sm a from rfl, show (List.map sm (List.take 16 [a, b, c, d])).getD (2 + (0 + 1)) z24 = sm d from rfl, show (List.map sm (List.take 16 [a, b, c, d])).getD (0 + 1) z24 = sm b from rfl]
      constructor
      · rintro ((h | h | h) | h | h)
        · exact Or.inl h
        · exact Or.inr (Or.inl h)
        · exact Or.inr (Or.inr (Or.inr (Or.inl h)))
        · exact Or.inr (Or.inr (Or.inl h))
        · exact Or.inr (Or.inr (Or.inr (Or.inr h)))
      · rintro (h | h | h | h | h)
        · exact Or.inl (Or.inl h)
        · exact Or.inl (Or.inr (Or.inl h))
        · exact Or.inr (Or.inl h)
        · exact Or.inl (Or.inr (Or.inr h))
        · exact Or.inr (Or.inr h)
    by_cases h : sgn (tn (sm a) (sm b) (sm c)) * sgn (tn (sm a) (sm b) (sm d)) < 0
    · rw [if_pos h]
      apply fin
      unfold cross
      simp [h]
    · rw [if_neg h]
      apply fin
      unfold cross
      simp [h]
  subst ha' hb' hc' hd'
  exact key
end Go.Proofs.Ytgepbfcaimejmaa.Pure
