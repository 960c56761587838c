/-
  The plain half of the law PolyWithin: what its code computes is true, at all polygons and places.
  Conditions: none but the kinds' own bounds.
-/
import Derived.Test.YtgepbfcaimejmaaPlainW
import Derived.Test.YtgepbfcaimejmaaPAw2
namespace Go.Proofs.Ytgepbfcaimejmaa.Pure
open Go.RowKit Go.Proofs.Ytgepbfcaimejmaa.PA Go.Proofs.YtgepbfcaimejmaaW.PrintWords Go.Proofs.YtgepbfcaimejmaaW.PrintLast Nums MulA WideA PolyA

namespace PolyWithinAux
/-- Does side j turn it over? -/
def tog2 (a b q : S24) : Prop := ((a.f2 ≤ q.f2 ∧ q.f2 < b.f2) ∧ 0 < tn a b q) ∨ ((b.f2 ≤ q.f2 ∧ q.f2 < a.f2) ∧ tn a b q < 0)
instance (a b q : S24) : Decidable (tog2 a b q) := by unfold tog2; infer_instance
def tog (l : List S24) (q : S24) (j : Nat) : Prop := tog2 (l.getD j z24) (l.getD ((j + 1) % l.length) z24) q
instance (l : List S24) (q : S24) (j : Nat) : Decidable (tog l q j) := by unfold tog; infer_instance
def odd (l : List S24) (q : S24) (i : Nat) : Bool := (List.range i).foldl (fun o j => if tog l q j then !o else o) false
theorem odd_succ (l : List S24) (q : S24) (i : Nat) : odd l q (i + 1) = if tog l q i then !odd l q i else odd l q i := by
  unfold odd
  rw [List.range_succ, List.foldl_append]
  rfl
theorem sgn_pos (n : Int) : 0 < sgn n ↔ 0 < n := by rcases sgn_cases n with h | h | h <;> omega
theorem sgn_neg' (n : Int) : sgn n < 0 ↔ n < 0 := by rcases sgn_cases n with h | h | h <;> omega
theorem crossPQ_eq (k : Nat) (a b q : S24) (ha : ok a) (hb : ok b) (hq : ok q) : crossPQ (k + 3) a b q.f1 q.f2 = some (decide ((a.f2 ≤ q.f2 ∧ q.f2 < b.f2) ∧ 0 < tn a b q)) := by
  unfold crossPQ
  by_cases h : a.f2 ≤ q.f2 ∧ q.f2 < b.f2
  · rw [if_pos h]
    have e := turn3_eq k a b ⟨0, q.f1, q.f2, ⟨#[]⟩⟩ ha hb hq
    have e' : tn a b ⟨0, q.f1, q.f2, ⟨#[]⟩⟩ = tn a b q := rfl
    rw [e'] at e
    rw [show poly_Turn.f (k + 3) a.f0 a.f1 a.f2 a.f3 b.f0 b.f1 b.f2 b.f3 0 q.f1 q.f2 ⟨#[]⟩ = some (sgn (tn a b q)) from e]
    simp only [Option.bind_some, sgn_pos]
    congr 1
    rw [decide_eq_decide]
    exact ⟨fun h' => ⟨h, h'⟩, fun h' => h'.2⟩
  · rw [if_neg h]
    congr 1
    symm
    rw [decide_eq_false_iff_not]
    exact fun h' => h h'.1
theorem crossUp_eq (k : Nat) (a b q : S24) (ha : ok a) (hb : ok b) (hq : ok q) : crossUp (k + 3) a b q.f1 q.f2 = some (decide (tog2 a b q)) := by
  unfold crossUp
  by_cases h : b.f2 < a.f2
  · rw [if_pos h, crossPQ_eq k b a q hb ha hq]
    congr 1
    rw [decide_eq_decide, tn_swap a b q]
    unfold tog2
    omega
  · rw [if_neg h, crossPQ_eq k a b q ha hb hq]
    congr 1
    rw [decide_eq_decide]
    unfold tog2
    omega
theorem getD_ok (l : List S24) (hl : ∀ p ∈ l, sml p) (i : Nat) : ok (l.getD i z24) := sml_ok _ (getD_sml l hl i)
theorem sd_at (l : List S24) (j : Nat) (hj : j < l.length) : sdAt l (j % l.length) = (l.getD j z24, l.getD ((j + 1) % l.length) z24) := by
  unfold sdAt
  rw [Nat.mod_eq_of_lt hj]
theorem crossAt_eq (k : Nat) (l : List S24) (hl : ∀ p ∈ l, sml p) (q : S24) (hq : ok q) (j : Nat) (hj : j < l.length) : crossAt (k + 3) l q.f1 q.f2 j = some (decide (tog l q j)) := by
  unfold crossAt
  rw [sd_at l j hj]
  exact crossUp_eq k _ _ q (getD_ok l hl _) (getD_ok l hl _) hq
theorem sideAt_eq (k : Nat) (l : List S24) (hl : ∀ p ∈ l, sml p) (q : S24) (hq : ok q) (j : Nat) (hj : j < l.length) : sideAt (k + 3) l q.f1 q.f2 j = some (decide (onj l q j)) := by
  unfold sideAt
  rw [sd_at l j hj]
  exact side_eq k _ _ ⟨0, q.f1, q.f2, ⟨#[]⟩⟩ (getD_ok l hl _) (getD_ok l hl _) hq
theorem pOn_eq (k : Nat) (l : List S24) (hl : ∀ p ∈ l, sml p) (q : S24) (hq : ok q) : poly_On.f (k + 3) l q.f1 q.f2 = some (decide (onl l q)) := by
  unfold poly_On.f
  have h1 : ∀ j, j < l.length → (sideAt (k + 3) l q.f1 q.f2 j).isSome = true := fun j hj => by rw [sideAt_eq k l hl q hq j hj]; rfl
  rw [if_pos h1]
  congr 1
  rw [decide_eq_decide]
  unfold onl
  constructor
  · rintro ⟨j, hj, h⟩
    rw [sideAt_eq k l hl q hq j hj] at h
    exact ⟨j, hj, of_decide_eq_true (Option.some.inj h)⟩
  · rintro ⟨j, hj, h⟩
    refine ⟨j, hj, ?_⟩
    rw [sideAt_eq k l hl q hq j hj, decide_eq_true h]
theorem par_odd (k : Nat) (l : List S24) (hl : ∀ p ∈ l, sml p) (q : S24) (hq : ok q) (i : Nat) (hi : i ≤ l.length) : par (k + 3) l q.f1 q.f2 (List.range i) = odd l q i := by
  induction i with
  | zero => rfl
  | succ i ih =>
    rw [odd_succ, List.range_succ, par_append, ih (by omega), crossAt_eq k l hl q hq i (by omega)]
    by_cases h : tog l q i
    · rw [if_pos h, if_pos (by rw [decide_eq_true h])]
    · rw [if_neg h, if_neg (by rw [decide_eq_false h]; simp)]
theorem within_eq (k : Nat) (l : List S24) (hl : ∀ p ∈ l, sml p) (q : S24) (hq : ok q) : poly_Within.f (k + 3) l q.f1 q.f2 = some (decide (onl l q) || odd l q l.length) := by
  unfold poly_Within.f
  rw [pOn_eq k l hl q hq]
  have h1 : ∀ j, j < l.length → (crossAt (k + 3) l q.f1 q.f2 j).isSome = true := fun j hj => by rw [crossAt_eq k l hl q hq j hj]; rfl
  have h2 : restW (k + 3) l q.f1 q.f2 = some (odd l q l.length) := by
    unfold restW
    rw [if_pos h1, par_odd k l hl q hq _ (Nat.le_refl _)]
  by_cases h : onl l q
  · rw [decide_eq_true h]
    rfl
  · rw [decide_eq_false h]
    exact h2
theorem law_j2 (K : Nat) (l : List S24) (o : Bool) (i : Nat) (u v : Bool) (q a b : S24) (ha : sml a) (hb : sml b) (hq : sml q) (hi : i < 1048576) :
    croftlaw34_PolyWithin.j2 (K + 1) l o i u v q.f0 q.f1 q.f2 q.f3 a.f0 a.f1 a.f2 a.f3 b.f0 b.f1 b.f2 b.f3 =
    croftlaw34_PolyWithin.l0 K l (if (u = true ∧ 0 < tn a b q) ∨ (v = true ∧ tn a b q < 0) then !o else o) (i + 1 : Nat) q.f0 q.f1 q.f2 q.f3 := by
  simp only [croftlaw34_PolyWithin.j2]
  rw [rturn_eq a b q ha hb hq, w64_in ((i : Int) + 1) (by omega) (by omega), show (i : Int) + 1 = ((i + 1 : Nat) : Int) by omega]
  simp only [Option.bind_some, gt_iff_lt, sgn_pos, sgn_neg']
  by_cases hu : u = true
  · by_cases hp : 0 < tn a b q
    · simp [hu, hp]
    · by_cases hv : v = true
      · by_cases hn : tn a b q < 0
        · simp [hu, hp, hv, hn]
        · simp [hu, hp, hv, hn]
      · simp [hu, hp, hv]
  · by_cases hv : v = true
    · by_cases hn : tn a b q < 0
      · simp [hu, hv, hn]
      · simp [hu, hv, hn]
    · simp [hu, hv]
theorem law_j1 (K : Nat) (l : List S24) (o : Bool) (i : Nat) (u : Bool) (q a b : S24) (ha : sml a) (hb : sml b) (hq : sml q) (hi : i < 1048576) (hu : u = decide (a.f2 ≤ q.f2 ∧ q.f2 < b.f2)) :
    croftlaw34_PolyWithin.j1 (K + 2) l o i u q.f0 q.f1 q.f2 q.f3 a.f0 a.f1 a.f2 a.f3 b.f0 b.f1 b.f2 b.f3 =
    croftlaw34_PolyWithin.l0 K l (if tog2 a b q then !o else o) (i + 1 : Nat) q.f0 q.f1 q.f2 q.f3 := by
  obtain ⟨J, hJ⟩ : ∃ J, K + 1 = J := ⟨_, rfl⟩
  rw [show K + 2 = J + 1 by omega]
  simp only [croftlaw34_PolyWithin.j1]
  rw [← hJ, law_j2 K l o i u _ q a b ha hb hq hi, law_j2 K l o i u _ q a b ha hb hq hi]
  unfold tog2
  subst hu
  simp only [decide_eq_true_eq]
  by_cases h : b.f2 ≤ q.f2
  · rw [if_pos h]
    simp [h]
  · rw [if_neg h]
    simp [h]
theorem law_loop (l : List S24) (hl : ∀ p ∈ l, sml p) (hn : l.length ≤ 16) (q : S24) (hq : sml q) (d : Nat) : ∀ (k i : Nat), l.length - i = d → i ≤ l.length →
    croftlaw34_PolyWithin.l0 (3 * d + k + 50) l (odd l q i) i q.f0 q.f1 q.f2 q.f3 = some true := by
  have hq' := sml_ok q hq
  induction d with
  | zero =>
    intro k i h1 h2
    obtain ⟨K, hK⟩ : ∃ K, k + 49 = K := ⟨_, rfl⟩
    rw [show 3 * 0 + k + 50 = K + 1 by omega]
    simp only [croftlaw34_PolyWithin.l0]
    rw [if_neg (by omega)]
    obtain rfl : i = l.length := by omega
    rw [show K = 2 * l.length + (K - 1 - 2 * l.length) + 1 by omega, on_eq _ l hl (by omega) q hq]
    rw [show 2 * l.length + (K - 1 - 2 * l.length) + 1 = (K - 3) + 3 by omega, pOn_eq _ l hl q hq', within_eq _ l hl q hq']
    simp only [Option.bind_some, beq_self_eq_true, if_true]
    by_cases h : onl l q
    · rw [if_pos (decide_eq_true h), decide_eq_true h]
      rfl
    · rw [if_neg (by rw [decide_eq_false h]; simp), decide_eq_false h]
      simp
  | succ d ih =>
    intro k i h1 h2
    obtain ⟨K, hK⟩ : ∃ K, 3 * d + k + 50 = K := ⟨_, rfl⟩
    rw [show 3 * (d + 1) + k + 50 = (K + 2) + 1 by omega]
    obtain ⟨J, hJ⟩ : ∃ J, K + 2 = J := ⟨_, rfl⟩
    rw [hJ]
    simp only [croftlaw34_PolyWithin.l0]
    have hi : i < l.length := by omega
    have hm := Nat.mod_lt (i + 1) (show l.length > 0 by omega)
    rw [w64_in ((i : Int) + 1) (by omega) (by omega), show (i : Int) + 1 = ((i + 1 : Nat) : Int) by omega, tmod_nat]
    rw [if_pos (by omega), if_pos (by omega), if_neg (by omega), if_pos (by omega), if_pos (by omega)]
    rw [show rd_T24 l (i : Int) = l.getD i z24 from rfl, show rd_T24 l (((i + 1) % l.length : Nat) : Int) = l.getD ((i + 1) % l.length) z24 from rfl]
    have fin := ih k (i + 1) (by omega) (by omega)
    rw [hK, odd_succ] at fin
    have sa := getD_sml l hl i
    have sb := getD_sml l hl ((i + 1) % l.length)
    rw [← hJ]
    by_cases h : (l.getD i z24).f2 ≤ q.f2
    · rw [if_pos h, law_j1 K l _ i _ q _ _ sa sb hq (by omega) (by rw [decide_eq_decide]; exact ⟨fun z => ⟨h, z⟩, fun z => z.2⟩)]
      exact fin
    · rw [if_neg h, law_j1 K l _ i _ q _ _ sa sb hq (by omega) (by symm; rw [decide_eq_false_iff_not]; exact fun z => h z.1)]
      exact fin
end PolyWithinAux
open PolyWithinAux

theorem PolyWithin : croftlaw34_PolyWithin.Pure := by
  intro l a0 a1 a2 a3 _ _ hl _ w1 w2
  have hl : ∀ p ∈ l, 0 ≤ p.f1 ∧ 0 ≤ p.f2 := fun p hp => ⟨(wf_u32 (hl p hp).2.1).1, (wf_u32 (hl p hp).2.2).1⟩
  have w1 := wf_u32 w1
  have w2 := wf_u32 w2
  refine ⟨200, ?_⟩
  unfold croftlaw34_PolyWithin.f
  rw [alive34 197]
  simp only [Option.bind_some, if_true]
  rw [cut_eq 183 l hl, cut_eq 183 [(⟨a0, a1, a2, a3⟩ : S24)] (by intro p hp; rw [List.mem_singleton.1 hp]; exact ⟨w1.1, w2.1⟩)]
  simp only [Option.bind_some]
  have e : List.map sm (List.take 16 [(⟨a0, a1, a2, a3⟩ : S24)]) = [sm ⟨a0, a1, a2, a3⟩] := rfl
  rw [e, if_pos (by simp), show rd_T24 [sm (⟨a0, a1, a2, a3⟩ : S24)] 0 = sm ⟨a0, a1, a2, a3⟩ from rfl]
  have hs : ∀ p ∈ List.map sm (List.take 16 l), sml p := by
    intro p hp
    obtain ⟨p', hp', rfl⟩ := List.mem_map.1 hp
    have := hl p' (List.mem_of_mem_take hp')
    unfold sml sm
    simp only
    omega
  have hq : sml (sm (⟨a0, a1, a2, a3⟩ : S24)) := sm_sml _ ⟨w1, w2⟩
  have hlen : (List.map sm (List.take 16 l)).length ≤ 16 := by simp; omega
  have := law_loop _ hs hlen _ hq (List.map sm (List.take 16 l)).length (150 - 3 * (List.map sm (List.take 16 l)).length) 0 (by omega) (by omega)
  rw [show 3 * (List.map sm (List.take 16 l)).length + (150 - 3 * (List.map sm (List.take 16 l)).length) + 50 = 200 by omega] at this
  exact this
end Go.Proofs.Ytgepbfcaimejmaa.Pure
