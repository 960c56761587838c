/-
  The plain half of the law PairsTells: what its code computes is true, at all lists of points.
  Conditions: none but the kinds' own bounds.
-/
import Derived.Test.YtgepbfcaimejmaaNear2P
import Derived.Test.YtgepbfcaimejmaaPPx7
namespace Go.Proofs.Ytgepbfcaimejmaa.Pure
open Go.RowKit Go.Proofs.Ytgepbfcaimejmaa.PP Go.Proofs.YtgepbfcaimejmaaW.PrintWords Go.Proofs.YtgepbfcaimejmaaW.PrintLast Nums MulP WideP NearP

namespace PairsTellsAux
theorem ok_of {l : List S24} {F : Nat} (hn : l.length ≤ 25) (hF : 800 ≤ F) : l.length * (l.length + 2) + 2 * l.length + 9 ≤ F := by
  have := Nat.mul_le_mul hn (show l.length + 2 ≤ 27 by omega)
  omega
section
variable (l : List S24)
/-- The distance of a pair. -/
def Dp : Option (Nat × Nat) → Int
  | none => 0
  | some (i, k) => D l i k
def PA : Option (Nat × Nat) → S24
  | none => z24
  | some (i, _) => l.getD i z24
def PB : Option (Nat × Nat) → S24
  | none => z24
  | some (_, k) => l.getD k z24
def Db (i : Nat) (b : Int) : Int := if b < 0 then 0 else D l i b.toNat
def pst (i : Nat) (s : Option (Nat × Nat)) (k : Nat) : Option (Nat × Nat) := if k > i ∧ (s = none ∨ D l i k < Dp l s) then some (i, k) else s
def prow (s : Option (Nat × Nat)) (i : Nat) : Nat → Option (Nat × Nat)
  | 0 => s
  | k + 1 => pst l i (prow s i k) k
def pall : Nat → Option (Nat × Nat)
  | 0 => none
  | i + 1 => prow l (pall i) i l.length
def seen (i0 k0 i k : Nat) : Prop := i < k ∧ k < l.length ∧ (i < i0 ∨ i = i0 ∧ k < k0)
def Good (s : Option (Nat × Nat)) (i0 k0 : Nat) : Prop :=
  (s = none → ∀ i k, ¬ seen l i0 k0 i k) ∧ ∀ a b, s = some (a, b) → seen l i0 k0 a b ∧ (∀ i k, seen l i0 k0 i k → D l a b ≤ D l i k) ∧ ∀ i k, seen l i0 k0 i k → (i < a ∨ i = a ∧ k < b) → D l a b < D l i k
theorem good_step (i0 : Nat) (s : Option (Nat × Nat)) (k : Nat) (hk : k < l.length) (h : Good l s i0 k) : Good l (pst l i0 s k) i0 (k + 1) := by
  obtain ⟨h1, h2⟩ := h
  have split : ∀ i j, seen l i0 (k + 1) i j → seen l i0 k i j ∨ (i = i0 ∧ j = k ∧ i0 < k) := by
    rintro i j ⟨a, b, c⟩
    by_cases e : i = i0 ∧ j = k
    · exact Or.inr ⟨e.1, e.2, by omega⟩
    · exact Or.inl ⟨a, b, by omega⟩
  have up : ∀ i j, seen l i0 k i j → seen l i0 (k + 1) i j := by
    rintro i j ⟨a, b, c⟩
    exact ⟨a, b, by omega⟩
  unfold pst
  by_cases hc : k > i0 ∧ (s = none ∨ D l i0 k < Dp l s)
  · rw [if_pos hc]
    refine ⟨(fun h => by cases h), ?_⟩
    intro a b hab
    simp only [Option.some.injEq, Prod.mk.injEq] at hab
    obtain ⟨rfl, rfl⟩ := hab
    have low : ∀ i j, seen l i0 k i j → D l i0 k < D l i j := by
      intro i j hs
      rcases hc.2 with e | e
      · exact absurd hs (h1 e i j)
      · cases s with
        | none => exact absurd hs (h1 rfl i j)
        | some ab =>
          obtain ⟨a, b⟩ := ab
          have := (h2 a b rfl).2.1 i j hs
          simp only [Dp] at e
          omega
    refine ⟨⟨by omega, hk, by omega⟩, fun i j hs => ?_, fun i j hs hl => ?_⟩
    · rcases split i j hs with e | ⟨rfl, rfl, _⟩
      · have := low i j e; omega
      · omega
    · rcases split i j hs with e | ⟨rfl, rfl, _⟩
      · exact low i j e
      · omega
  · rw [if_neg hc]
    refine ⟨fun h i j hs => ?_, fun a b hab => ?_⟩
    · rcases split i j hs with e | ⟨rfl, rfl, e⟩
      · exact h1 h i j e
      · exact hc ⟨e, Or.inl h⟩
    · obtain ⟨g1, g2, g3⟩ := h2 a b hab
      refine ⟨up a b g1, fun i j hs => ?_, fun i j hs hl => ?_⟩
      · rcases split i j hs with e | ⟨rfl, rfl, e⟩
        · exact g2 i j e
        · by_cases e2 : D l i j < D l a b
          · exact absurd ⟨e, Or.inr (by rw [hab]; exact e2)⟩ hc
          · omega
      · rcases split i j hs with e | ⟨rfl, rfl, e⟩
        · exact g3 i j e hl
        · obtain ⟨_, _, g⟩ := g1
          omega
theorem good_row (i0 : Nat) (s : Option (Nat × Nat)) (h : Good l s i0 0) (k : Nat) (hk : k ≤ l.length) : Good l (prow l s i0 k) i0 k := by
  induction k with
  | zero => exact h
  | succ k ih => exact good_step l i0 _ k (by omega) (ih (by omega))
theorem good_all (m : Nat) : Good l (pall l m) m 0 := by
  induction m with
  | zero => exact ⟨fun _ i k h => by obtain ⟨_, _, h⟩ := h; omega, fun a b h => by cases h⟩
  | succ m ih =>
    have g := good_row l m _ ih l.length (Nat.le_refl _)
    have e : ∀ i k, seen l (m + 1) 0 i k ↔ seen l m l.length i k := by
      intro i k
      constructor
      · rintro ⟨a, b, c⟩; exact ⟨a, b, by omega⟩
      · rintro ⟨a, b, c⟩; exact ⟨a, b, by omega⟩
    obtain ⟨g1, g2⟩ := g
    refine ⟨fun h i k hs => g1 h i k ((e i k).1 hs), fun a b hab => ?_⟩
    obtain ⟨q1, q2, q3⟩ := g2 a b hab
    exact ⟨(e a b).2 q1, fun i k hs => q2 i k ((e i k).1 hs), fun i k hs => q3 i k ((e i k).1 hs)⟩
theorem pall_eq : pall l l.length = if crow l l.length < 0 then none else some ((crow l l.length).toNat, (nr l (crow l l.length).toNat).toNat) := by
  have g := good_all l l.length
  generalize pall l l.length = s at g
  obtain ⟨g1, g2⟩ := g
  by_cases hc : crow l l.length < 0
  · rw [if_pos hc]
    have := none_small l hc
    cases s with
    | none => rfl
    | some ab =>
      obtain ⟨a, b⟩ := ab
      obtain ⟨⟨h1, h2, _⟩, _⟩ := g2 a b rfl
      omega
  · rw [if_neg hc]
    obtain ⟨c1, c2, c3, c4⟩ := (crow_spec l l.length).2.2 (by omega)
    have hmin := min_all l (by omega)
    obtain ⟨c, hce⟩ : ∃ c : Nat, (c : Int) = crow l l.length := ⟨(crow l l.length).toNat, by omega⟩
    rw [← hce] at c1 c2 c3 c4 hmin ⊢
    simp only [Int.toNat_natCast] at c2 c3 c4 hmin ⊢
    have hlt := nr_lt l c (by omega)
    obtain ⟨e, hee⟩ : ∃ e : Nat, (e : Int) = nr l c := ⟨(nr l c).toNat, by omega⟩
    rw [← hee] at c2 c3 c4 hmin hlt ⊢
    simp only [Int.toNat_natCast] at c3 c4 hmin ⊢
    have hce' : seen l l.length 0 c e := ⟨by omega, by omega, by omega⟩
    cases s with
    | none => exact absurd hce' (g1 rfl c e)
    | some ab =>
      obtain ⟨a, b⟩ := ab
      obtain ⟨⟨h1, h2, _⟩, h3, h4⟩ := g2 a b rfl
      have k1 := h3 c e hce'
      obtain ⟨k2, k3⟩ := hmin a (by omega)
      obtain ⟨k4, k5, k6⟩ := nr_other l a b (by omega) (by omega)
      have hal := nr_lt l a k2
      obtain ⟨f, hfe⟩ : ∃ f : Nat, (f : Int) = nr l a := ⟨(nr l a).toNat, by omega⟩
      rw [← hfe] at k3 k5 k6 hal
      rw [Int.toNat_natCast] at k3 k5 k6
      have k7 : ¬ f < a := by
        intro hf
        have := h4 f a ⟨hf, by omega, by omega⟩ (Or.inl hf)
        rw [D_comm l f a] at this
        omega
      have k8 : ¬ a < c := by
        intro ha
        have := c4 a (by omega) (by omega)
        rw [← hfe, Int.toNat_natCast] at this
        omega
      have k9 : ¬ (c < a ∨ c = a ∧ e < b) := fun hh => by
        have := h4 c e hce' hh
        omega
      have hca : c = a := by omega
      subst hca
      have hef : e = f := by omega
      subst hef
      have k10 : ¬ b < e := by
        intro hb
        have := ((nrow_spec l c l.length).2.2 k2).2.2.2 b (by rw [show nrow l c l.length = nr l c from rfl, ← hfe]; omega) (by omega)
        rw [show nrow l c l.length = nr l c from rfl, ← hfe, Int.toNat_natCast] at this
        omega
      congr 2
      omega
variable (hl : ∀ p ∈ l, ok p)
include hl
omit hl in
theorem refgap_eq (a b : Int) (h0 : 0 ≤ a) (h1 : a < 4294967296) (h2 : 0 ≤ b) (h3 : b < 4294967296) :
    ∃ g, croftref03_gap.f a b = some g ∧ 0 ≤ g ∧ g ≤ 4294967295 ∧ g * g = (a - b) * (a - b) := by
  unfold croftref03_gap.f
  by_cases h : a > b
  · refine ⟨a - b, ?_, by omega, by omega, rfl⟩
    rw [if_pos h]
    congr 1
    omega
  · refine ⟨b - a, ?_, by omega, by omega, by grind⟩
    rw [if_neg h]
    congr 1
    omega
theorem refbetween_eq (i k : Nat) : croftref03_Between.f (l.getD i z24).f1 (l.getD i z24).f2 (l.getD k z24).f1 (l.getD k z24).f2 = some (D l i k / 18446744073709551616, D l i k % 18446744073709551616) := by
  obtain ⟨⟨a0, a1⟩, b0, b1⟩ := getD_ok l hl i
  obtain ⟨⟨c0, c1⟩, e0, e1⟩ := getD_ok l hl k
  unfold D dd
  generalize (l.getD i z24).f1 = x0 at *
  generalize (l.getD i z24).f2 = y0 at *
  generalize (l.getD k z24).f1 = x1 at *
  generalize (l.getD k z24).f2 = y1 at *
  obtain ⟨g, hg, g0, g1, g2⟩ := refgap_eq x0 x1 a0 a1 c0 c1
  obtain ⟨g', hg', g0', g1', g2'⟩ := refgap_eq y0 y1 b0 b1 e0 e1
  unfold croftref03_Between.f d2
  simp only [hg, hg', Option.bind_some]
  have b := le_mul g g _ _ g0 g1 g0 g1
  have b' := le_mul g' g' _ _ g0' g1' g0' g1'
  rw [← g2, ← g2']
  generalize g * g = q at *
  generalize g' * g' = r at *
  rw [u64_in q (by omega) (by omega), u64_in r (by omega) (by omega), u64_wrap]
  by_cases h : (q + r) % 18446744073709551616 < q
  · rw [if_pos h, show (q + r) / 18446744073709551616 = 1 from by omega]
  · rw [if_neg h, show (q + r) / 18446744073709551616 = 0 from by omega]
omit hl in
theorem less_eq (E G : Int) : croftref03_Less.f (E / 18446744073709551616) (E % 18446744073709551616) (G / 18446744073709551616) (G % 18446744073709551616) = some (decide (E < G)) := by
  unfold croftref03_Less.f
  by_cases h : E / 18446744073709551616 < G / 18446744073709551616
  · have : E < G := by omega
    simp [h, this]
  · by_cases h' : E / 18446744073709551616 = G / 18446744073709551616
    · have : (E % 18446744073709551616 < G % 18446744073709551616) ↔ E < G := by omega
      simp [h', this]
    · have : ¬ E < G := by omega
      simp [h, h', this]
abbrev L1 (F : Nat) (out : List Int) (s : Option (Nat × Nat)) (i : Nat) (b : Int) (k : Int) : Option Bool :=
  croftlaw36_PairsTells.l1 F l out (Dp l s / 18446744073709551616) (Dp l s % 18446744073709551616) s.isSome i b (Db l i b / 18446744073709551616) (Db l i b % 18446744073709551616) k
    (PA l s).f0 (PA l s).f1 (PA l s).f2 (PA l s).f3 (PB l s).f0 (PB l s).f1 (PB l s).f2 (PB l s).f3
abbrev L0 (F : Nat) (out : List Int) (s : Option (Nat × Nat)) (i : Int) : Option Bool :=
  croftlaw36_PairsTells.l0 F l out (Dp l s / 18446744073709551616) (Dp l s % 18446744073709551616) s.isSome i (PA l s).f0 (PA l s).f1 (PA l s).f2 (PA l s).f3 (PB l s).f0 (PB l s).f1 (PB l s).f2 (PB l s).f3
omit hl in
theorem step_j5 (hn : l.length ≤ 25) (F : Nat) (out : List Int) (s : Option (Nat × Nat)) (i : Nat) (b : Int) (k : Nat) (hi : i < l.length) (hk : k < l.length) (t : Bool) (ht : t = decide (k > i ∧ (s = none ∨ D l i k < Dp l s))) :
    croftlaw36_PairsTells.j5 (F + 1) l out (Dp l s / 18446744073709551616) (Dp l s % 18446744073709551616) s.isSome i b (Db l i b / 18446744073709551616) (Db l i b % 18446744073709551616) k (D l i k / 18446744073709551616) (D l i k % 18446744073709551616) t
      (PA l s).f0 (PA l s).f1 (PA l s).f2 (PA l s).f3 (PB l s).f0 (PB l s).f1 (PB l s).f2 (PB l s).f3 = L1 l F out (pst l i s k) i b ((k : Int) + 1) := by
  have hrd : ∀ j : Nat, rd_T24 l (j : Int) = l.getD j z24 := fun _ => rfl
  simp only [croftlaw36_PairsTells.j5]
  rw [w64_in ((k : Int) + 1) (by omega) (by omega), hrd, hrd]
  unfold pst
  by_cases h : k > i ∧ (s = none ∨ D l i k < Dp l s)
  · rw [ht, if_pos (decide_eq_true h), if_pos (by omega), if_pos (by omega), if_pos (by omega), if_pos (by omega), if_pos h]
    rfl
  · rw [ht, if_neg (by simpa using h), if_neg h]
omit hl in
theorem step_j4 (hn : l.length ≤ 25) (F : Nat) (out : List Int) (s : Option (Nat × Nat)) (i : Nat) (b : Int) (k : Nat) (hi : i < l.length) (hk : k < l.length) :
    croftlaw36_PairsTells.j4 (F + 1 + 1) l out (Dp l s / 18446744073709551616) (Dp l s % 18446744073709551616) s.isSome i b (Db l i b / 18446744073709551616) (Db l i b % 18446744073709551616) k (D l i k / 18446744073709551616) (D l i k % 18446744073709551616)
      (PA l s).f0 (PA l s).f1 (PA l s).f2 (PA l s).f3 (PB l s).f0 (PB l s).f1 (PB l s).f2 (PB l s).f3 = L1 l F out (pst l i s k) i b ((k : Int) + 1) := by
  obtain ⟨G, hG⟩ : ∃ G, F + 1 = G := ⟨_, rfl⟩
  have J := fun t ht => step_j5 l hn F out s i b k hi hk t ht
  rw [hG] at J ⊢
  simp only [croftlaw36_PairsTells.j4]
  by_cases h1 : k > i
  · rw [if_pos (by omega)]
    cases hs : s with
    | none =>
      rw [hs] at J
      rw [if_neg (by simp)]
      exact J true (by simp [h1])
    | some ab =>
      rw [hs] at J
      rw [if_pos (by rfl), less_eq]
      simp only [Option.bind_some]
      exact J _ (by simp [h1])
  · rw [if_neg (by omega)]
    exact J false (by simp [h1])
theorem step_l1 (hn : l.length ≤ 25) (F : Nat) (out : List Int) (s : Option (Nat × Nat)) (i : Nat) (b : Int) (k : Nat) (hi : i < l.length) (hk : k < l.length) :
    L1 l (F + 4) out s i b k = L1 l F out (pst l i s k) i (nst l i b k) ((k : Int) + 1) := by
  have hrd : ∀ j : Nat, rd_T24 l (j : Int) = l.getD j z24 := fun _ => rfl
  obtain ⟨G, hG⟩ : ∃ G, F + 1 + 1 = G := ⟨_, rfl⟩
  have J4 := fun b => step_j4 l hn F out s i b k hi hk
  rw [hG] at J4
  have J3 : ∀ t : Bool, t = decide (k ≠ i ∧ (b < 0 ∨ D l i k < Db l i b)) → croftlaw36_PairsTells.j3 (G + 1) l out (Dp l s / 18446744073709551616) (Dp l s % 18446744073709551616) s.isSome i b (Db l i b / 18446744073709551616) (Db l i b % 18446744073709551616) k (D l i k / 18446744073709551616) (D l i k % 18446744073709551616) t
      (PA l s).f0 (PA l s).f1 (PA l s).f2 (PA l s).f3 (PB l s).f0 (PB l s).f1 (PB l s).f2 (PB l s).f3 = L1 l F out (pst l i s k) i (nst l i b k) ((k : Int) + 1) := by
    intro t ht
    simp only [croftlaw36_PairsTells.j3]
    have hb : Db l i (k : Int) = D l i k := by unfold Db; rw [if_neg (by omega), Int.toNat_natCast]
    have J := J4 k
    rw [hb] at J
    unfold nst
    by_cases h : k ≠ i ∧ (b < 0 ∨ D l i k < Db l i b)
    · rw [ht, if_pos (decide_eq_true h), J, if_neg h.1]
      by_cases h2 : b < 0
      · rw [if_pos h2]
      · rw [if_neg h2, if_pos]
        rcases h.2 with e | e
        · exact absurd e h2
        · unfold Db at e
          rw [if_neg h2] at e
          exact e
    · rw [ht, if_neg (by simpa using h), J4 b]
      by_cases h1 : k = i
      · rw [if_pos h1]
      · by_cases h2 : b < 0
        · exact absurd ⟨h1, Or.inl h2⟩ h
        · rw [if_neg h1, if_neg h2, if_neg]
          intro e
          refine h ⟨h1, Or.inr ?_⟩
          unfold Db
          rw [if_neg h2]
          exact e
  show croftlaw36_PairsTells.l1 (F + 4) _ _ _ _ _ _ _ _ _ _ _ _ _ _ _ _ _ _ = _
  obtain ⟨G2, hG2⟩ : ∃ G2, G + 1 = G2 := ⟨_, rfl⟩
  rw [show F + 4 = G2 + 1 by omega]
  rw [hG2] at J3
  simp only [croftlaw36_PairsTells.l1]
  rw [if_pos (by omega), if_pos (by omega), if_pos (by omega), if_pos (by omega), hrd, hrd, refbetween_eq l hl i k]
  simp only [Option.bind_some]
  by_cases h1 : k = i
  · rw [if_pos (by omega)]
    exact J3 false (by simp [h1])
  · rw [if_neg (by omega)]
    by_cases h2 : b < 0
    · rw [if_pos h2]
      exact J3 true (by simp [h1, h2])
    · rw [if_neg h2, less_eq]
      simp only [Option.bind_some]
      exact J3 _ (by simp [h1, h2])
theorem tells_inner (hn : l.length ≤ 25) (out : List Int) (ho : out.length ≤ 25) (s : Option (Nat × Nat)) (i : Nat) (hi : i < l.length) (d : Nat) : ∀ (K k : Nat), l.length - k = d → k ≤ l.length →
    L1 l (4 * d + K + 1) out (prow l s i k) i (nrow l i k) k = L0 l K (out ++ [nrow l i l.length]) (prow l s i l.length) ((i : Int) + 1) := by
  induction d with
  | zero =>
    intro K k h1 h2
    obtain rfl : k = l.length := by omega
    show croftlaw36_PairsTells.l1 _ _ _ _ _ _ _ _ _ _ _ _ _ _ _ _ _ _ _ = _
    rw [show 4 * 0 + K + 1 = K + 1 by omega]
    simp only [croftlaw36_PairsTells.l1]
    rw [if_neg (by omega), if_pos (by omega), w64_in ((i : Int) + 1) (by omega) (by omega)]
  | succ d ih =>
    intro K k h1 h2
    have := ih K (k + 1) (by omega) (by omega)
    rw [← this, show 4 * (d + 1) + K + 1 = (4 * d + K + 1) + 4 by omega, step_l1 l hl hn _ out _ i _ k hi (by omega)]
    rfl
omit hl in
theorem ints_loop (t : List Int) (hn : t.length ≤ 1000) (d : Nat) : ∀ (K i : Nat), t.length - i = d → i ≤ t.length → croftplain_Ints.l0 (d + K + 1) t t i = some true := by
  induction d with
  | zero =>
    intro K i h1 h2
    rw [show 0 + K + 1 = K + 1 by omega]
    simp only [croftplain_Ints.l0]
    rw [if_neg (by omega)]
  | succ d ih =>
    intro K i h1 h2
    have := ih K (i + 1) (by omega) (by omega)
    obtain ⟨F, hF⟩ : ∃ F, d + K + 1 = F := ⟨_, rfl⟩
    rw [hF] at this
    rw [← this, show d + 1 + K + 1 = F + 1 by omega]
    simp only [croftplain_Ints.l0]
    rw [if_pos (by omega), if_pos (by omega), if_pos (by omega), if_pos trivial, w64_in ((i : Int) + 1) (by omega) (by omega)]
    rfl
omit hl in
theorem ints_eq (t : List Int) (hn : t.length ≤ 1000) (F : Nat) (hF : t.length + 1 ≤ F) : croftplain_Ints.f F t t = some true := by
  unfold croftplain_Ints.f
  rw [if_pos rfl]
  have := ints_loop t hn t.length (F - t.length - 1) 0 (by omega) (by omega)
  rw [show t.length + (F - t.length - 1) + 1 = F by omega] at this
  exact this
theorem tells_end (hn : l.length ≤ 25) (F : Nat) (hF : 800 ≤ F) : L0 l (F + 1) (nears l l.length) (pall l l.length) l.length = some true := by
  have hk := ok_of hn hF
  show croftlaw36_PairsTells.l0 _ _ _ _ _ _ _ _ _ _ _ _ _ _ _ = _
  simp only [croftlaw36_PairsTells.l0]
  rw [if_neg (by omega), close_eq l hl (by omega) F hk, near_eq l hl (by omega) F (by omega), pall_eq]
  unfold fin
  by_cases hc : crow l l.length < 0
  · rw [if_pos hc, if_pos hc]
    simp only [Option.bind_some]
    rw [ints_eq _ (by rw [nears_length]; omega) F (by rw [nears_length]; omega)]
    simp [PA, PB, z24]
  · rw [if_neg hc, if_neg hc]
    simp only [Option.bind_some]
    rw [ints_eq _ (by rw [nears_length]; omega) F (by rw [nears_length]; omega)]
    simp [PA, PB]
theorem tells_outer (hn : l.length ≤ 25) (M : Nat) (hM : M = 4 * l.length + 2) (d : Nat) : ∀ (K i : Nat), l.length - i = d → i ≤ l.length →
    L0 l (d * M + K + 801) (nears l i) (pall l i) i = some true := by
  induction d with
  | zero =>
    intro K i h1 h2
    obtain rfl : i = l.length := by omega
    obtain ⟨F, hF⟩ : ∃ F, K + 800 = F := ⟨_, rfl⟩
    rw [show 0 * M + K + 801 = F + 1 by omega]
    exact tells_end l hl hn F (by omega)
  | succ d ih =>
    intro K i h1 h2
    have ih := ih K (i + 1) (by omega) (by omega)
    rw [Nat.succ_mul]
    generalize d * M = Z at ih ⊢
    obtain ⟨C, hC⟩ : ∃ C : Nat, C = 801 := ⟨_, rfl⟩
    rw [← hC] at ih ⊢
    have t1 := tells_inner l hl hn (nears l i) (by rw [nears_length]; omega) (pall l i) i (by omega) l.length (Z + K + C) 0 (by omega) (by omega)
    have t2 := t1.trans ih
    obtain ⟨F, hF⟩ : ∃ F, 4 * l.length + (Z + K + C) + 1 = F := ⟨_, rfl⟩
    have e : Z + M + K + C = F + 1 := by omega
    rw [hF] at t2
    rw [e]
    refine Eq.trans ?_ t2
    show croftlaw36_PairsTells.l0 _ _ _ _ _ _ _ _ _ _ _ _ _ _ _ = _
    simp only [croftlaw36_PairsTells.l0]
    rw [if_pos (by omega)]
    rfl
end
end PairsTellsAux
open PairsTellsAux

theorem PairsTells : croftlaw36_PairsTells.Pure := by
  intro l _ _ hl
  have hl : ∀ p ∈ l, ok p := fun p hp => ⟨wf_u32 (hl p hp).2.1, wf_u32 (hl p hp).2.2⟩
  obtain ⟨F, hF⟩ : ∃ F : Nat, F = 4000 := ⟨_, rfl⟩
  refine ⟨F + 1, ?_⟩
  unfold croftlaw36_PairsTells.f
  have ha := alive36 (F - 799)
  rw [show F - 799 + 800 = F + 1 by omega] at ha
  rw [ha]
  simp only [Option.bind_some, if_true]
  have key : ∀ l' : List S24, (∀ p ∈ l', ok p) → l'.length ≤ 25 → croftlaw36_PairsTells.j0 (F + 1) l' = some true := by
    intro l' h1 h2
    have hm := Nat.mul_le_mul h2 (show 4 * l'.length + 2 ≤ 102 by omega)
    simp only [croftlaw36_PairsTells.j0]
    have := tells_outer l' h1 h2 _ rfl l'.length (F - 801 - l'.length * (4 * l'.length + 2)) 0 (by omega) (by omega)
    rw [show l'.length * (4 * l'.length + 2) + (F - 801 - l'.length * (4 * l'.length + 2)) + 801 = F by omega] at this
    exact this
  by_cases h : (l.length : Int) > 25
  · rw [if_pos h, if_pos (by omega)]
    exact key _ (fun p hp => hl p (List.mem_of_mem_take hp)) (by simp; omega)
  · rw [if_neg h]
    exact key l hl (by omega)
end Go.Proofs.Ytgepbfcaimejmaa.Pure
