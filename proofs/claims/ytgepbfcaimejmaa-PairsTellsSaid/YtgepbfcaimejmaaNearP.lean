/-
  What the printed functions of pairs answer, in plain words: who is nearest to whom, and the first pair that is nearest.
  Conditions: coordinates are of Go's uint32.
-/
import Derived.Test.YtgepbfcaimejmaaWideP
import Derived.Test.YtgepbfcaimejmaaPPx5
import Derived.Test.YtgepbfcaimejmaaPPx6
namespace Go.Proofs.Ytgepbfcaimejmaa.NearP
open Go.RowKit Go.Proofs.Ytgepbfcaimejmaa.PP Go.Proofs.YtgepbfcaimejmaaW.PrintWords Go.Proofs.YtgepbfcaimejmaaW.PrintLast Nums MulP WideP

/-- A point's coordinates are of uint32. -/
def ok (p : S24) : Prop := (0 ≤ p.f1 ∧ p.f1 < 4294967296) ∧ 0 ≤ p.f2 ∧ p.f2 < 4294967296
/-- The squared distance of two points. -/
def dd (p q : S24) : Int := d2 p.f1 p.f2 q.f1 q.f2
theorem dd_bound (p q : S24) (hp : ok p) (hq : ok q) : 0 ≤ dd p q ∧ dd p q < 36893488147419103232 :=
  d2_bound _ _ _ _ hp.1.1 hp.1.2 hp.2.1 hp.2.2 hq.1.1 hq.1.2 hq.2.1 hq.2.2
theorem dd_comm (p q : S24) : dd p q = dd q p := by unfold dd d2; grind
theorem z24_ok : ok z24 := by unfold ok z24; simp
theorem getD_ok (l : List S24) (hl : ∀ p ∈ l, ok p) (i : Nat) : ok (l.getD i z24) := by
  by_cases h : i < l.length
  · rw [List.getD_eq_getElem?_getD, List.getElem?_eq_getElem h]
    exact hl _ (List.getElem_mem h)
  · rw [List.getD_eq_getElem?_getD, List.getElem?_eq_none (by omega)]
    exact z24_ok
theorem far_eq (k : Nat) (p q : S24) (hp : ok p) (hq : ok q) : pairs_far.f (k + 3) p.f0 p.f1 p.f2 p.f3 q.f0 q.f1 q.f2 q.f3 = some (dd p q / 18446744073709551616, dd p q % 18446744073709551616) := by
  unfold pairs_far.f
  rw [between_eq k _ _ _ _ hp.1.1 hp.1.2 hp.2.1 hp.2.2 hq.1.1 hq.1.2 hq.2.1 hq.2.2]
  rfl
section
variable (l : List S24)
/-- The distance of places i and k. -/
def D (i k : Nat) : Int := dd (l.getD i z24) (l.getD k z24)
theorem D_comm (i k : Nat) : D l i k = D l k i := dd_comm _ _
def nst (i : Nat) (b : Int) (k : Nat) : Int := if k = i then b else if b < 0 then k else if D l i k < D l i b.toNat then k else b
def nrow (i : Nat) : Nat → Int
  | 0 => -1
  | k + 1 => nst l i (nrow i k) k
def nears : Nat → List Int
  | 0 => []
  | i + 1 => nears i ++ [nrow l i l.length]
theorem nears_length (i : Nat) : (nears l i).length = i := by
  induction i with
  | zero => rfl
  | succ i ih => simp [nears, ih]
theorem nears_at (m i : Nat) (h : i < m) : (nears l m).getD i 0 = nrow l i l.length := by
  induction m with
  | zero => omega
  | succ m ih =>
    simp only [nears]
    rw [List.getD_eq_getElem?_getD, List.getElem?_append]
    by_cases e : i < m
    · rw [if_pos (by rw [nears_length]; exact e), ← List.getD_eq_getElem?_getD]
      exact ih e
    · obtain rfl : i = m := by omega
      rw [if_neg (by rw [nears_length]; omega), nears_length]
      simp
/-- What is known of the nearest one among the first m. -/
theorem nrow_spec (i m : Nat) : (nrow l i m = -1 ∨ 0 ≤ nrow l i m) ∧ (nrow l i m = -1 → ∀ k, k < m → k = i) ∧
    (0 ≤ nrow l i m → nrow l i m < m ∧ (nrow l i m).toNat ≠ i ∧ (∀ k, k < m → k ≠ i → D l i (nrow l i m).toNat ≤ D l i k) ∧ ∀ k : Nat, (k : Int) < nrow l i m → k ≠ i → D l i (nrow l i m).toNat < D l i k) := by
  induction m with
  | zero => exact ⟨Or.inl rfl, fun _ k hk => by omega, fun h => by simp [nrow] at h⟩
  | succ m ih =>
    simp only [nrow]
    obtain ⟨h1, h2, h3⟩ := ih
    unfold nst
    by_cases e : m = i
    · rw [if_pos e]
      refine ⟨h1, fun h k hk => ?_, fun h => ?_⟩
      · by_cases e2 : k = m
        · omega
        · exact h2 h k (by omega)
      · obtain ⟨a, b, c, d⟩ := h3 h
        exact ⟨by omega, b, fun k hk hki => c k (by omega) hki, d⟩
    · rw [if_neg e]
      by_cases hb : nrow l i m < 0
      · rw [if_pos hb]
        have hb' : nrow l i m = -1 := by omega
        refine ⟨Or.inr (by omega), fun h => by omega, fun _ => ⟨by omega, by omega, fun k hk hki => ?_, fun k hk hki => ?_⟩⟩
        · have := h2 hb' k
          by_cases e2 : k = m
          · subst e2; simp
          · exact absurd (this (by omega)) hki
        · exact absurd (h2 hb' k (by omega)) hki
      · rw [if_neg hb]
        obtain ⟨a, b, c, d⟩ := h3 (by omega)
        by_cases hd : D l i m < D l i (nrow l i m).toNat
        · rw [if_pos hd]
          refine ⟨Or.inr (by omega), fun h => by omega, fun _ => ⟨by omega, by omega, fun k hk hki => ?_, fun k hk hki => ?_⟩⟩
          · rw [Int.toNat_natCast]
            by_cases e2 : k = m
            · subst e2; omega
            · have := c k (by omega) hki
              omega
          · rw [Int.toNat_natCast]
            have := c k (by omega) hki
            omega
        · rw [if_neg hd]
          refine ⟨Or.inr (by omega), fun h => by omega, fun _ => ⟨by omega, b, fun k hk hki => ?_, d⟩⟩
          by_cases e2 : k = m
          · subst e2; omega
          · exact c k (by omega) hki
variable (hl : ∀ p ∈ l, ok p)
include hl
theorem near_inner (hn : l.length ≤ 1000) (out : List Int) (ho : out.length ≤ 1000) (i : Nat) (hi : i < l.length) (d : Nat) : ∀ (K k : Nat), l.length - k = d → k ≤ l.length →
    pairs_Nearest.l1 (d + K + 4) l out i (nrow l i k) l l.length i l l.length k (l.getD i z24).f0 (l.getD i z24).f1 (l.getD i z24).f2 (l.getD i z24).f3 = pairs_Nearest.l0 (K + 3) l (out ++ [nrow l i l.length]) l l.length ((i : Int) + 1) := by
  induction d with
  | zero =>
    intro K k h1 h2
    obtain rfl : k = l.length := by omega
    obtain ⟨F, hF⟩ : ∃ F, K + 3 = F := ⟨_, rfl⟩
    rw [show 0 + K + 4 = F + 1 by omega, hF]
    simp only [pairs_Nearest.l1]
    rw [if_neg (by omega), if_pos (by omega), w64_in ((i : Int) + 1) (by omega) (by omega)]
  | succ d ih =>
    intro K k h1 h2
    have hk : k < l.length := by omega
    have hrd : ∀ j : Nat, rd_T24 l (j : Int) = l.getD j z24 := fun _ => rfl
    have ih := ih K (k + 1) (by omega) (by omega)
    obtain ⟨F, hF⟩ : ∃ F, d + K + 4 = F := ⟨_, rfl⟩
    rw [hF] at ih
    rw [← ih, show d + 1 + K + 4 = F + 1 by omega]
    simp only [pairs_Nearest.l1]
    rw [if_pos (by omega), if_pos (by omega), if_pos (by omega), w64_in ((k : Int) + 1) (by omega) (by omega), hrd]
    simp only [nrow]
    unfold nst
    obtain ⟨b1, b2, b3⟩ := nrow_spec l i k
    by_cases e : k = i
    · rw [if_pos (by omega), if_pos e]
      rfl
    · rw [if_neg (by omega), if_neg e]
      by_cases hb : nrow l i k < 0
      · rw [if_pos hb, if_pos hb]
        rfl
      · rw [if_neg hb, if_neg hb]
        obtain ⟨b, hbe⟩ : ∃ b : Nat, (b : Int) = nrow l i k := ⟨(nrow l i k).toNat, by omega⟩
        have := (b3 (by omega)).1
        rw [← hbe] at hb this ⊢
        obtain ⟨G, rfl⟩ : ∃ G, F = G + 3 := ⟨F - 3, by omega⟩
        rw [far_eq _ _ _ (getD_ok l hl _) (getD_ok l hl _)]
        simp only [Option.bind_some]
        rw [if_pos (by omega), if_pos (by omega), hrd, far_eq _ _ _ (getD_ok l hl _) (getD_ok l hl _)]
        simp only [Option.bind_some]
        rw [cmp_digits]
        simp only [Option.bind_some]
        rw [show dd (l.getD i z24) (l.getD k z24) = D l i k from rfl, show dd (l.getD i z24) (l.getD b z24) = D l i b from rfl, Int.toNat_natCast]
        by_cases hd : D l i k < D l i b
        · rw [if_pos hd, if_pos (by omega), if_pos hd]
          rfl
        · rw [if_neg hd, if_neg (by split <;> omega), if_neg hd]
          rfl
theorem near_outer (hn : l.length ≤ 1000) (M : Nat) (hM : M = l.length + 2) (d : Nat) : ∀ (K i : Nat), l.length - i = d → i ≤ l.length →
    pairs_Nearest.l0 (d * M + K + 4) l (nears l i) l l.length i = some (nears l l.length) := by
  induction d with
  | zero =>
    intro K i h1 h2
    obtain rfl : i = l.length := by omega
    obtain ⟨F, hF⟩ : ∃ F, K + 3 = F := ⟨_, rfl⟩
    rw [show 0 * M + K + 4 = F + 1 by omega]
    simp only [pairs_Nearest.l0]
    rw [if_neg (by omega)]
  | succ d ih =>
    intro K i h1 h2
    have hi : i < l.length := by omega
    have hrd : rd_T24 l (i : Int) = l.getD i z24 := rfl
    have ih := ih K (i + 1) (by omega) (by omega)
    rw [Nat.succ_mul]
    generalize d * M = Z at ih ⊢
    have := near_inner l hl hn (nears l i) (by rw [nears_length]; omega) i hi l.length (Z + K + 1) 0 (by omega) (by omega)
    rw [show nrow l i 0 = -1 from rfl, show ((0 : Nat) : Int) = 0 from rfl] at this
    obtain ⟨F, hF⟩ : ∃ F, l.length + (Z + K + 1) + 4 = F := ⟨_, rfl⟩
    rw [hF] at this
    rw [show Z + M + K + 4 = F + 1 by omega]
    simp only [pairs_Nearest.l0]
    rw [if_pos (by omega), if_pos (by omega), if_pos (by omega), hrd, this, ← ih]
    rfl
theorem near_eq (hn : l.length ≤ 1000) (F : Nat) (hF : l.length * (l.length + 2) + 4 ≤ F) : pairs_Nearest.f F l = some (nears l l.length) := by
  unfold pairs_Nearest.f
  have := near_outer l hl hn (l.length + 2) rfl l.length (F - l.length * (l.length + 2) - 4) 0 (by omega) (by omega)
  rw [show l.length * (l.length + 2) + (F - l.length * (l.length + 2) - 4) + 4 = F by omega] at this
  exact this
end
section
variable (l : List S24)
/-- The nearest one of i. -/
def nr (i : Nat) : Int := nrow l i l.length
def cst (b : Int) (k : Nat) : Int := if nr l k > k ∧ (b < 0 ∨ D l k (nr l k).toNat < D l b.toNat (nr l b.toNat).toNat) then k else b
def crow : Nat → Int
  | 0 => -1
  | k + 1 => cst l (crow k) k
theorem crow_spec (m : Nat) : (crow l m = -1 ∨ 0 ≤ crow l m) ∧ (crow l m = -1 → ∀ k : Nat, k < m → ¬ nr l k > k) ∧
    (0 ≤ crow l m → crow l m < m ∧ nr l (crow l m).toNat > crow l m ∧ (∀ k : Nat, k < m → nr l k > k → D l (crow l m).toNat (nr l (crow l m).toNat).toNat ≤ D l k (nr l k).toNat) ∧
      ∀ k : Nat, (k : Int) < crow l m → nr l k > k → D l (crow l m).toNat (nr l (crow l m).toNat).toNat < D l k (nr l k).toNat) := by
  induction m with
  | zero => exact ⟨Or.inl rfl, fun _ k hk => by omega, fun h => by simp [crow] at h⟩
  | succ m ih =>
    simp only [crow]
    obtain ⟨h1, h2, h3⟩ := ih
    unfold cst
    by_cases e : nr l m > m ∧ (crow l m < 0 ∨ D l m (nr l m).toNat < D l (crow l m).toNat (nr l (crow l m).toNat).toNat)
    · rw [if_pos e]
      refine ⟨Or.inr (by omega), fun h => by omega, fun _ => ⟨by omega, by rw [Int.toNat_natCast]; exact e.1, fun k hk hkn => ?_, fun k hk hkn => ?_⟩⟩
      · rw [Int.toNat_natCast]
        by_cases e2 : k = m
        · subst e2; omega
        · rcases e.2 with e3 | e3
          · exact absurd hkn (h2 (by omega) k (by omega))
          · by_cases e4 : 0 ≤ crow l m
            · have := (h3 e4).2.2.1 k (by omega) hkn
              omega
            · exact absurd hkn (h2 (by omega) k (by omega))
      · rw [Int.toNat_natCast]
        rcases e.2 with e3 | e3
        · exact absurd hkn (h2 (by omega) k (by omega))
        · by_cases e4 : 0 ≤ crow l m
          · have := (h3 e4).2.2.1 k (by omega) hkn
            omega
          · exact absurd hkn (h2 (by omega) k (by omega))
    · rw [if_neg e]
      refine ⟨h1, fun h k hk hkn => ?_, fun h => ?_⟩
      · by_cases e2 : k = m
        · subst e2; exact e ⟨hkn, Or.inl (by omega)⟩
        · exact h2 h k (by omega) hkn
      · obtain ⟨a, b, c, d⟩ := h3 h
        refine ⟨by omega, b, fun k hk hkn => ?_, d⟩
        by_cases e2 : k = m
        · subst e2
          by_cases e3 : D l k (nr l k).toNat < D l (crow l k).toNat (nr l (crow l k).toNat).toNat
          · exact absurd ⟨hkn, Or.inr e3⟩ e
          · omega
        · exact c k (by omega) hkn
variable (hl : ∀ p ∈ l, ok p)
include hl
/-- What Closest answers at its end. -/
def fin (c : Int) : Option (Int × Int × Int × ByteArray × Int × Int × Int × ByteArray × Bool) :=
  if c < 0 then some (0, 0, 0, (⟨#[]⟩ : ByteArray), 0, 0, 0, (⟨#[]⟩ : ByteArray), false)
  else some ((l.getD c.toNat z24).f0, (l.getD c.toNat z24).f1, (l.getD c.toNat z24).f2, (l.getD c.toNat z24).f3, (l.getD (nr l c.toNat).toNat z24).f0, (l.getD (nr l c.toNat).toNat z24).f1, (l.getD (nr l c.toNat).toNat z24).f2, (l.getD (nr l c.toNat).toNat z24).f3, true)
omit hl in
theorem nr_lt (i : Nat) (h : 0 ≤ nr l i) : nr l i < l.length := ((nrow_spec l i l.length).2.2 h).1
theorem close_loop (hn : l.length ≤ 1000) (d : Nat) : ∀ (K k : Nat), l.length - k = d → k ≤ l.length →
    pairs_Closest.l0 (2 * d + K + 5) l (crow l k) (nears l l.length) l l.length k = fin l (crow l l.length) := by
  have hrd : ∀ j : Nat, rd_T24 l (j : Int) = l.getD j z24 := fun _ => rfl
  have hrn : ∀ j : Nat, j < l.length → rd (nears l l.length) (j : Int) = nr l j := fun j hj => by
    show (nears l l.length).getD (j : Int).toNat 0 = _
    rw [Int.toNat_natCast, nears_at l l.length j hj]
    rfl
  have hlen := nears_length l l.length
  induction d with
  | zero =>
    intro K k h1 h2
    obtain rfl : k = l.length := by omega
    obtain ⟨F, hF⟩ : ∃ F, K + 4 = F := ⟨_, rfl⟩
    rw [show 2 * 0 + K + 5 = F + 1 by omega]
    simp only [pairs_Closest.l0]
    rw [if_neg (by omega)]
    unfold fin
    by_cases hc : crow l l.length < 0
    · rw [if_pos hc, if_pos hc]
    · rw [if_neg hc, if_neg hc]
      obtain ⟨a, b, _, _⟩ := (crow_spec l l.length).2.2 (by omega)
      obtain ⟨c, hce⟩ : ∃ c : Nat, (c : Int) = crow l l.length := ⟨(crow l l.length).toNat, by omega⟩
      rw [← hce, Int.toNat_natCast] at b
      rw [← hce] at a ⊢
      have hlt := nr_lt l c (by omega)
      obtain ⟨e, hee⟩ : ∃ e : Nat, (e : Int) = nr l c := ⟨(nr l c).toNat, by omega⟩
      rw [if_pos (by omega), if_pos (by omega), if_pos (by omega), hrn c (by omega), if_pos (by omega), if_pos (by omega), hrd c, ← hee, hrd e, Int.toNat_natCast, ← hee, Int.toNat_natCast]
  | succ d ih =>
    intro K k h1 h2
    have hk : k < l.length := by omega
    have step : ∀ t : Bool, pairs_Closest.j1 (2 * d + K + 6) l (crow l k) (nears l l.length) k l l.length k t = pairs_Closest.l0 (2 * d + K + 5) l (if t = true then (k : Int) else crow l k) (nears l l.length) l l.length ((k : Int) + 1) := by
      intro t
      obtain ⟨F, hF⟩ : ∃ F, 2 * d + K + 5 = F := ⟨_, rfl⟩
      rw [show 2 * d + K + 6 = F + 1 by omega, hF]
      simp only [pairs_Closest.j1]
      rw [w64_in ((k : Int) + 1) (by omega) (by omega)]
      cases t <;> simp
    have fin' : pairs_Closest.l0 (2 * d + K + 5) l (cst l (crow l k) k) (nears l l.length) l l.length ((k : Int) + 1) = fin l (crow l l.length) := ih K (k + 1) (by omega) (by omega)
    obtain ⟨F, hF⟩ : ∃ F, 2 * d + K + 6 = F := ⟨_, rfl⟩
    obtain ⟨F2, hF2⟩ : ∃ F2, 2 * d + K + 5 = F2 := ⟨_, rfl⟩
    rw [hF, hF2] at step
    rw [hF2] at fin'
    rw [← fin', show 2 * (d + 1) + K + 5 = F + 1 by omega]
    simp only [pairs_Closest.l0]
    rw [if_pos (by omega), if_pos (by omega), if_pos (by omega), if_pos (by rw [hlen]; omega), hrn k hk, hrd k]
    unfold cst
    by_cases hgt : nr l k > k
    · rw [if_pos hgt]
      have hlt := nr_lt l k (by omega)
      by_cases hb : crow l k < 0
      · rw [if_pos hb, step true, if_pos rfl, if_pos ⟨hgt, Or.inl hb⟩]
      · rw [if_neg hb]
        obtain ⟨a, b, _, _⟩ := (crow_spec l k).2.2 (by omega)
        obtain ⟨c, hce⟩ : ∃ c : Nat, (c : Int) = crow l k := ⟨(crow l k).toNat, by omega⟩
        rw [← hce, Int.toNat_natCast] at b
        rw [← hce] at a step hb ⊢
        have hlt2 := nr_lt l c (by omega)
        obtain ⟨e, hee⟩ : ∃ e : Nat, (e : Int) = nr l c := ⟨(nr l c).toNat, by omega⟩
        obtain ⟨g, hge⟩ : ∃ g : Nat, (g : Int) = nr l k := ⟨(nr l k).toNat, by omega⟩
        rw [if_pos (by omega), if_pos (by omega), ← hge, hrd g]
        obtain ⟨G, rfl⟩ : ∃ G, F = G + 3 := ⟨F - 3, by omega⟩
        rw [far_eq _ _ _ (getD_ok l hl _) (getD_ok l hl _)]
        simp only [Option.bind_some]
        rw [if_pos (by omega), if_pos (by omega), if_pos (by rw [hlen]; omega), hrn c (by omega), ← hee, if_pos (by omega), if_pos (by omega), hrd c, hrd e, far_eq _ _ _ (getD_ok l hl _) (getD_ok l hl _)]
        simp only [Option.bind_some]
        rw [cmp_digits]
        simp only [Option.bind_some]
        rw [step]
        rw [show dd (l.getD k z24) (l.getD g z24) = D l k g from rfl, show dd (l.getD c z24) (l.getD e z24) = D l c e from rfl]
        rw [Int.toNat_natCast, Int.toNat_natCast, ← hee, Int.toNat_natCast]
        by_cases hd : D l k g < D l c e
        · rw [if_pos hd, if_pos (by decide), if_pos ⟨by omega, Or.inr hd⟩]
        · rw [if_neg hd, if_neg (by split <;> simp), if_neg (fun hh => hh.2.elim (fun h => by omega) hd)]
    · rw [if_neg hgt, step false, if_neg (by decide), if_neg (fun hh => hgt hh.1)]
theorem close_eq (hn : l.length ≤ 1000) (F : Nat) (hF : l.length * (l.length + 2) + 2 * l.length + 9 ≤ F) : pairs_Closest.f F l = fin l (crow l l.length) := by
  unfold pairs_Closest.f
  rw [near_eq l hl hn F (by omega)]
  simp only [Option.bind_some]
  have := close_loop l hl hn l.length (F - 2 * l.length - 5) 0 (by omega) (by omega)
  rw [show 2 * l.length + (F - 2 * l.length - 5) + 5 = F by omega] at this
  exact this
end
end Go.Proofs.Ytgepbfcaimejmaa.NearP
