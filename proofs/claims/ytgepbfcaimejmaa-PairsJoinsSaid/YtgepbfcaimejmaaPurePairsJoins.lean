/-
  The plain half of the law PairsJoins: what its code computes is true, at all lists of points and all distances.
  Conditions: none but the kinds' own bounds.
-/
import Derived.Test.YtgepbfcaimejmaaNear2P
import Derived.Test.YtgepbfcaimejmaaGroupP
import Derived.Test.YtgepbfcaimejmaaPPx8
namespace Go.Proofs.Ytgepbfcaimejmaa.Pure
open Go.RowKit Go.Proofs.Ytgepbfcaimejmaa.PP Go.Proofs.Ytgepbfcaimejmaa.PP.Join Go.Proofs.YtgepbfcaimejmaaW.PrintWords Go.Proofs.YtgepbfcaimejmaaW.PrintLast Nums MulP WideP NearP RootP

namespace PairsJoinsAux
/-! ### the joiner's groups as lists -/
section
variable (P : Nat → Bool) (ρ : Nat → Nat)
def rts (i : Nat) : List Nat := (List.range i).filter P
def mem (i r : Nat) : List Int := ((List.range i).filter (fun k => ρ k == r)).map (fun k : Nat => (k : Int))
theorem rts_succ (i : Nat) : rts P (i + 1) = if P i = true then rts P i ++ [i] else rts P i := by
  unfold rts
  rw [List.range_succ, List.filter_append]
  by_cases h : P i = true <;> simp [h]
theorem mem_succ (i r : Nat) : mem ρ (i + 1) r = if ρ i = r then mem ρ i r ++ [(i : Int)] else mem ρ i r := by
  unfold mem
  rw [List.range_succ, List.filter_append]
  by_cases h : ρ i = r <;> simp [h]
theorem rts_split (r : Nat) (hr : P r = true) (d : Nat) : ∃ B, rts P (r + 1 + d) = rts P r ++ r :: B ∧ ∀ x ∈ B, r < x := by
  induction d with
  | zero => exact ⟨[], by rw [show r + 1 + 0 = r + 1 by omega, rts_succ, if_pos hr], by simp⟩
  | succ d ih =>
    obtain ⟨B, h1, h2⟩ := ih
    rw [show r + 1 + (d + 1) = (r + 1 + d) + 1 by omega, rts_succ]
    by_cases h : P (r + 1 + d) = true
    · rw [if_pos h, h1]
      refine ⟨B ++ [r + 1 + d], by simp, fun x hx => ?_⟩
      rcases List.mem_append.1 hx with hx | hx
      · exact h2 x hx
      · rw [List.mem_singleton.1 hx]; omega
    · rw [if_neg h]
      exact ⟨B, h1, h2⟩
theorem rts_lt (i x : Nat) (h : x ∈ rts P i) : x < i := by
  unfold rts at h
  simpa using (List.mem_filter.1 h).1
end
section
variable (hi lo : Int) (l : List S24)
/-- What the third loop of Joined has, told by the first ones. -/
theorem gJ_groups (ρ : Nat → Nat) (hρ : ∀ j, j < l.length → Rt (allJ hi lo l l.length) j (ρ j) ∧ ρ j ≤ j) (i : Nat) (hil : i ≤ l.length) :
    (∀ j, j < l.length → Rt (gJ hi lo l i).1 j (ρ j)) ∧ (∀ r, r < i → ρ r = r → (gJ hi lo l i).2.1.getD r 0 = (rts (fun k => ρ k == k) r).length) ∧
      (gJ hi lo l i).2.2 = (rts (fun k => ρ k == k) i).map (mem ρ i) := by
  have hidem : ∀ j, j < l.length → ρ (ρ j) = ρ j := by
    intro j hj
    obtain ⟨a, b⟩ := hρ j hj
    have := (hρ (ρ j) (by omega)).1
    exact this.det (.here _ a.root)
  induction i with
  | zero => exact ⟨fun j hj => (hρ j hj).1, fun r hr => by omega, rfl⟩
  | succ i ih =>
    obtain ⟨h1, h2, h3⟩ := ih (by omega)
    obtain ⟨v1, v2, v3, v4, v5⟩ := gJ_inv hi lo l i (by omega)
    simp only [gJ]
    obtain ⟨s, hs⟩ : ∃ s, gJ hi lo l i = s := ⟨_, rfl⟩
    rw [hs] at h1 h2 h3 v1 v2 v3 v4 v5 ⊢
    obtain ⟨u, a, o⟩ := s
    simp only at h1 h2 h3 v1 v2 v3 v4 v5 ⊢
    obtain ⟨t1, t2⟩ := top_root (i + 1) u i v1 (by omega) (by omega)
    have hT : (top (i + 1) u i).2 = ρ i := t1.det (h1 i (by omega))
    rw [hT]
    have hle := (hρ i (by omega)).2
    refine ⟨fun j hj => t2 j (ρ j) (by omega) (h1 j hj), fun r hr hrr => ?_, ?_⟩
    · rw [getD_app, v3]
      by_cases e : r < i
      · rw [if_pos e]; exact h2 r e hrr
      · obtain rfl : r = i := by omega
        rw [if_neg e, if_pos rfl, if_pos hrr, h3, List.length_map]
    · by_cases e : ρ i = i
      · rw [e]
        simp only [eq_self, if_true]
        rw [getD_app, v3, if_neg (by omega), if_pos rfl]
        have hz : (o ++ [[]]).getD o.length [] = [] := by
          rw [getD_nil, List.getD_eq_getElem?_getD, List.getElem?_eq_none (l := o) (Nat.le_refl _)]
          rfl
        rw [hz]
        rw [List.set_append_right _ _ (Nat.le_refl _), Nat.sub_self]
        simp only [List.set_cons_zero, List.nil_append]
        rw [rts_succ, if_pos (by simp [e]), List.map_append, h3]
        congr 1
        · refine List.map_congr_left fun r hr => ?_
          rw [mem_succ, if_neg (by have := rts_lt _ i r hr; omega)]
        · have : mem ρ i i = [] := by
            unfold mem
            have : (List.range i).filter (fun k => ρ k == i) = [] := by
              rw [List.filter_eq_nil_iff]
              intro k hk
              have hk' : k < i := by simpa using hk
              have := (hρ k (by omega)).2
              simp
              omega
            rw [this]
            rfl
          simp [mem_succ, e, this]
      · have hr2 := hidem i (by omega)
        have hlt : ρ i < i := by omega
        have hpos : (a ++ [if ρ i = i then o.length else 0]).getD (ρ i) 0 = (rts (fun k => ρ k == k) (ρ i)).length := by
          rw [getD_app, if_pos (by omega)]
          exact h2 _ hlt hr2
        rw [hpos, if_neg e]
        obtain ⟨B, b1, b2⟩ := rts_split (fun k => ρ k == k) (ρ i) (by simp [hr2]) (i - ρ i - 1)
        rw [show ρ i + 1 + (i - ρ i - 1) = i by omega] at b1
        rw [rts_succ, if_neg (by simp [e]), h3, b1]
        simp only [List.map_append, List.map_cons]
        have hL : ((rts (fun k => ρ k == k) (ρ i)).map (mem ρ i)).length = (rts (fun k => ρ k == k) (ρ i)).length := List.length_map _
        rw [List.set_append_right _ _ (by rw [hL]; exact Nat.le_refl _), hL, Nat.sub_self]
        simp only [List.set_cons_zero]
        rw [show (((rts (fun k => ρ k == k) (ρ i)).map (mem ρ i)) ++ mem ρ i (ρ i) :: B.map (mem ρ i)).getD (rts (fun k => ρ k == k) (ρ i)).length [] = mem ρ i (ρ i) by
          rw [List.getD_eq_getElem?_getD, List.getElem?_append_right (by rw [hL]; exact Nat.le_refl _), hL, Nat.sub_self]; rfl]
        congr 1
        · refine List.map_congr_left fun r hr => ?_
          rw [mem_succ, if_neg (by have := rts_lt _ _ r hr; omega)]
        · congr 1
          · rw [mem_succ, if_pos rfl]
          · refine List.map_congr_left fun r hr => ?_
            rw [mem_succ, if_neg (by have := b2 r hr; omega)]
end
/-! ### the law's own groups -/
section
variable (N : Nat → Nat → Bool) (n : Nat)
def st3 (i : Nat) (g : List Int) (k : Nat) : List Int := if N i k = true then g.set i (mn (g.getD i 0) (g.getD k 0)) else g
def row3 (i : Nat) (g : List Int) : Nat → List Int
  | 0 => g
  | k + 1 => st3 N i (row3 i g k) k
def swp (g : List Int) : Nat → List Int
  | 0 => g
  | i + 1 => row3 N i (swp g i) n
def sws : Nat → List Int
  | 0 => upTo n
  | t + 1 => swp N n (sws t) n
/-- What holds of the law's list: each place's number is that of one it is joined to. -/
def Fine (g : List Int) : Prop := g.length = n ∧ ∀ i, i < n → ∃ j : Nat, j < n ∧ g.getD i 0 = j ∧ Conn N n i j
theorem mn_nat (a b : Nat) : mn (a : Int) (b : Int) = ((min a b : Nat) : Int) := by unfold mn; split <;> omega
theorem getD_set_i (g : List Int) (i : Nat) (x : Int) (j : Nat) (hi : i < g.length) : (g.set i x).getD j 0 = if j = i then x else g.getD j 0 := by
  rw [List.getD_eq_getElem?_getD, List.getD_eq_getElem?_getD, List.getElem?_set]
  by_cases e : i = j
  · rw [if_pos e, if_pos e.symm, if_pos hi]; rfl
  · rw [if_neg e, if_neg (Ne.symm e)]
theorem st3_fine (g : List Int) (h : Fine N n g) (i k : Nat) (hi : i < n) (hk : k < n) : Fine N n (st3 N i g k) ∧ (∀ j, j < n → (st3 N i g k).getD j 0 ≤ g.getD j 0) ∧ (N i k = true → (st3 N i g k).getD i 0 ≤ g.getD k 0) := by
  obtain ⟨h1, h2⟩ := h
  unfold st3
  by_cases hn : N i k = true
  · rw [if_pos hn]
    obtain ⟨a, ha, ea, ca⟩ := h2 i hi
    obtain ⟨b, hb, eb, cb⟩ := h2 k hk
    rw [ea, eb, mn_nat]
    have at_ := fun j => getD_set_i g i ((min a b : Nat) : Int) j (by omega)
    refine ⟨⟨by simp [h1], fun j hj => ?_⟩, fun j hj => ?_, fun _ => ?_⟩
    · rw [at_]
      by_cases e : j = i
      · subst e
        rw [if_pos rfl]
        rcases Nat.le_total a b with h | h
        · rw [Nat.min_eq_left h]; exact ⟨a, ha, rfl, ca⟩
        · rw [Nat.min_eq_right h]; exact ⟨b, hb, rfl, .step j k b hk hn cb⟩
      · rw [if_neg e]; exact h2 j hj
    · rw [at_]
      by_cases e : j = i
      · subst e; rw [if_pos rfl, ea]; omega
      · rw [if_neg e]; exact Int.le_refl _
    · rw [at_, if_pos rfl]; omega
  · rw [if_neg hn]
    exact ⟨⟨h1, h2⟩, fun j _ => Int.le_refl _, fun h => absurd h hn⟩
theorem row3_fine (i : Nat) (hi : i < n) (g : List Int) (h : Fine N n g) (m : Nat) (hm : m ≤ n) : Fine N n (row3 N i g m) ∧ (∀ j, j < n → (row3 N i g m).getD j 0 ≤ g.getD j 0) ∧ ∀ k, k < m → N i k = true → (row3 N i g m).getD i 0 ≤ g.getD k 0 := by
  induction m with
  | zero => exact ⟨h, fun j _ => Int.le_refl _, fun k hk => by omega⟩
  | succ m ih =>
    obtain ⟨a, b, c⟩ := ih (by omega)
    obtain ⟨d, e, f⟩ := st3_fine N n _ a i m hi (by omega)
    refine ⟨d, fun j hj => Int.le_trans (e j hj) (b j hj), fun k hk hn => ?_⟩
    by_cases h : k = m
    · subst h; exact Int.le_trans (f hn) (b k (by omega))
    · exact Int.le_trans (e i hi) (c k (by omega) hn)
theorem swp_fine (g : List Int) (h : Fine N n g) (m : Nat) (hm : m ≤ n) : Fine N n (swp N n g m) ∧ (∀ j, j < n → (swp N n g m).getD j 0 ≤ g.getD j 0) ∧ ∀ i k, i < m → k < n → N i k = true → (swp N n g m).getD i 0 ≤ g.getD k 0 := by
  induction m with
  | zero => exact ⟨h, fun j _ => Int.le_refl _, fun i k hi => by omega⟩
  | succ m ih =>
    obtain ⟨a, b, c⟩ := ih (by omega)
    obtain ⟨d, e, f⟩ := row3_fine N n m (by omega) _ a n (Nat.le_refl _)
    refine ⟨d, fun j hj => Int.le_trans (e j hj) (b j hj), fun i k hi hk hn => ?_⟩
    by_cases h : i = m
    · subst h; exact Int.le_trans (f k hk hn) (b k hk)
    · exact Int.le_trans (e i (by omega)) (c i k (by omega) hk hn)
/-- Which places come to j in t steps. -/
def rch (j : Nat) : Nat → Nat → Bool
  | 0, i => i == j
  | t + 1, i => (List.range n).any (fun k => N i k && rch j t k)
theorem sws_fine (t : Nat) : Fine N n (sws N n t) ∧ ∀ i j, i < n → rch N n j t i = true → (sws N n t).getD i 0 ≤ j := by
  induction t with
  | zero =>
    have at_ : ∀ i, i < n → (upTo n).getD i 0 = (i : Int) := by intro i hi; simp [upTo, hi]
    exact ⟨⟨upTo_length n, fun i hi => ⟨i, hi, at_ i hi, .refl i⟩⟩, fun i j hi h => by
      simp only [rch, beq_iff_eq] at h
      subst h
      rw [show sws N n 0 = upTo n from rfl, at_ i hi]
      exact Int.le_refl _⟩
  | succ t ih =>
    obtain ⟨a, b⟩ := ih
    obtain ⟨c, _, e⟩ := swp_fine N n _ a n (Nat.le_refl _)
    refine ⟨c, fun i j hi h => ?_⟩
    simp only [rch, List.any_eq_true, List.mem_range, Bool.and_eq_true] at h
    obtain ⟨k, hk, hn, hr⟩ := h
    exact Int.le_trans (e i k hi hk hn) (b k j hk hr)
variable (hrefl : ∀ i, N i i = true)
def cnt (p : Nat → Bool) : Nat := ((List.range n).filter p).length
theorem cnt_le (p : Nat → Bool) : cnt n p ≤ n := by
  unfold cnt
  have := List.length_filter_le p (List.range n)
  rw [List.length_range] at this
  exact this
theorem cnt_lt (p q : Nat → Bool) (h : ∀ i, i < n → p i = true → q i = true) (m : Nat) (hm : m < n) (h1 : q m = true) (h2 : p m = false) : cnt n p < cnt n q := by
  unfold cnt
  induction n with
  | zero => omega
  | succ n ih =>
    rw [List.range_succ, List.filter_append, List.filter_append, List.length_append, List.length_append]
    have le : ((List.range n).filter p).length ≤ ((List.range n).filter q).length := by
      clear ih
      have : ∀ m, m ≤ n → ((List.range m).filter p).length ≤ ((List.range m).filter q).length := by
        intro m
        induction m with
        | zero => intro _; simp
        | succ m ih2 =>
          intro hm2
          rw [List.range_succ, List.filter_append, List.filter_append, List.length_append, List.length_append]
          have := ih2 (by omega)
          have h3 := h m (by omega)
          by_cases e : p m = true
          · simp [e, h3 e]; omega
          · simp [e]; omega
      exact this n (Nat.le_refl _)
    by_cases e : m = n
    · subst e
      simp [h1, h2]
      omega
    · have := ih (fun i hi => h i (by omega)) (by omega)
      have h3 := h n (by omega)
      by_cases e2 : p n = true
      · simp [e2, h3 e2]; omega
      · simp [e2]; omega
include hrefl
theorem rch_mono (j t i : Nat) (hi : i < n) (h : rch N n j t i = true) : rch N n j (t + 1) i = true := by
  simp only [rch, List.any_eq_true, List.mem_range, Bool.and_eq_true]
  exact ⟨i, hi, hrefl i, h⟩
omit hrefl in
theorem rch_stable (j t : Nat) (h : ∀ i, i < n → rch N n j (t + 1) i = true → rch N n j t i = true) (d : Nat) : ∀ i, i < n → rch N n j (t + d) i = true → rch N n j t i = true := by
  induction d with
  | zero => intro i _ h; exact h
  | succ d ih =>
    intro i hi hr
    rw [show t + (d + 1) = (t + d) + 1 by omega] at hr
    simp only [rch, List.any_eq_true, List.mem_range, Bool.and_eq_true] at hr
    obtain ⟨k, hk, hn, hr⟩ := hr
    refine h i hi ?_
    simp only [rch, List.any_eq_true, List.mem_range, Bool.and_eq_true]
    exact ⟨k, hk, hn, ih k hk hr⟩
theorem rch_grows (j : Nat) (hj : j < n) (t : Nat) : (∃ s, s < t ∧ ∀ i, i < n → rch N n j (s + 1) i = true → rch N n j s i = true) ∨ t + 1 ≤ cnt n (rch N n j t) := by
  induction t with
  | zero =>
    refine Or.inr ?_
    have := cnt_lt n (fun _ => false) (rch N n j 0) (fun i _ h => by cases h) j hj (by simp [rch]) rfl
    omega
  | succ t ih =>
    rcases ih with ⟨s, hs, h⟩ | h
    · exact Or.inl ⟨s, by omega, h⟩
    · by_cases e : ∀ i, i < n → rch N n j (t + 1) i = true → rch N n j t i = true
      · exact Or.inl ⟨t, by omega, e⟩
      · refine Or.inr ?_
        have : ∃ i, i < n ∧ rch N n j (t + 1) i = true ∧ rch N n j t i = false := by
          apply Classical.byContradiction
          intro hc
          refine e fun i hi hr => ?_
          by_cases h2 : rch N n j t i = true
          · exact h2
          · exact absurd ⟨i, hi, hr, by simpa using h2⟩ hc
        obtain ⟨i, hi, h1, h2⟩ := this
        have := cnt_lt n (rch N n j t) (rch N n j (t + 1)) (fun i hi => rch_mono N n hrefl j t i hi) i hi h1 h2
        omega
theorem conn_rch (i j : Nat) (hi : i < n) (hj : j < n) (h : Conn N n i j) : rch N n j n i = true := by
  have ex : ∃ d, rch N n j d i = true := by
    clear hi
    induction h with
    | refl i => exact ⟨0, by simp [rch]⟩
    | step i k j hk hn _ ih =>
      obtain ⟨d, hd⟩ := ih hj
      refine ⟨d + 1, ?_⟩
      simp only [rch, List.any_eq_true, List.mem_range, Bool.and_eq_true]
      exact ⟨k, hk, hn, hd⟩
  obtain ⟨d, hd⟩ := ex
  have up : ∀ e t, rch N n j t i = true → rch N n j (t + e) i = true := by
    intro e
    induction e with
    | zero => intro t h; exact h
    | succ e ih => intro t h; exact rch_mono N n hrefl j (t + e) i hi (ih t h)
  rcases rch_grows N n hrefl j hj n with ⟨s, hs, hst⟩ | h2
  · by_cases e : d ≤ n
    · have := up (n - d) d hd
      rw [show d + (n - d) = n by omega] at this
      exact this
    · have := rch_stable N n j s hst (d - s) i hi (by rw [show s + (d - s) = d by omega]; exact hd)
      have := up (n - s) s this
      rw [show s + (n - s) = n by omega] at this
      exact this
  · have := cnt_le n (rch N n j n)
    omega
end
/-! ### the law's loops -/
section
variable (l : List S24) (hi lo Q : Int)
def NB (i k : Nat) : Bool := decide (D l i k ≤ Q)
theorem NB_symm (i k : Nat) : NB l Q i k = NB l Q k i := by unfold NB; rw [D_comm]
theorem row3_length (N : Nat → Nat → Bool) (i : Nat) (g : List Int) (m : Nat) : (row3 N i g m).length = g.length := by
  induction m with
  | zero => rfl
  | succ m ih => simp only [row3, st3]; split <;> simp [ih]
theorem swp_length (N : Nat → Nat → Bool) (n : Nat) (g : List Int) (m : Nat) : (swp N n g m).length = g.length := by
  induction m with
  | zero => rfl
  | succ m ih => simp only [swp]; rw [row3_length, ih]
theorem sws_length (N : Nat → Nat → Bool) (n t : Nat) : (sws N n t).length = n := by
  induction t with
  | zero => exact upTo_length n
  | succ t ih => simp only [sws]; rw [swp_length, ih]
variable (hl : ∀ p ∈ l, ok p) (hn : l.length ≤ 20) (hQ : 0 ≤ Q) (hhi : hi = Q / 18446744073709551616) (hlo : lo = Q % 18446744073709551616)
include hl hhi hlo in
theorem near_eq2 (i k : Nat) : near hi lo (l.getD i z24) (l.getD k z24) = some (NB l Q i k) := by
  unfold near
  rw [show (3 : Nat) = 0 + 3 from rfl, far_eq 0 _ _ (getD_ok l hl i) (getD_ok l hl k)]
  simp only [Option.bind_some]
  rw [hhi, hlo, cmp_digits]
  simp only [Option.bind_some, Option.some.injEq]
  unfold NB D
  generalize dd (l.getD i z24) (l.getD k z24) = E
  by_cases h1 : E < Q
  · rw [if_pos h1, decide_eq_true (show E ≤ Q by omega)]
    rfl
  · rw [if_neg h1]
    by_cases h2 : Q < E
    · rw [if_pos h2, decide_eq_false (show ¬ E ≤ Q by omega)]
      rfl
    · rw [if_neg h2, decide_eq_true (show E ≤ Q by omega)]
      rfl
include hl hn hhi hlo
theorem l3_all (t i : Nat) (hi' : i < l.length) (g : List Int) (hg : g.length = l.length) (h : ∃ k, croftlaw36_PairsJoins.l2 k l (row3 (NB l Q) i g l.length) t ((i : Int) + 1) hi lo = some true) (d : Nat) : ∀ m : Nat, l.length - m = d → m ≤ l.length →
    ∃ k, croftlaw36_PairsJoins.l3 k l (row3 (NB l Q) i g m) t i m hi lo = some true := by
  have hrd : ∀ j : Nat, rd_T24 l (j : Int) = l.getD j z24 := fun _ => rfl
  induction d with
  | zero =>
    intro m h1 h2
    obtain rfl : m = l.length := by omega
    obtain ⟨k, hk⟩ := h
    refine ⟨k + 1, ?_⟩
    simp only [croftlaw36_PairsJoins.l3]
    rw [if_neg (by omega), w64_in ((i : Int) + 1) (by omega) (by omega)]
    exact hk
  | succ d ih =>
    intro m h1 h2
    obtain ⟨k, hk⟩ := ih (m + 1) (by omega) (by omega)
    refine ⟨k + 1, ?_⟩
    rw [← hk]
    have hlen := row3_length (NB l Q) i g m
    simp only [croftlaw36_PairsJoins.l3]
    rw [if_pos (by omega), if_pos (by omega), if_pos (by omega), if_pos (by omega), hrd, hrd, refbetween_eq l hl i m]
    simp only [Option.bind_some]
    have hless := less_eq Q (D l i m)
    rw [← hhi, ← hlo] at hless
    rw [hless]
    simp only [Option.bind_some]
    rw [w64_in ((m : Int) + 1) (by omega) (by omega)]
    have hNB : NB l Q i m = decide (D l i m ≤ Q) := rfl
    simp only [row3]
    generalize row3 (NB l Q) i g m = G at hlen ⊢
    unfold st3
    rw [hNB]
    by_cases hD : Q < D l i m
    · rw [decide_eq_true hD, decide_eq_false (show ¬ D l i m ≤ Q by omega)]
      rfl
    · rw [decide_eq_false hD, decide_eq_true (show D l i m ≤ Q by omega)]
      rw [if_neg (by decide), if_pos (by omega), if_pos (by omega), if_pos rfl]
      rfl
theorem l2_all (t : Nat) (g : List Int) (hg : g.length = l.length) (ht : t < l.length) (h : ∃ k, croftlaw36_PairsJoins.l1 k l (swp (NB l Q) l.length g l.length) ((t : Int) + 1) hi lo = some true) (d : Nat) : ∀ m : Nat, l.length - m = d → m ≤ l.length →
    ∃ k, croftlaw36_PairsJoins.l2 k l (swp (NB l Q) l.length g m) t m hi lo = some true := by
  induction d with
  | zero =>
    intro m h1 h2
    obtain rfl : m = l.length := by omega
    obtain ⟨k, hk⟩ := h
    refine ⟨k + 1, ?_⟩
    simp only [croftlaw36_PairsJoins.l2]
    rw [if_neg (by omega), w64_in ((t : Int) + 1) (by omega) (by omega)]
    exact hk
  | succ d ih =>
    intro m h1 h2
    obtain ⟨k, hk⟩ := l3_all l hi lo Q hl hn hhi hlo t m (by omega) (swp (NB l Q) l.length g m) (by rw [swp_length]; exact hg) (ih (m + 1) (by omega) (by omega)) l.length 0 (by omega) (by omega)
    refine ⟨k + 1, ?_⟩
    simp only [croftlaw36_PairsJoins.l2]
    rw [if_pos (by omega)]
    exact hk
theorem l1_all (h : ∃ k, croftlaw36_PairsJoins.l4 k l (sws (NB l Q) l.length l.length) [] 0 hi lo = some true) (d : Nat) : ∀ t : Nat, l.length - t = d → t ≤ l.length →
    ∃ k, croftlaw36_PairsJoins.l1 k l (sws (NB l Q) l.length t) t hi lo = some true := by
  induction d with
  | zero =>
    intro t h1 h2
    obtain rfl : t = l.length := by omega
    obtain ⟨k, hk⟩ := h
    refine ⟨k + 1, ?_⟩
    simp only [croftlaw36_PairsJoins.l1]
    rw [if_neg (by omega)]
    exact hk
  | succ d ih =>
    intro t h1 h2
    obtain ⟨k, hk⟩ := l2_all l hi lo Q hl hn hhi hlo t (sws (NB l Q) l.length t) (sws_length _ _ _) (by omega) (ih (t + 1) (by omega) (by omega)) l.length 0 (by omega) (by omega)
    refine ⟨k + 1, ?_⟩
    simp only [croftlaw36_PairsJoins.l1]
    rw [if_pos (by omega)]
    exact hk
omit hl hn hhi hlo in
theorem mem_length (ρ : Nat → Nat) (i r : Nat) : (mem ρ i r).length ≤ i := by
  unfold mem
  rw [List.length_map]
  have := List.length_filter_le (fun k => ρ k == r) (List.range i)
  rw [List.length_range] at this
  exact this
omit hl hn hhi hlo in
theorem rts_length (P : Nat → Bool) (i : Nat) : (rts P i).length ≤ i := by
  unfold rts
  have := List.length_filter_le P (List.range i)
  rw [List.length_range] at this
  exact this
omit hl hhi hlo in
theorem l5_all (ρ : Nat → Nat) (G : List Int) (hG : G.length = l.length) (hGv : ∀ j : Nat, j < l.length → rd G (j : Int) = ρ j) (W : List (List Int)) (hW : W.length ≤ 20) (i : Nat) (hil : i < l.length)
    (h : ∃ k, croftlaw36_PairsJoins.l4 k l G (W ++ [mem ρ l.length i]) ((i : Int) + 1) hi lo = some true) (d : Nat) : ∀ m : Nat, l.length - m = d → m ≤ l.length → ∃ k, croftlaw36_PairsJoins.l5 k l G W i (mem ρ m i) m hi lo = some true := by
  induction d with
  | zero =>
    intro m h1 h2
    obtain rfl : m = l.length := by omega
    obtain ⟨k, hk⟩ := h
    refine ⟨k + 1, ?_⟩
    simp only [croftlaw36_PairsJoins.l5]
    rw [if_neg (by omega), if_pos (by omega), w64_in ((i : Int) + 1) (by omega) (by omega)]
    exact hk
  | succ d ih =>
    intro m h1 h2
    obtain ⟨k, hk⟩ := ih (m + 1) (by omega) (by omega)
    refine ⟨k + 1, ?_⟩
    rw [← hk]
    have hm := mem_length ρ m i
    simp only [croftlaw36_PairsJoins.l5]
    rw [if_pos (by omega), if_pos (by omega), if_pos (by omega), hGv m (by omega), w64_in ((m : Int) + 1) (by omega) (by omega), mem_succ]
    by_cases e : ρ m = i
    · rw [if_pos (by omega), if_pos (by omega), if_pos e]
      rfl
    · rw [if_neg (by omega), if_neg e]
      rfl
omit hl hhi hlo hn in
theorem l6_all (W : List (List Int)) (hW : W.length ≤ 20) (hr : ∀ x ∈ W, x.length ≤ 20) (d : Nat) : ∀ (K i : Nat), W.length - i = d → i ≤ W.length → croftlaw36_PairsJoins.l6 (d + K + 41) W W i = some true := by
  induction d with
  | zero =>
    intro K i h1 h2
    obtain ⟨F, hF⟩ : ∃ F, K + 40 = F := ⟨_, rfl⟩
    rw [show 0 + K + 41 = F + 1 by omega]
    simp only [croftlaw36_PairsJoins.l6]
    rw [if_neg (by omega)]
  | succ d ih =>
    intro K i h1 h2
    have := ih K (i + 1) (by omega) (by omega)
    obtain ⟨F, hF⟩ : ∃ F, d + K + 41 = F := ⟨_, rfl⟩
    rw [hF] at this
    rw [← this, show d + 1 + K + 41 = F + 1 by omega]
    have hlen : (rd_L6 W (i : Int)).length ≤ 20 := by
      unfold rd_L6
      rw [Int.toNat_natCast, List.getD_eq_getElem?_getD, List.getElem?_eq_getElem (show i < W.length by omega)]
      exact hr _ (List.getElem_mem _)
    simp only [croftlaw36_PairsJoins.l6]
    rw [if_pos (by omega), if_pos (by omega), if_pos (by omega), ints_eq _ (by omega) F (by omega)]
    simp only [Option.bind_some, if_true]
    rw [w64_in ((i : Int) + 1) (by omega) (by omega)]
    rfl
theorem l4_all (ρ : Nat → Nat) (hρ : ∀ j, j < l.length → Rt (allJ hi lo l l.length) j (ρ j) ∧ ρ j ≤ j) (G : List Int) (hG : G.length = l.length) (hGv : ∀ j : Nat, j < l.length → rd G (j : Int) = ρ j) (d : Nat) : ∀ i : Nat, l.length - i = d → i ≤ l.length →
    ∃ k, croftlaw36_PairsJoins.l4 k l G ((rts (fun k => ρ k == k) i).map (mem ρ l.length)) i hi lo = some true := by
  induction d with
  | zero =>
    intro i h1 h2
    obtain rfl : i = l.length := by omega
    have hg := (gJ_groups hi lo l ρ hρ l.length (Nat.le_refl _)).2.2
    obtain ⟨W, hW⟩ : ∃ W, (rts (fun k => ρ k == k) l.length).map (mem ρ l.length) = W := ⟨_, rfl⟩
    have hWl : W.length ≤ 20 := by
      rw [← hW, List.length_map]
      have := rts_length (fun k => ρ k == k) l.length
      omega
    have hWr : ∀ x ∈ W, x.length ≤ 20 := by
      intro x hx
      rw [← hW] at hx
      obtain ⟨r, _, rfl⟩ := List.mem_map.1 hx
      have := mem_length ρ l.length r
      omega
    rw [hW] at hg ⊢
    have hj : ∀ k, Join.joined.f k l hi lo = some W := by
      intro k
      unfold Join.joined.f
      rw [if_pos, hg]
      exact ⟨by omega, fun a _ b _ => by rw [near_eq2 l hi lo Q hl hhi hlo a b]; rfl⟩
    obtain ⟨F, hF⟩ : ∃ F, W.length + 0 + 41 = F := ⟨_, rfl⟩
    have h6 := l6_all W hWl hWr W.length 0 0 (by omega) (by omega)
    rw [hF] at h6
    refine ⟨F + 1, ?_⟩
    simp only [croftlaw36_PairsJoins.l4]
    rw [if_neg (by omega), hj]
    simp only [Option.bind_some]
    rw [if_pos trivial]
    exact h6
  | succ d ih =>
    intro i h1 h2
    have hgi := hGv i (by omega)
    have ih := ih (i + 1) (by omega) (by omega)
    rw [rts_succ] at ih
    by_cases e : ρ i = i
    · rw [if_pos (by simp [e]), List.map_append] at ih
      have hWl : ((rts (fun k => ρ k == k) i).map (mem ρ l.length)).length ≤ 20 := by
        rw [List.length_map]
        have := rts_length (fun k => ρ k == k) i
        omega
      obtain ⟨k, hk⟩ := l5_all l hi lo hn ρ G hG hGv _ hWl i (by omega) ih l.length 0 (by omega) (by omega)
      refine ⟨k + 1, ?_⟩
      simp only [croftlaw36_PairsJoins.l4]
      rw [if_pos (by omega), if_pos (by omega), if_pos (by omega), hgi, if_pos (by omega)]
      exact hk
    · rw [if_neg (by simp [e])] at ih
      obtain ⟨k, hk⟩ := ih
      refine ⟨k + 1, ?_⟩
      simp only [croftlaw36_PairsJoins.l4]
      rw [if_pos (by omega), if_pos (by omega), if_pos (by omega), hgi, if_neg (by omega), w64_in ((i : Int) + 1) (by omega) (by omega)]
      exact hk
omit hl hhi hlo in
theorem l0_all (h : ∃ k, croftlaw36_PairsJoins.l1 k l (upTo l.length) 0 hi lo = some true) (d : Nat) : ∀ i : Nat, l.length - i = d → i ≤ l.length → ∃ k, croftlaw36_PairsJoins.l0 k l (upTo i ++ List.replicate (l.length - i) 0) i hi lo = some true := by
  induction d with
  | zero =>
    intro i h1 h2
    obtain rfl : i = l.length := by omega
    obtain ⟨k, hk⟩ := h
    refine ⟨k + 1, ?_⟩
    simp only [croftlaw36_PairsJoins.l0]
    rw [if_neg (by omega), Nat.sub_self]
    simpa using hk
  | succ d ih =>
    intro i h1 h2
    obtain ⟨k, hk⟩ := ih (i + 1) (by omega) (by omega)
    refine ⟨k + 1, ?_⟩
    simp only [croftlaw36_PairsJoins.l0]
    rw [if_pos (by omega), if_pos (by omega), if_pos (by rw [List.length_append, upTo_length, List.length_replicate]; omega), w64_in ((i : Int) + 1) (by omega) (by omega)]
    have e : (upTo i ++ List.replicate (l.length - i) (0 : Int)).set ((i : Int)).toNat (i : Int) = upTo (i + 1) ++ List.replicate (l.length - (i + 1)) 0 := by
      rw [Int.toNat_natCast, List.set_append_right _ _ (by rw [upTo_length]; exact Nat.le_refl _), upTo_length, Nat.sub_self, show l.length - i = (l.length - (i + 1)) + 1 by omega, List.replicate_succ, List.set_cons_zero, upTo_succ]
      simp
    rw [e]
    exact hk
theorem j0_all (hQ : 0 ≤ Q) : ∃ k, croftlaw36_PairsJoins.j0 k l hi lo = some true := by
  have hrefl : ∀ i, NB l Q i i = true := by
    intro i
    unfold NB D dd d2
    simp
    exact hQ
  have hN := fun i k (_ : i < l.length) (_ : k < l.length) => near_eq2 l hi lo Q hl hhi hlo i k
  obtain ⟨ρ, h1, h2⟩ := roots hi lo l (NB l Q) hN (NB_symm l Q)
  obtain ⟨⟨f1, f2⟩, f3⟩ := sws_fine (NB l Q) l.length l.length
  have hGv : ∀ j : Nat, j < l.length → rd (sws (NB l Q) l.length l.length) (j : Int) = ρ j := by
    intro j hj
    show (sws (NB l Q) l.length l.length).getD (j : Int).toNat 0 = _
    rw [Int.toNat_natCast]
    obtain ⟨b, hb, eb, cb⟩ := f2 j hj
    obtain ⟨_, h4, h5⟩ := h1 j hj
    have := f3 j (ρ j) hj (conn_rch (NB l Q) l.length hrefl j (ρ j) hj (by omega) h5)
    have e := h2 j b hj cb
    have := (h1 b hb).2.1
    omega
  have h4 := l4_all l hi lo Q hl hn hhi hlo ρ (fun j hj => ⟨(h1 j hj).1, (h1 j hj).2.1⟩) (sws (NB l Q) l.length l.length) (sws_length _ _ _) hGv l.length 0 (by omega) (by omega)
  have h5 := l1_all l hi lo Q hl hn hhi hlo h4 l.length 0 (by omega) (by omega)
  obtain ⟨k, hk⟩ := l0_all l hi lo hn h5 l.length 0 (by omega) (by omega)
  refine ⟨k + 1, ?_⟩
  simp only [croftlaw36_PairsJoins.j0]
  rw [if_pos (by omega), if_pos (by omega), Int.toNat_natCast]
  exact hk
end
theorem up_to (l : List S24) (hi lo : Int) (k : Nat) (h : croftlaw36_PairsJoins.j0 k l hi lo = some true) (d : Nat) : croftlaw36_PairsJoins.j0 (k + d) l hi lo = some true := by
  induction d with
  | zero => exact h
  | succ d ih => exact (croftlaw36_PairsJoins.mono_l (k + d)).1 l hi lo true ih
end PairsJoinsAux
open PairsJoinsAux

theorem PairsJoins : croftlaw36_PairsJoins.Pure := by
  intro l hi lo _ _ hl hh hlw
  have hl : ∀ p ∈ l, ok p := fun p hp => ⟨wf_u32 (hl p hp).2.1, wf_u32 (hl p hp).2.2⟩
  obtain ⟨h0, h1⟩ := wf_u64 hh
  obtain ⟨h2, h3⟩ := wf_u64 hlw
  have key : ∀ l' : List S24, (∀ p ∈ l', ok p) → l'.length ≤ 20 → ∃ k, croftlaw36_PairsJoins.j0 k l' hi lo = some true := by
    intro l' k1 k2
    exact j0_all l' hi lo (hi * 18446744073709551616 + lo) k1 k2 (by omega) (by omega) (by omega)
  have fin' : ∃ k, (if (l.length : Int) > 20 then (if 20 ≤ (l.length : Int) then (croftlaw36_PairsJoins.j0 k (l.take 20) hi lo) else none) else croftlaw36_PairsJoins.j0 k l hi lo) = some true ∧ 800 ≤ k := by
    by_cases h : (l.length : Int) > 20
    · obtain ⟨k, hk⟩ := key (l.take 20) (fun p hp => hl p (List.mem_of_mem_take hp)) (by rw [List.length_take]; omega)
      exact ⟨k + 800, by rw [if_pos h, if_pos (by omega)]; exact up_to _ _ _ k hk 800, Nat.le_add_left 800 k⟩
    · obtain ⟨k, hk⟩ := key l hl (by omega)
      exact ⟨k + 800, by rw [if_neg h]; exact up_to _ _ _ k hk 800, Nat.le_add_left 800 k⟩
  obtain ⟨k, hk, hk2⟩ := fin'
  refine ⟨k, ?_⟩
  unfold croftlaw36_PairsJoins.f
  have ha := alive36 (k - 800)
  rw [show k - 800 + 800 = k by omega] at ha
  rw [ha]
  simp only [Option.bind_some, if_true]
  exact hk
end Go.Proofs.Ytgepbfcaimejmaa.Pure
