/-
  Which groups pairs.Joined answers, in plain words: two places are in one group just if they are joined by steps that are near.
  Conditions: 'near' is told by a relation that goes both ways.
-/
import Derived.Test.YtgepbfcaimejmaaRootP
namespace Go.Proofs.Ytgepbfcaimejmaa.RootP
open Go.Proofs.Ytgepbfcaimejmaa.PP Go.Proofs.Ytgepbfcaimejmaa.PP.Join

section
variable (hi lo : Int) (l : List S24) (N : Nat → Nat → Bool)
/-- Joined by steps among the first n places. -/
inductive Conn (n : Nat) : Nat → Nat → Prop
  | refl (i : Nat) : Conn n i i
  | step (i k j : Nat) : k < n → N i k = true → Conn n k j → Conn n i j
variable {N} in
theorem Conn.trans {n i j k : Nat} (h : Conn N n i j) (h2 : Conn N n j k) : Conn N n i k := by
  induction h with
  | refl i => exact h2
  | step i a j ha hn _ ih => exact .step i a k ha hn (ih h2)
variable {N} in
theorem Conn.symm (hs : ∀ i k, N i k = N k i) {n i j : Nat} (h : Conn N n i j) : i < n → Conn N n j i := by
  induction h with
  | refl i => intro _; exact .refl i
  | step i a j ha hn _ ih =>
    intro hi
    exact (ih ha).trans (.step a i i hi (by rw [hs]; exact hn) (.refl i))
variable (hN : ∀ i k, i < l.length → k < l.length → near hi lo (l.getD i z24) (l.getD k z24) = some (N i k)) (hsym : ∀ i k, N i k = N k i)
/-- What the joiner's list is good for: first ones are joined to their groups. -/
def Sound (u : List Int) : Prop := inv u ∧ u.length = l.length ∧ ∀ j r, j < l.length → Rt u j r → Conn N l.length j r
include hN hsym
theorem step_sound (u : List Int) (h : Sound l N u) (i k : Nat) (hi' : i < l.length) (hk : k < l.length) : Sound l N (stepJ hi lo l i u k) ∧
    (N i k = true → ∃ r, Rt (stepJ hi lo l i u k) i r ∧ Rt (stepJ hi lo l i u k) k r) ∧ ∀ a b r, a < l.length → b < l.length → Rt u a r → Rt u b r → ∃ r', Rt (stepJ hi lo l i u k) a r' ∧ Rt (stepJ hi lo l i u k) b r' := by
  obtain ⟨h1, h2, h3⟩ := h
  unfold stepJ
  rw [hN i k hi' hk]
  by_cases hn : N i k = true
  · rw [hn, if_pos rfl]
    obtain ⟨ra, hra, _⟩ := Rt.exists u h1 i (by omega)
    obtain ⟨rb, hrb, _⟩ := Rt.exists u h1 k (by omega)
    have J := fun j r hj hr => join_root u i k ra rb h1 (by omega) (by omega) hra hrb j r hj hr
    have hab : Conn N l.length ra rb := ((h3 i ra hi' hra).symm hsym hi').trans (.step i k rb hk hn (h3 k rb hk hrb))
    have hba : Conn N l.length rb ra := ((h3 k rb hk hrb).symm hsym hk).trans (.step k i ra hi' (by rw [hsym]; exact hn) (h3 i ra hi' hra))
    refine ⟨⟨join_inv u i k h1 (by omega) (by omega), by rw [join_length]; exact h2, fun j r hj hr => ?_⟩, fun _ => ?_, fun a b r ha hb h4 h5 => ⟨_, J a r (by omega) h4, J b r (by omega) h5⟩⟩
    · obtain ⟨r0, hr0, _⟩ := Rt.exists u h1 j (by omega)
      have := J j r0 (by omega) hr0
      have e := this.det hr
      have c := h3 j r0 hj hr0
      rw [← e]
      by_cases e2 : r0 = max ra rb
      · rw [if_pos e2]
        rcases Nat.le_total ra rb with h | h
        · rw [Nat.max_eq_right h] at e2
          rw [Nat.min_eq_left h]
          rw [e2] at c
          exact c.trans hba
        · rw [Nat.max_eq_left h] at e2
          rw [Nat.min_eq_right h]
          rw [e2] at c
          exact c.trans hab
      · rw [if_neg e2]; exact c
    · have a1 := J i ra (by omega) hra
      have a2 := J k rb (by omega) hrb
      have e : (if ra = max ra rb then min ra rb else ra) = (if rb = max ra rb then min ra rb else rb) := by
        rcases Nat.le_total ra rb with h | h
        · rw [Nat.max_eq_right h, Nat.min_eq_left h, if_pos (rfl : rb = rb)]
          split <;> rfl
        · rw [Nat.max_eq_left h, Nat.min_eq_right h, if_pos (rfl : ra = ra)]
          split <;> rfl
      rw [e] at a1
      exact ⟨_, a1, a2⟩
  · have : ¬ (some (N i k) = some true) := by simpa using hn
    rw [if_neg this]
    exact ⟨⟨h1, h2, h3⟩, fun h => absurd h hn, fun a b r _ _ h4 h5 => ⟨r, h4, h5⟩⟩
theorem row_sound (i : Nat) (hi' : i < l.length) (u : List Int) (h : Sound l N u) (m : Nat) (hm : m ≤ l.length) : Sound l N (rowJ hi lo l i u m) ∧
    (∀ k, k < m → N i k = true → ∃ r, Rt (rowJ hi lo l i u m) i r ∧ Rt (rowJ hi lo l i u m) k r) ∧ ∀ a b r, a < l.length → b < l.length → Rt u a r → Rt u b r → ∃ r', Rt (rowJ hi lo l i u m) a r' ∧ Rt (rowJ hi lo l i u m) b r' := by
  induction m with
  | zero => exact ⟨h, fun k hk => by omega, fun a b r _ _ h4 h5 => ⟨r, h4, h5⟩⟩
  | succ m ih =>
    obtain ⟨h1, h2, h3⟩ := ih (by omega)
    obtain ⟨s1, s2, s3⟩ := step_sound hi lo l N hN hsym _ h1 i m hi' (by omega)
    refine ⟨s1, fun k hk hn => ?_, fun a b r ha hb h4 h5 => ?_⟩
    · by_cases e : k = m
      · subst e; exact s2 hn
      · obtain ⟨r, a, b⟩ := h2 k (by omega) hn
        exact s3 i k r hi' (by omega) a b
    · obtain ⟨r', a', b'⟩ := h3 a b r ha hb h4 h5
      exact s3 a b r' ha hb a' b'
theorem all_sound (m : Nat) (hm : m ≤ l.length) : Sound l N (allJ hi lo l m) ∧ ∀ i k, i < m → k < i → N i k = true → ∃ r, Rt (allJ hi lo l m) i r ∧ Rt (allJ hi lo l m) k r := by
  induction m with
  | zero =>
    refine ⟨⟨upTo_inv _, upTo_length _, fun j r hj hr => ?_⟩, fun i k h => by omega⟩
    have : Rt (upTo l.length) j j := .here j (by simp [upTo, hj])
    rw [this.det hr]
    exact .refl r
  | succ m ih =>
    obtain ⟨h1, h2⟩ := ih (by omega)
    obtain ⟨r1, r2, r3⟩ := row_sound hi lo l N hN hsym m (by omega) _ h1 m (by omega)
    refine ⟨r1, fun i k hi' hk hn => ?_⟩
    by_cases e : i = m
    · subst e; exact r2 k hk hn
    · obtain ⟨r, a, b⟩ := h2 i k (by omega) hk hn
      exact r3 i k r (by omega) (by omega) a b
/-- The first one of each place's group, as a function. -/
theorem roots : ∃ ρ : Nat → Nat, (∀ j, j < l.length → Rt (allJ hi lo l l.length) j (ρ j) ∧ ρ j ≤ j ∧ Conn N l.length j (ρ j)) ∧ ∀ i j, i < l.length → Conn N l.length i j → ρ i = ρ j := by
  obtain ⟨⟨h1, h2, h3⟩, h4⟩ := all_sound hi lo l N hN hsym l.length (Nat.le_refl _)
  have ex : ∀ j, ∃ r, j < l.length → Rt (allJ hi lo l l.length) j r ∧ r ≤ j := by
    intro j
    by_cases hj : j < l.length
    · obtain ⟨r, a, b⟩ := Rt.exists _ h1 j (by omega)
      exact ⟨r, fun _ => ⟨a, b⟩⟩
    · exact ⟨0, fun h => absurd h hj⟩
  have hex := fun j => Classical.choose_spec (ex j)
  have hstep : ∀ i k, i < l.length → k < l.length → N i k = true → Classical.choose (ex i) = Classical.choose (ex k) := by
    intro i k hi' hk hn
    obtain ⟨a1, _⟩ := hex i hi'
    obtain ⟨b1, _⟩ := hex k hk
    rcases Nat.lt_trichotomy i k with h | h | h
    · obtain ⟨r, c, d⟩ := h4 k i hk h (by rw [hsym]; exact hn)
      rw [a1.det d, b1.det c]
    · subst h; rfl
    · obtain ⟨r, c, d⟩ := h4 i k hi' h hn
      rw [a1.det c, b1.det d]
  refine ⟨fun j => Classical.choose (ex j), fun j hj => ⟨(hex j hj).1, (hex j hj).2, h3 j _ hj (hex j hj).1⟩, ?_⟩
  intro i j hi' hc
  induction hc with
  | refl i => rfl
  | step i k j hk hn _ ih => exact (hstep i k hi' hk hn).trans (ih hk)
end
end Go.Proofs.Ytgepbfcaimejmaa.RootP
