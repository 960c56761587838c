/-
  What the joiner of pairs does, in plain words: the first one of a group, and that joining keeps the groups.
  Conditions: each place's next one up is no later one.
-/
import Derived.Test.YtgepbfcaimejmaaJoinedP
namespace Go.Proofs.Ytgepbfcaimejmaa.RootP
open Go.Proofs.Ytgepbfcaimejmaa.PP Go.Proofs.Ytgepbfcaimejmaa.PP.Join

/-- r is the first one of i's group. -/
inductive Rt (u : List Int) : Nat → Nat → Prop
  | here (i : Nat) : u.getD i 0 = i → Rt u i i
  | up (i p r : Nat) : u.getD i 0 = p → p ≠ i → Rt u p r → Rt u i r
theorem Rt.root {u : List Int} {i r : Nat} (h : Rt u i r) : u.getD r 0 = r := by
  induction h with
  | here i h => exact h
  | up i p r _ _ _ ih => exact ih
theorem Rt.det {u : List Int} {i r r' : Nat} (h : Rt u i r) : Rt u i r' → r = r' := by
  induction h with
  | here i h =>
    intro h'
    cases h' with
    | here _ _ => rfl
    | up _ p _ e ne _ => omega
  | up i p r e ne _ ih =>
    intro h'
    cases h' with
    | here _ e' => omega
    | up _ p' _ e' _ h2 =>
      obtain rfl : p = p' := by omega
      exact ih h2
theorem Rt.exists (u : List Int) (h : inv u) (i : Nat) : i < u.length → ∃ r, Rt u i r ∧ r ≤ i := by
  induction i using Nat.strongRecOn with
  | ind i ih =>
    intro hi
    have hv := h i hi
    obtain ⟨p, hp⟩ : ∃ p : Nat, u.getD i 0 = (p : Int) := ⟨(u.getD i 0).toNat, by omega⟩
    by_cases e : p = i
    · subst e; exact ⟨p, .here p hp, Nat.le_refl _⟩
    · obtain ⟨r, hr, hle⟩ := ih p (by omega) (by omega)
      exact ⟨r, .up i p r hp e hr, by omega⟩
theorem half_other (u : List Int) (i j : Nat) (h : j ≠ i) : (half u i).getD j 0 = u.getD j 0 := by
  unfold half
  generalize u.getD (u.getD i 0).toNat 0 = x
  rw [List.getD_eq_getElem?_getD, List.getD_eq_getElem?_getD, List.getElem?_set, if_neg (Ne.symm h)]
/-- Halving a path keeps the first ones. -/
theorem half_root (u : List Int) (h : inv u) (i : Nat) (hi : i < u.length) (j : Nat) : ∀ r, j < u.length → Rt u j r → Rt (half u i) j r := by
  induction j using Nat.strongRecOn with
  | ind j ih =>
    intro r hj hr
    have hv := h j hj
    by_cases e : j = i
    · subst e
      have ha := half_at u j hj
      cases hr with
      | here _ e1 =>
        refine .here j ?_
        rw [ha, e1, Int.toNat_natCast, e1]
      | up _ p _ e1 ne h2 =>
        rw [e1, Int.toNat_natCast] at ha
        have hvp := h p (by omega)
        cases h2 with
        | here _ e2 =>
          rw [e2] at ha
          exact .up j r r ha ne (.here r (by rw [half_other u j r ne]; exact e2))
        | up _ q _ e2 ne2 h3 =>
          rw [e2] at ha
          exact .up j q r ha (by omega) (ih q (by omega) r (by omega) h3)
    · have ho := half_other u i j e
      cases hr with
      | here _ e1 => exact .here j (by rw [ho]; exact e1)
      | up _ p _ e1 ne h2 => exact .up j p r (by rw [ho]; exact e1) ne (ih p (by omega) r (by omega) h2)
theorem top_root (f : Nat) : ∀ (u : List Int) (i : Nat), inv u → i < u.length → i < f → Rt u i (top f u i).2 ∧ ∀ j r, j < u.length → Rt u j r → Rt (top f u i).1 j r := by
  induction f with
  | zero => intro u i _ _ h; omega
  | succ f ih =>
    intro u i h hi hf
    simp only [top]
    have hv := h i hi
    by_cases e : u.getD i 0 = i
    · rw [if_pos e]
      exact ⟨.here i e, fun j r _ hr => hr⟩
    · rw [if_neg e]
      have hh := half_inv u h i hi
      have ha := half_at u i hi
      obtain ⟨p, hp⟩ : ∃ p : Nat, u.getD i 0 = (p : Int) := ⟨(u.getD i 0).toNat, by omega⟩
      have hvp := h p (by omega)
      rw [hp, Int.toNat_natCast] at ha
      obtain ⟨q, hq⟩ : ∃ q : Nat, u.getD p 0 = (q : Int) := ⟨(u.getD p 0).toNat, by omega⟩
      rw [hq] at ha
      rw [ha, Int.toNat_natCast]
      obtain ⟨h1, h2⟩ := ih (half u i) q hh (by rw [half_length]; omega) (by omega)
      refine ⟨?_, fun j r hj hr => h2 j r (by rw [half_length]; exact hj) (half_root u h i hi j r hj hr)⟩
      obtain ⟨r0, hr0, _⟩ := Rt.exists u h i hi
      have k1 := half_root u h i hi i r0 hi hr0
      have k2 : Rt (half u i) i (top f (half u i) q).2 := .up i q _ ha (by omega) h1
      rw [← k1.det k2]
      exact hr0
/-- Joining two groups. -/
theorem join_root (u : List Int) (a b ra rb : Nat) (h : inv u) (ha : a < u.length) (hb : b < u.length) (hra : Rt u a ra) (hrb : Rt u b rb) (j r : Nat) (hj : j < u.length) (hr : Rt u j r) :
    Rt (join u a b) j (if r = max ra rb then min ra rb else r) := by
  unfold join
  have t1 := top_root (a + 1) u a h ha (by omega)
  have i1 := top_le (a + 1) u a h ha
  have l1 := top_length (a + 1) u a
  generalize top (a + 1) u a = T1 at t1 i1 l1 ⊢
  obtain ⟨v, p⟩ := T1
  simp only at t1 i1 l1 ⊢
  have t2 := top_root (b + 1) v b i1.2 (by omega) (by omega)
  have i2 := top_le (b + 1) v b i1.2 (by omega)
  have l2 := top_length (b + 1) v b
  generalize top (b + 1) v b = T2 at t2 i2 l2 ⊢
  obtain ⟨w, q⟩ := T2
  simp only at t2 i2 l2 ⊢
  obtain rfl : ra = p := hra.det t1.1
  have hrb' := t1.2 b rb hb hrb
  obtain rfl : rb = q := hrb'.det t2.1
  have wa : Rt w a ra := t2.2 a ra (by omega) (t1.2 a ra ha hra)
  have wb : Rt w b rb := t2.2 b rb (by omega) hrb'
  have wj : Rt w j r := t2.2 j r (by omega) (t1.2 j r hj hr)
  have ha2 := wa.root
  have hb2 := wb.root
  have hle1 := i1.1
  have hle2 := i2.1
  have at_ : ∀ k : Nat, (w.set (max ra rb) ((min ra rb : Nat) : Int)).getD k 0 = if k = max ra rb then ((min ra rb : Nat) : Int) else w.getD k 0 := by
    intro k
    rw [List.getD_eq_getElem?_getD, List.getD_eq_getElem?_getD, List.getElem?_set]
    by_cases e : max ra rb = k
    · rw [if_pos e, if_pos e.symm, if_pos (by omega)]; rfl
    · rw [if_neg e, if_neg (Ne.symm e)]
  have hmin : w.getD (min ra rb) 0 = ((min ra rb : Nat) : Int) := by
    rcases Nat.le_total ra rb with h | h
    · rw [Nat.min_eq_left h]; exact ha2
    · rw [Nat.min_eq_right h]; exact hb2
  have hmax : w.getD (max ra rb) 0 = ((max ra rb : Nat) : Int) := by
    rcases Nat.le_total ra rb with h | h
    · rw [Nat.max_eq_right h]; exact hb2
    · rw [Nat.max_eq_left h]; exact ha2
  clear hra hrb t1 t2 hr hrb' wa wb
  induction wj with
  | here i e =>
    by_cases e2 : i = max ra rb
    · rw [if_pos e2]
      by_cases e3 : min ra rb = max ra rb
      · rw [e2]
        have hx := at_ (max ra rb)
        rw [if_pos rfl] at hx
        rw [e3] at hx ⊢
        exact .here _ hx
      · rw [e2]
        exact .up _ (min ra rb) _ (by rw [at_, if_pos rfl]) e3 (.here _ (by rw [at_, if_neg e3]; exact hmin))
    · rw [if_neg e2]
      exact .here i (by rw [at_, if_neg e2]; exact e)
  | up i p r e ne hr2 ih =>
    have hi : i ≠ max ra rb := by
      rintro rfl
      omega
    have hp : p < u.length := by
      by_cases e4 : i < w.length
      · have := i2.2 i e4; omega
      · omega
    exact .up i p _ (by rw [at_, if_neg hi]; exact e) ne (ih hp)
end Go.Proofs.Ytgepbfcaimejmaa.RootP
