/-
  What track.Thin answers, in plain words.
  Conditions: coordinates are of Go's uint32.
-/
import Derived.Test.YtgepbfcaimejmaaTrackA
import Derived.Test.YtgepbfcaimejmaaPAx23
namespace Go.Proofs.Ytgepbfcaimejmaa.ThinA
open Go.RowKit Go.Proofs.Ytgepbfcaimejmaa.PA Go.Proofs.YtgepbfcaimejmaaW.PrintWords Go.Proofs.YtgepbfcaimejmaaW.PrintLast Nums MulA WideA PolyA TrackA
theorem lst_ok (l : List S24) (h : ∀ p ∈ l, ok p) (n : Nat) : ok (lst l n) := getD_ok l h _
/-- Is it farther than that? -/
def far2 (a b : Int) (p q : S24) : Prop := a < dd p q / 18446744073709551616 ∨ a = dd p q / 18446744073709551616 ∧ b < dd p q % 18446744073709551616
instance (a b : Int) (p q : S24) : Decidable (far2 a b p q) := by unfold far2; infer_instance
def tstep (a b : Int) (out : List S24) (p : S24) : List S24 := if out.length = 0 ∨ far2 a b (lst out 1) p then out ++ [p] else out
theorem tstep_ok (a b : Int) (out : List S24) (p : S24) (ho : ∀ q ∈ out, ok q) (hp : ok p) : ∀ q ∈ tstep a b out p, ok q := by
  intro q hq
  unfold tstep at hq
  split at hq
  · rcases List.mem_append.1 hq with h | h
    · exact ho q h
    · rw [List.mem_singleton.1 h]; exact hp
  · exact ho q hq
theorem tstep_length (a b : Int) (out : List S24) (p : S24) : (tstep a b out p).length ≤ out.length + 1 ∧ 0 < (tstep a b out p).length := by
  unfold tstep
  split
  · simp
  · omega
theorem cmp_far (k : Nat) (a b : Int) (p q : S24) : ∃ n, wide_Cmp.f (k + 3) (dd p q / 18446744073709551616) (dd p q % 18446744073709551616) a b = some n ∧ (n > 0 ↔ far2 a b p q) := by
  refine ⟨_, cmp_eq k _ _ _ _, ?_⟩
  unfold far2
  split
  · omega
  · split <;> omega
theorem thin_loop (a b : Int) (l : List S24) (hl : ∀ p ∈ l, ok p) (hn : l.length < 4398046511104) (d : Nat) : ∀ (k i : Nat) (out : List S24), l.length - i = d → i ≤ l.length → out.length ≤ i → (∀ p ∈ out, ok p) →
    track_Thin.l0 (d + k + 4) out l l.length i a b = some ((l.drop i).foldl (tstep a b) out) := by
  induction d with
  | zero =>
    intro k i out h1 h2 h3 ho
    simp only [track_Thin.l0]
    rw [if_neg (by omega), List.drop_of_length_le (by omega)]
    rfl
  | succ d ih =>
    intro k i out h1 h2 h3 ho
    have hi : i < l.length := by omega
    have hp := hl _ (List.getElem_mem hi)
    have hrd : rd_T24 l (i : Int) = l[i] := by simp [rd_T24, hi]
    rw [List.drop_eq_getElem_cons hi, List.foldl_cons]
    obtain ⟨K, hK⟩ : ∃ K, d + k + 1 + 3 = K := ⟨_, rfl⟩
    rw [show d + 1 + k + 4 = K + 1 by omega]
    simp only [track_Thin.l0]
    rw [if_pos (by omega), if_pos (by omega), if_pos (by omega), hrd, w64_in ((out.length : Int) - 1) (by omega) (by omega), w64_in ((i : Int) + 1) (by omega) (by omega)]
    have fin : track_Thin.l0 K (tstep a b out l[i]) l l.length ((i : Int) + 1) a b = some ((l.drop (i + 1)).foldl (tstep a b) (tstep a b out l[i])) := by
      have := ih k (i + 1) (tstep a b out l[i]) (by omega) (by omega) (by have := tstep_length a b out l[i]; omega) (tstep_ok _ _ _ _ ho hp)
      rw [← this, ← hK]
      rfl
    rw [← fin]
    by_cases h0 : out.length = 0
    · rw [if_pos (by omega), if_pos (by omega)]
      unfold tstep
      rw [if_pos (Or.inl h0)]
    · rw [if_neg (by omega), if_pos (by omega), if_pos (by omega), show (out.length : Int) - 1 = (out.length : Int) - (1 : Nat) by omega, rd_lst out 1 (by omega), ← hK, far_eq _ _ _ (lst_ok out ho 1) hp]
      simp only [Option.bind_some]
      obtain ⟨n, hn1, hn2⟩ := cmp_far (d + k + 1) a b (lst out 1) l[i]
      rw [hn1]
      simp only [Option.bind_some]
      unfold tstep
      by_cases h2 : far2 a b (lst out 1) l[i]
      · rw [if_pos (hn2.2 h2), if_pos (by omega), if_pos (Or.inr h2)]
      · rw [if_neg (fun h => h2 (hn2.1 h)), if_neg (by intro h; rcases h with h | h; exact h0 h; exact h2 h)]
theorem thin_eq (k : Nat) (a b : Int) (l : List S24) (hl : ∀ p ∈ l, ok p) (hn : l.length < 4398046511104) : track_Thin.f (l.length + k + 4) l a b = some (l.foldl (tstep a b) []) := by
  unfold track_Thin.f
  exact thin_loop a b l hl hn l.length k 0 [] (by omega) (by omega) (by simp) (by simp)
theorem fold_length (a b : Int) (l : List S24) : ∀ out : List S24, (l.foldl (tstep a b) out).length ≤ out.length + l.length := by
  induction l with
  | nil => intro out; simp
  | cons p l ih =>
    intro out
    rw [List.foldl_cons, List.length_cons]
    have := ih (tstep a b out p)
    have := (tstep_length a b out p).1
    omega
end Go.Proofs.Ytgepbfcaimejmaa.ThinA
