/-
  More of what the printed functions of pairs answer: the law's first test is true; the pair that is nearest is as near as anyone's nearest.
  Conditions: coordinates are of Go's uint32.
-/
import Derived.Test.YtgepbfcaimejmaaNearP
namespace Go.Proofs.Ytgepbfcaimejmaa.NearP
open Go.RowKit Go.Proofs.Ytgepbfcaimejmaa.PP Go.Proofs.YtgepbfcaimejmaaW.PrintWords Go.Proofs.YtgepbfcaimejmaaW.PrintLast Nums MulP WideP

theorem alive36 (k : Nat) : croftlaw36_alive.f (k + 800) = some true := by
  unfold croftlaw36_alive.f
  have hl : ∀ p ∈ ([(⟨5, 0, 0, (⟨#[]⟩ : ByteArray)⟩ : S24), (⟨6, 3, 0, (⟨#[]⟩ : ByteArray)⟩ : S24)] : List S24), ok p := by
    intro p hp
    simp at hp
    rcases hp with rfl | rfl <;> (unfold ok; simp)
  rw [close_eq _ hl (by simp) (k + 800) (by simp only [List.length_cons, List.length_nil]; omega)]
  have hc : crow ([(⟨5, 0, 0, (⟨#[]⟩ : ByteArray)⟩ : S24), (⟨6, 3, 0, (⟨#[]⟩ : ByteArray)⟩ : S24)] : List S24) ([(⟨5, 0, 0, (⟨#[]⟩ : ByteArray)⟩ : S24), (⟨6, 3, 0, (⟨#[]⟩ : ByteArray)⟩ : S24)] : List S24).length = 0 := by decide
  have hnr : nr ([(⟨5, 0, 0, (⟨#[]⟩ : ByteArray)⟩ : S24), (⟨6, 3, 0, (⟨#[]⟩ : ByteArray)⟩ : S24)] : List S24) 0 = 1 := by decide
  unfold fin
  rw [hc, if_neg (by omega)]
  simp only [Option.bind_some, Int.toNat_zero, hnr]
  have hj : Join.joined.f (k + 800) ([(⟨0, 0, 0, (⟨#[]⟩ : ByteArray)⟩ : S24)] : List S24) 0 0 = some (Join.gJ 0 0 [(⟨0, 0, 0, (⟨#[]⟩ : ByteArray)⟩ : S24)] 1).2.2 := by
    unfold Join.joined.f
    rw [if_pos]
    · rfl
    · refine ⟨by simp, fun i hi j hj => ?_⟩
      have hp : ∀ m, ok (([(⟨0, 0, 0, (⟨#[]⟩ : ByteArray)⟩ : S24)] : List S24).getD m z24) := getD_ok _ (by intro p hp; simp at hp; subst hp; unfold ok; simp)
      unfold Join.near
      rw [show (3 : Nat) = 0 + 3 from rfl, far_eq 0 _ _ (hp i) (hp j)]
      simp only [Option.bind_some, cmp_eq, Option.isSome_some]
  rw [hj]
  have hg : ((Join.gJ 0 0 [(⟨0, 0, 0, (⟨#[]⟩ : ByteArray)⟩ : S24)] 1).2.2.length : Int) = 1 := by
    have h := Join.gJ_inv 0 0 [(⟨0, 0, 0, (⟨#[]⟩ : ByteArray)⟩ : S24)] 1 (by simp)
    have := h.2.2.2.1 0 (by omega)
    have := h.2.2.2.2
    omega
  simp [hg]
variable (l : List S24)
theorem nr_other (i k : Nat) (hk : k < l.length) (hne : k ≠ i) : 0 ≤ nr l i ∧ (nr l i).toNat ≠ i ∧ D l i (nr l i).toNat ≤ D l i k := by
  obtain ⟨h1, h2, h3⟩ := nrow_spec l i l.length
  have h : 0 ≤ nrow l i l.length := by
    rcases h1 with h1 | h1
    · exact absurd (h2 h1 k hk) hne
    · exact h1
  exact ⟨h, (h3 h).2.1, (h3 h).2.2.1 k hk hne⟩
/-- The first pair that is nearest is as near as anyone's nearest. -/
theorem min_all (hc : 0 ≤ crow l l.length) (i : Nat) : i < l.length → 0 ≤ nr l i ∧ D l (crow l l.length).toNat (nr l (crow l l.length).toNat).toNat ≤ D l i (nr l i).toNat := by
  obtain ⟨c1, c2, c3, c4⟩ := (crow_spec l l.length).2.2 hc
  have hlt := nr_lt l (crow l l.length).toNat (by omega)
  induction i using Nat.strongRecOn with
  | ind i ih =>
    intro hi
    have h0 : 0 ≤ nr l i := by
      by_cases e : (crow l l.length).toNat = i
      · rw [← e]; omega
      · exact (nr_other l i _ (by omega) e).1
    refine ⟨h0, ?_⟩
    have hil := nr_lt l i h0
    have hne := ((nrow_spec l i l.length).2.2 h0).2.1
    by_cases hgt : nr l i > i
    · exact c3 i hi hgt
    · have hlt2 : (nr l i).toNat < i := by
        have : (nr l i).toNat ≠ i := hne
        omega
      obtain ⟨_, hle⟩ := ih (nr l i).toNat hlt2 (by omega)
      have := (nr_other l (nr l i).toNat i hi (by omega)).2.2
      rw [D_comm l (nr l i).toNat i] at this
      omega
theorem none_small (hc : crow l l.length < 0) : l.length < 2 := by
  obtain ⟨h1, h2, _⟩ := crow_spec l l.length
  by_cases h : l.length < 2
  · exact h
  · have := h2 (by omega) 0 (by omega)
    have h3 := nr_other l 0 1 (by omega) (by omega)
    omega
theorem refgap_eq (a b : Int) (h0 : 0 ≤ a) (h1 : a < 4294967296) (h2 : 0 ≤ b) (h3 : b < 4294967296) :
    ∃ g, croftref03_gap.f a b = some g ∧ 0 ≤ g ∧ g ≤ 4294967295 ∧ g * g = (a - b) * (a - b) := by
  unfold croftref03_gap.f
  by_cases h : a > b
  · refine ⟨a - b, ?_, by omega, by omega, rfl⟩
    rw [if_pos h]
    congr 1
    omega
  · refine ⟨b - a, ?_, by omega, by omega, by grind⟩
    rw [if_neg h]
    congr 1
    omega
theorem refbetween_eq (hl : ∀ p ∈ l, ok p) (i k : Nat) : croftref03_Between.f (l.getD i z24).f1 (l.getD i z24).f2 (l.getD k z24).f1 (l.getD k z24).f2 = some (D l i k / 18446744073709551616, D l i k % 18446744073709551616) := by
  obtain ⟨⟨a0, a1⟩, b0, b1⟩ := getD_ok l hl i
  obtain ⟨⟨c0, c1⟩, e0, e1⟩ := getD_ok l hl k
  unfold D dd
  generalize (l.getD i z24).f1 = x0 at *
  generalize (l.getD i z24).f2 = y0 at *
  generalize (l.getD k z24).f1 = x1 at *
  generalize (l.getD k z24).f2 = y1 at *
  obtain ⟨g, hg, g0, g1, g2⟩ := refgap_eq x0 x1 a0 a1 c0 c1
  obtain ⟨g', hg', g0', g1', g2'⟩ := refgap_eq y0 y1 b0 b1 e0 e1
  unfold croftref03_Between.f d2
  simp only [hg, hg', Option.bind_some]
  have b := le_mul g g _ _ g0 g1 g0 g1
  have b' := le_mul g' g' _ _ g0' g1' g0' g1'
  rw [← g2, ← g2']
  generalize g * g = q at *
  generalize g' * g' = r at *
  rw [u64_in q (by omega) (by omega), u64_in r (by omega) (by omega), u64_wrap]
  by_cases h : (q + r) % 18446744073709551616 < q
  · rw [if_pos h, show (q + r) / 18446744073709551616 = 1 from by omega]
  · rw [if_neg h, show (q + r) / 18446744073709551616 = 0 from by omega]
theorem less_eq (E G : Int) : croftref03_Less.f (E / 18446744073709551616) (E % 18446744073709551616) (G / 18446744073709551616) (G % 18446744073709551616) = some (decide (E < G)) := by
  unfold croftref03_Less.f
  by_cases h : E / 18446744073709551616 < G / 18446744073709551616
  · have : E < G := by omega
    simp [h, this]
  · by_cases h' : E / 18446744073709551616 = G / 18446744073709551616
    · have : (E % 18446744073709551616 < G % 18446744073709551616) ↔ E < G := by omega
      simp [h', this]
    · have : ¬ E < G := by omega
      simp [h, h', this]
theorem ints_loop (t : List Int) (hn : t.length ≤ 1000) (d : Nat) : ∀ (K i : Nat), t.length - i = d → i ≤ t.length → croftplain_Ints.l0 (d + K + 1) t t i = some true := by
  induction d with
  | zero =>
    intro K i h1 h2
    rw [show 0 + K + 1 = K + 1 by omega]
    simp only [croftplain_Ints.l0]
    rw [if_neg (by omega)]
  | succ d ih =>
    intro K i h1 h2
    have := ih K (i + 1) (by omega) (by omega)
    obtain ⟨F, hF⟩ : ∃ F, d + K + 1 = F := ⟨_, rfl⟩
    rw [hF] at this
    rw [← this, show d + 1 + K + 1 = F + 1 by omega]
    simp only [croftplain_Ints.l0]
    rw [if_pos (by omega), if_pos (by omega), if_pos (by omega), if_pos trivial, w64_in ((i : Int) + 1) (by omega) (by omega)]
    rfl
theorem ints_eq (t : List Int) (hn : t.length ≤ 1000) (F : Nat) (hF : t.length + 1 ≤ F) : croftplain_Ints.f F t t = some true := by
  unfold croftplain_Ints.f
  rw [if_pos rfl]
  have := ints_loop t hn t.length (F - t.length - 1) 0 (by omega) (by omega)
  rw [show t.length + (F - t.length - 1) + 1 = F by omega] at this
  exact this
end Go.Proofs.Ytgepbfcaimejmaa.NearP
