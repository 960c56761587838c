/-
  The plain half of the law VictimAges: what its code computes is true, at all numbers of the kinds that come in.
  Conditions: none but the kinds' own bounds.
-/
import Derived.Test.YtjlkkipickeebaaPAx9
import Derived.Test.YtjlkkipickeebaaBetA
namespace Go.Proofs.Ytjlkkipickeebaa.Pure
open Go.RowKit Go.Proofs.Ytjlkkipickeebaa.PA Go.Proofs.YtjlkkipickeebaaW.PrintWords Go.Proofs.YtjlkkipickeebaaW.PrintLast Nums MulA BetA

theorem size_60 (a : Int) : ∃ s, wrap64 (2 + (Int.tmod (wrap64 ((Int.tmod a 60) + 60)) 60)) = s ∧ 2 ≤ s ∧ s ≤ 61 := by
  have b1 : -60 < Int.tmod a 60 := Int.lt_tmod_of_pos a (by omega)
  have b2 : Int.tmod a 60 < 60 := Int.tmod_lt_of_pos a (by omega)
  rw [w64_in (Int.tmod a 60 + 60) (by omega) (by omega), tmod_pos _ _ (by omega), w64_in _ (by omega) (by omega)]
  exact ⟨_, rfl, by omega, by omega⟩
theorem live_of (a s : Int) (h0 : 2 ≤ s) (h1 : s ≤ 61) :
    ∃ l, wrap64 (1 + (Int.tmod (wrap64 ((wrap64 ((Int.tmod a (s - 1)) + s)) - 1)) (s - 1))) = l ∧ 1 ≤ l ∧ l ≤ s - 1 := by
  have b1 : -(s - 1) < Int.tmod a (s - 1) := Int.lt_tmod_of_pos a (by omega)
  have b2 : Int.tmod a (s - 1) < s - 1 := Int.tmod_lt_of_pos a (by omega)
  rw [w64_in (_ + s) (by omega) (by omega), w64_in (_ - 1) (by omega) (by omega), tmod_pos _ _ (by omega)]
  have b3 := Int.emod_nonneg (Int.tmod a (s - 1) + s - 1) (show s - 1 ≠ 0 by omega)
  have b4 := Int.emod_lt_of_pos (Int.tmod a (s - 1) + s - 1) (show 0 < s - 1 by omega)
  rw [w64_in _ (by omega) (by omega)]
  exact ⟨_, rfl, by omega, by omega⟩

theorem VictimAges : croftlaw27_VictimAges.Pure := by
  intro a0 a1 age more _ _ w2 w3
  have w2 := wf_u32 w2
  have w3 := wf_u32 w3
  obtain ⟨s, hs, s0, s1⟩ := size_60 a0
  unfold croftlaw27_VictimAges.f
  rw [alive_true, hs, w64_in (s - 1) (by omega) (by omega)]
  obtain ⟨l, hl, l0, l1⟩ := live_of a1 s s0 s1
  rw [hl, w64_in age (by omega) (by omega), w64_in more (by omega) (by omega), tdiv_pos age 2 (by omega), tdiv_pos more 2 (by omega), w64_in (age / 2) (by omega) (by omega), w64_in (more / 2) (by omega) (by omega)]
  rw [w64_in (age / 2 + 1) (by omega) (by omega), w64_in (age / 2 + 1 + more / 2) (by omega) (by omega), w64_in (age / 2 + 1 + more / 2 + 1) (by omega) (by omega), w64_in (l - 1) (by omega) (by omega)]
  simp only [Option.bind_some, if_true]
  rw [if_neg (by omega), better_eq, better_eq, better_eq, better_eq]
  rw [cl_id s 0 1024 (by omega) (by omega), cl_id l 0 1024 (by omega) (by omega), cl_id (l - 1) 0 1024 (by omega) (by omega), cl_id (age / 2 + 1) 1 4294967296 (by omega) (by omega), cl_id (age / 2 + 1 + more / 2 + 1) 1 4294967296 (by omega) (by omega)]
  unfold worth
  rw [mx_id (s - l) (by omega), mx_id (s - (l - 1)) (by omega), mx_nil (s - s) (by omega)]
  have hb : 1 ≤ age / 2 + 1 := by omega
  have hab : age / 2 + 1 < age / 2 + 1 + more / 2 + 1 := by omega
  generalize age / 2 + 1 + more / 2 + 1 = A at *
  generalize age / 2 + 1 = B at *
  have e1 : (s - l) * B * (s + l) < (s - l) * A * (s + l) := Int.mul_lt_mul_of_pos_right (Int.mul_lt_mul_of_pos_left hab (by omega)) (by omega)
  have e2 : decide ((s - l) * A * (s + l) < (s - l) * B * (s + l)) = false := by simp; omega
  have e3 : (s - l) * B * (s + (l - 1)) < (s - (l - 1)) * B * (s + l) := by
    have a1 : (s - (l - 1)) * B * (s + l) = (s - l) * B * (s + (l - 1)) + ((s - l) * B + B * (s + l)) := by grind
    have a2 : 0 ≤ (s - l) * B := Int.mul_nonneg (by omega) (by omega)
    have a3 : 0 < B * (s + l) := Int.mul_pos (by omega) (by omega)
    omega
  have e4 : 0 * A * (s + l) < (s - l) * B * (s + s) := by
    have a1 : 0 < (s - l) * B := Int.mul_pos (by omega) (by omega)
    have a2 : 0 < (s - l) * B * (s + s) := Int.mul_pos a1 (by omega)
    simpa using a2
  simp only [Option.bind_some, e1, e2, e3, e4, decide_true, if_true, Bool.false_eq_true, if_false]
end Go.Proofs.Ytjlkkipickeebaa.Pure
