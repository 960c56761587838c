/-
  The plain half of the law VictimOrders: what its code computes is true, at all numbers of the kinds that come in.
  Conditions: none but the kinds' own bounds.
-/
import Derived.Test.YtjlkkipickeebaaPAx8
import Derived.Test.YtjlkkipickeebaaBetA
namespace Go.Proofs.Ytjlkkipickeebaa.Pure
open Go.RowKit Go.Proofs.Ytjlkkipickeebaa.PA Go.Proofs.YtjlkkipickeebaaW.PrintWords Go.Proofs.YtjlkkipickeebaaW.PrintLast Nums MulA BetA

theorem size_64 (a : Int) : ∃ s, wrap64 (1 + (Int.tmod (wrap64 ((Int.tmod a 64) + 64)) 64)) = s ∧ 1 ≤ s ∧ s ≤ 64 := by
  have b1 : -64 < Int.tmod a 64 := Int.lt_tmod_of_pos a (by omega)
  have b2 : Int.tmod a 64 < 64 := Int.tmod_lt_of_pos a (by omega)
  rw [w64_in (Int.tmod a 64 + 64) (by omega) (by omega), tmod_pos _ _ (by omega), w64_in _ (by omega) (by omega)]
  exact ⟨_, rfl, by omega, by omega⟩

theorem VictimOrders : croftlaw27_VictimOrders.Pure := by
  intro a0 la aa lb ab lc ac _ _ _ _ _ _ _
  refine ⟨1, ?_⟩
  obtain ⟨s, hs, s0, s1⟩ := size_64 a0
  unfold croftlaw27_VictimOrders.f
  rw [alive_true, hs]
  simp only [Option.bind_some, if_true, croftlaw27_VictimOrders.j0]
  rw [better_eq, better_eq, better_eq, better_eq, better_eq]
  rw [cl_id s 0 1024 (by omega) (by omega)]
  have A := cl_lo la 0 1024 (by omega)
  have B := cl_lo lb 0 1024 (by omega)
  have C := cl_lo lc 0 1024 (by omega)
  generalize hx : worth s (cl la 0 1024) (cl aa 1 4294967296) = x
  generalize hy : worth s (cl lb 0 1024) (cl ab 1 4294967296) = y
  generalize hz : worth s (cl lc 0 1024) (cl ac 1 4294967296) = z
  generalize cl la 0 1024 = p at *
  generalize cl lb 0 1024 = q at *
  generalize cl lc 0 1024 = r at *
  have ht := more_trans x y z (s + p) (s + q) (s + r) (by omega) (by omega) (by omega)
  have n1 : decide (x * (s + p) < x * (s + p)) = false := by simp
  simp only [Option.bind_some, n1, Bool.false_eq_true, if_false]
  by_cases h1 : y * (s + p) < x * (s + q)
  · have n2 : decide (x * (s + q) < y * (s + p)) = false := by simp; omega
    simp only [h1, decide_true, if_true, n2, Bool.false_eq_true, if_false]
    by_cases h2 : z * (s + q) < y * (s + r)
    · simp only [h2, decide_true, if_true, ht h1 h2]
    · simp only [h2, decide_false, Bool.false_eq_true, if_false]
  · simp only [h1, decide_false, Bool.false_eq_true, if_false]
end Go.Proofs.Ytjlkkipickeebaa.Pure
