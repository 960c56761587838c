/-
  The plain half of the law WideAdds: what its code computes is true, at all numbers of the kinds that come in.
  Conditions: none but the kinds' own bounds.
-/
import Derived.Test.YtjlkkipickeebaaWideB
import Derived.Test.YtjlkkipickeebaaPBx4
namespace Go.Proofs.Ytjlkkipickeebaa.Pure
open Go.RowKit Go.Proofs.Ytjlkkipickeebaa.PB Go.Proofs.YtjlkkipickeebaaW.PrintWords Go.Proofs.YtjlkkipickeebaaW.PrintLast Nums MulB WideB

theorem alive03 (k : Nat) : croftlaw03_alive.f (k + 3) = some true := by
  unfold croftlaw03_alive.f
  rw [between_eq k 0 0 3 4 (by omega) (by omega) (by omega) (by omega) (by omega) (by omega) (by omega) (by omega)]
  rfl

theorem WideAdds : croftlaw03_WideAdds.Pure := by
  intro a b c d w0 w1 w2 w3
  have w0 := wf_u64 w0
  have w1 := wf_u64 w1
  have w2 := wf_u64 w2
  have w3 := wf_u64 w3
  refine ⟨3, ?_⟩
  unfold croftlaw03_WideAdds.f
  rw [alive03, add_eq a b c d w0.1 w1.1 w2.1 w3.1 w1.2 w3.2, add_eq c d a b w2.1 w3.1 w0.1 w1.1 w3.2 w1.2]
  simp only [Option.bind_some, if_true, u64_wrap]
  rw [show (c + a + (d + b) / 18446744073709551616) % 18446744073709551616 = (a + c + (b + d) / 18446744073709551616) % 18446744073709551616 from by omega, show (d + b) % 18446744073709551616 = (b + d) % 18446744073709551616 from by omega]
  by_cases h : (b + d) % 18446744073709551616 < b
  · have e : ((a + c) % 18446744073709551616 + 1) % 18446744073709551616 = (a + c + (b + d) / 18446744073709551616) % 18446744073709551616 := by omega
    rw [if_pos h, e]
    simp
  · have e : (a + c) % 18446744073709551616 = (a + c + (b + d) / 18446744073709551616) % 18446744073709551616 := by omega
    rw [if_neg h, e]
    simp
end Go.Proofs.Ytjlkkipickeebaa.Pure
