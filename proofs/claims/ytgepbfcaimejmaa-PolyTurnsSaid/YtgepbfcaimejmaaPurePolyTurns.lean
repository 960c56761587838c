/-
  The plain half of the law PolyTurns: what its code computes is true, at all numbers of the kinds that come in.
  Conditions: none but the kinds' own bounds.
-/
import Derived.Test.YtgepbfcaimejmaaPolyA
import Derived.Test.YtgepbfcaimejmaaPAx11
namespace Go.Proofs.Ytgepbfcaimejmaa.Pure
open Go.RowKit Go.Proofs.Ytgepbfcaimejmaa.PA Go.Proofs.YtgepbfcaimejmaaW.PrintWords Go.Proofs.YtgepbfcaimejmaaW.PrintLast Nums MulA WideA PolyA

theorem PolyTurns : croftlaw34_PolyTurns.Pure := by
  intro ai ax ay ad bi bx by_ bd ci cx cy cd _ w1 w2 _ w4 w5 _ w7 w8
  have w1 := wf_u32 w1
  have w2 := wf_u32 w2
  have w4 := wf_u32 w4
  have w5 := wf_u32 w5
  have w7 := wf_u32 w7
  have w8 := wf_u32 w8
  refine ⟨17, ?_⟩
  unfold croftlaw34_PolyTurns.f
  have hc := cut_eq 0 [(⟨ai, ax, ay, ad⟩ : S24), ⟨bi, bx, by_, bd⟩, ⟨ci, cx, cy, cd⟩] (by
    intro p hp
    simp at hp
    rcases hp with rfl | rfl | rfl <;> simp <;> omega)
  rw [alive34 14, turn_eq 14 ai ax ay ad bi bx by_ bd ci cx cy cd w1.1 w1.2 w2.1 w2.2 w4.1 w4.2 w5.1 w5.2 w7.1 w7.2 w8.1 w8.2, hc]
  have h0 : rd_T24 (List.map sm (List.take 16 [(⟨ai, ax, ay, ad⟩ : S24), ⟨bi, bx, by_, bd⟩, ⟨ci, cx, cy, cd⟩])) 0 = ⟨ai, ax % 1048576, ay % 1048576, ⟨#[]⟩⟩ := rfl
  have h1 : rd_T24 (List.map sm (List.take 16 [(⟨ai, ax, ay, ad⟩ : S24), ⟨bi, bx, by_, bd⟩, ⟨ci, cx, cy, cd⟩])) 1 = ⟨bi, bx % 1048576, by_ % 1048576, ⟨#[]⟩⟩ := rfl
  have h2 : rd_T24 (List.map sm (List.take 16 [(⟨ai, ax, ay, ad⟩ : S24), ⟨bi, bx, by_, bd⟩, ⟨ci, cx, cy, cd⟩])) 2 = ⟨ci, cx % 1048576, cy % 1048576, ⟨#[]⟩⟩ := rfl
  have hlen : (List.map sm (List.take 16 [(⟨ai, ax, ay, ad⟩ : S24), ⟨bi, bx, by_, bd⟩, ⟨ci, cx, cy, cd⟩])).length = 3 := rfl
  simp only [Option.bind_some, if_true, h0, h1, h2, hlen]
  rw [if_pos (by omega), if_pos (by omega), if_pos (by omega)]
  rw [turn_eq 14 ai _ _ _ bi _ _ _ ci _ _ _ (by omega) (by omega) (by omega) (by omega) (by omega) (by omega) (by omega) (by omega) (by omega) (by omega) (by omega) (by omega)]
  rw [refturn_eq ai ax ay ad bi bx by_ bd ci cx cy cd w1.1 w2.1 w4.1 w5.1 w7.1 w8.1]
  simp only [Option.bind_some, if_true]
  rw [turn_eq 14 bi bx by_ bd ai ax ay ad ci cx cy cd w4.1 w4.2 w5.1 w5.2 w1.1 w1.2 w2.1 w2.2 w7.1 w7.2 w8.1 w8.2]
  rw [turn_eq 14 bi bx by_ bd ci cx cy cd ai ax ay ad w4.1 w4.2 w5.1 w5.2 w7.1 w7.2 w8.1 w8.2 w1.1 w1.2 w2.1 w2.2]
  rw [turn_eq 14 ai ax ay ad bi bx by_ bd ai ax ay ad w1.1 w1.2 w2.1 w2.2 w4.1 w4.2 w5.1 w5.2 w1.1 w1.2 w2.1 w2.2]
  have e1 : cr bx by_ ax ay cx cy = -cr ax ay bx by_ cx cy := by unfold cr; grind
  have e2 : cr bx by_ cx cy ax ay = cr ax ay bx by_ cx cy := by unfold cr; grind
  have e3 : cr ax ay bx by_ ax ay = 0 := by unfold cr; simp
  rw [e1, e2, e3, sgn_neg]
  have hs : -1 ≤ sgn (cr ax ay bx by_ cx cy) ∧ sgn (cr ax ay bx by_ cx cy) ≤ 1 := by
    rcases sgn_cases (cr ax ay bx by_ cx cy) with h | h | h <;> omega
  rw [w64_in _ (by omega) (by omega)]
  simp [sgn]
end Go.Proofs.Ytgepbfcaimejmaa.Pure
