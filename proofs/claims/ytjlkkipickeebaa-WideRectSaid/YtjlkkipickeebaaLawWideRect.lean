/-
  The law WideRect, for every input that its row speaks of: the Go function returns true, and what came in reads as before.
  Conditions: none but the row's own.
-/
import Derived.Test.YtjlkkipickeebaaRows
import Derived.Test.YtjlkkipickeebaaPBx10
import Derived.Test.YtjlkkipickeebaaPureWideRect
import Derived.Test.YtjlkkipickeebaaOpen
import Derived.WalkKit
import Derived.ProofKit
import Derived.OpenShut
import Derived.ShutString
import Derived.ChangeOld
import Derived.Below
import Derived.SizedLaws
import Derived.Test.YtjlkkipickeebaaWSized
namespace Go.Proofs.Ytjlkkipickeebaa.wideRect
open Go.ChangeShapes Go.WideShapes Go.ChangeAt Go.RowKit Go.Proofs.YtjlkkipickeebaaW.PrintWords Go.Proofs.YtjlkkipickeebaaW.PrintLast Opening PB
open Go.ChangeMaps (open_string shut_string)
set_option linter.unusedVariables false
theorem own : ownKnob Try.prog.godebug = none := by kernel_rfl
theorem laidOut : laidOutB Try.prog = true := by kernel_rfl
theorem open_S24 {H : Type} {enc : TypeId × Value → H} {w : World} {base : Nat} {spare : Nat → Bool} {held : Bool} {fuel : Nat} {cs : List Value} {x : DataW H × List MemPlace}
    (h : DataW.trod enc Try.prog w base spare held fuel 24 cs = some x) : ∃ (b0 : Int) (b1 : Int) (b2 : Int) (b3 : Int), ((Lit.int .u32 b0).wf = true ∧ (Lit.int .u32 b1).wf = true ∧ (Lit.int .u32 b2).wf = true ∧ (Lit.int .u32 b3).wf = true) ∧ cs = [.int .u32 b0, .int .u32 b1, .int .u32 b2, .int .u32 b3] := by
  obtain ⟨xs, n, _, _, hlen, hxl, hg⟩ := DataW.trod_struct Try.underlying24 h
  have hc : cs.length = 4 := hlen.trans (by kernel_rfl)
  match cs, hc, xs, hxl with
  | [c0, c1, c2, c3], _, [y0, y1, y2, y3], _ =>
    have g0 : DataW.trod enc Try.prog w base spare held n 22 [c0] = some y0 := by
      have z := hg 0 _ rfl
      simpa [show Try.prog.cellsOf 22 = 1 from by kernel_rfl] using z
    obtain ⟨b0, e0, _, w0⟩ := DataW.trod_int Try.underlying22 g0
    simp only [List.cons.injEq, and_true] at e0
    subst e0
    have g1 : DataW.trod enc Try.prog w base spare held n 22 [c1] = some y1 := by
      have z := hg 1 _ rfl
      simpa [show Try.prog.cellsOf 22 = 1 from by kernel_rfl] using z
    obtain ⟨b1, e1, _, w1⟩ := DataW.trod_int Try.underlying22 g1
    simp only [List.cons.injEq, and_true] at e1
    subst e1
    have g2 : DataW.trod enc Try.prog w base spare held n 22 [c2] = some y2 := by
      have z := hg 2 _ rfl
      simpa [show Try.prog.cellsOf 22 = 1 from by kernel_rfl] using z
    obtain ⟨b2, e2, _, w2⟩ := DataW.trod_int Try.underlying22 g2
    simp only [List.cons.injEq, and_true] at e2
    subst e2
    have g3 : DataW.trod enc Try.prog w base spare held n 22 [c3] = some y3 := by
      have z := hg 3 _ rfl
      simpa [show Try.prog.cellsOf 22 = 1 from by kernel_rfl] using z
    obtain ⟨b3, e3, _, w3⟩ := DataW.trod_int Try.underlying22 g3
    simp only [List.cons.injEq, and_true] at e3
    subst e3
    exact ⟨b0, b1, b2, b3, ⟨w0, w1, w2, w3⟩, rfl⟩
set_option maxRecDepth 100000 in
theorem lifted (os : Os) (started : os.Started) (H : Type) (enc : TypeId × Value → H) :
    ReturnsInHanded {} Try.checked os 14 .any (Rows.wideRectSpec.pre6 enc Try.prog Try.f14 Rows.wideRectRow.domain false) (Rows.wideRectSpec.post enc Try.prog Try.f14 false true false false) := by
  refine returnsInHanded_of_change_sized (C := Try.checked) own started (by kernel_rfl) Try.func14
    (ChangeSpec.witness6 (enc := enc) (C := Try.checked) false ⟨#[], #[.int .u32 0, .int .u32 0, .agg #[.int .u32 0, .int .u32 0, .int .u32 0, .int .u32 0], .int .u32 0, .int .u32 0], []⟩ 8 (by kernel_rfl) (by kernel_rfl) (by kernel_rfl) (by kernel_rfl)) ?_
  intro W base args ds gs before hval0 hW hcnd hsz0 _
  have hsz : (DataW.weightsEach Try.prog (Try.f14.params.toList ++ Rows.wideRectSpec.plain.varTypes Try.prog) (ds ++ gs)).all (· ≤ reachBytes) = true := hsz0
  have hval : ∀ (j : Nat) t v, Try.f14.params[j]? = some t → args[j]? = some v → Value.okWide Try.prog W .any base t v := hval0
  have hW' := hW
  obtain ⟨p, q, hA0, hV, rfl, hfz, hnd⟩ := hW
  have hA : DataW.TrodAll enc Try.prog W 0 (fun _ => true) true Try.f14.params.toList args.toList ds p := hA0
  rw [Try.params14] at hA hval hsz
  obtain ⟨v0, vs0, d0, ds0, p0, q0, hargs, rfl, rfl, h0, r0⟩ := trodAll_cons hA
  obtain ⟨v1, vs1, d1, ds1, p1, q1, rfl, rfl, rfl, h1, r1⟩ := trodAll_cons r0
  obtain ⟨v2, vs2, d2, ds2, p2, q2, rfl, rfl, rfl, h2, r2⟩ := trodAll_cons r1
  obtain ⟨v3, vs3, d3, ds3, p3, q3, rfl, rfl, rfl, h3, r3⟩ := trodAll_cons r2
  obtain ⟨v4, vs4, d4, ds4, p4, q4, rfl, rfl, rfl, h4, r4⟩ := trodAll_cons r3
  obtain ⟨rfl, rfl, rfl⟩ := trodAll_nil r4
  obtain rfl : args = #[v0, v1, v2, v3, v4] := by cases args; simp_all
  obtain ⟨rfl, rfl⟩ := trodVars_none hV
  obtain ⟨a0, rfl, rfl, rfl, w0⟩ := open_int Try.underlying22 (hval 0 22 v0 rfl rfl) h0
  obtain ⟨a1, rfl, rfl, rfl, w1⟩ := open_int Try.underlying22 (hval 1 22 v1 rfl rfl) h1
  obtain ⟨cs2, rfl, _⟩ := okWide_struct Try.underlying24 (hval 2 24 v2 rfl rfl)
  have k2 := h2
  have lt2 : ∀ x ∈ p2, x.block < W.heap.size := by obtain ⟨m, hm⟩ := k2; exact DataW.trod_lt m _ _ _ hm
  obtain ⟨fuel2, hf2⟩ := h2
  obtain ⟨cs2⟩ := cs2
  obtain ⟨a2_0, a2_1, a2_2, a2_3, hs2, he2⟩ := open_S24 (cs := cs2) (by simpa [Value.cells] using hf2)
  subst he2
  obtain ⟨w2_0, w2_1, w2_2, w2_3⟩ := hs2
  obtain ⟨a3, rfl, rfl, rfl, w3⟩ := open_int Try.underlying22 (hval 3 22 v3 rfl rfl) h3
  obtain ⟨a4, rfl, rfl, rfl, w4⟩ := open_int Try.underlying22 (hval 4 22 v4 rfl rfl) h4
  clear hA0 hval0 hsz0 hsz
  obtain ⟨k, h⟩ := Pure.WideRect a0 a1 a2_0 a2_1 a2_2 a2_3 a3 a4 w0 w1 w2_0 w2_1 w2_2 w2_3 w3 w4
  refine (croftlaw03_WideRect.calls k a0 a1 a2_0 a2_1 a2_2 a2_3 a3 a4 true W  rfl h).mono fun e W' ⟨he, bel0⟩ => ?_
  have bel : Below W.heap.size W W' := bel0
  subst he
  exact ⟨_, rfl, _, _, _, [], _, [], hW', trodAll_mk1 (shut_bool Try.underlying4 _), (trodAll_cons_mk (shut_int Try.underlying22 w0) (trodAll_cons_mk (shut_int Try.underlying22 w1) (trodAll_cons_mk (Below.trod laidOut (by kernel_rfl) (of_decide_eq_true (by kernel_rfl)) k2 bel lt2) (trodAll_cons_mk (shut_int Try.underlying22 w3) (trodAll_cons_mk (shut_int Try.underlying22 w4) trodAll_mk0))))), rfl, bel.frame _, fun h => by cases h⟩
theorem over : Rows.wideRectRow.holds Try.pinned (OpenSpec.ofChange Rows.wideRectSpec) :=
  OpenClaim.holds_of_wide 14 Try.f14 rfl rfl rfl rfl rfl rfl rfl ⟨rfl, rfl, rfl, rfl, rfl⟩ rfl rfl rfl rfl rfl (by kernel_rfl) Try.func14 (by kernel_rfl)
    (of_decide_eq_true (by kernel_rfl)) (by unfold Func.isWrapper; first | (rw [if_pos (by decide +kernel)]; kernel_rfl) | (rw [if_neg (by decide +kernel)]; exact ⟨rfl, rfl⟩))
    (fun os started H enc _ => lifted os started H enc)
theorem proved : Rows.WideRectSaid := over
#print axioms proved
end Go.Proofs.Ytjlkkipickeebaa.wideRect
namespace Go.Proofs.Ytjlkkipickeebaa
/-- The row, under a short name, for the claim. -/
theorem wideRect_holds : Rows.WideRectSaid := wideRect.proved
end Go.Proofs.Ytjlkkipickeebaa
