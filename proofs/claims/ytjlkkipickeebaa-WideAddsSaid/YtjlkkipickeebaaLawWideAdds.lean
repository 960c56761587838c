/-
  The law WideAdds, for every input that its row speaks of: the Go function returns true, and what came in reads as before.
  Conditions: none but the row's own.
-/
import Derived.Test.YtjlkkipickeebaaRows
import Derived.Test.YtjlkkipickeebaaPBx4
import Derived.Test.YtjlkkipickeebaaPureWideAdds
import Derived.Test.YtjlkkipickeebaaOpen
import Derived.WalkKit
import Derived.ProofKit
import Derived.OpenShut
import Derived.ShutString
import Derived.ChangeOld
import Derived.Below
import Derived.SizedLaws
import Derived.Test.YtjlkkipickeebaaWSized
namespace Go.Proofs.Ytjlkkipickeebaa.wideAdds
open Go.ChangeShapes Go.WideShapes Go.ChangeAt Go.RowKit Go.Proofs.YtjlkkipickeebaaW.PrintWords Go.Proofs.YtjlkkipickeebaaW.PrintLast Opening PB
open Go.ChangeMaps (open_string shut_string)
set_option linter.unusedVariables false
theorem own : ownKnob Try.prog.godebug = none := by kernel_rfl
theorem laidOut : laidOutB Try.prog = true := by kernel_rfl
theorem open_S59 {H : Type} {enc : TypeId × Value → H} {w : World} {base : Nat} {spare : Nat → Bool} {held : Bool} {fuel : Nat} {cs : List Value} {x : DataW H × List MemPlace}
    (h : DataW.trod enc Try.prog w base spare held fuel 59 cs = some x) : ∃ (b0 : Int) (b1 : Int), ((Lit.int .u64 b0).wf = true ∧ (Lit.int .u64 b1).wf = true) ∧ cs = [.int .u64 b0, .int .u64 b1] := by
  obtain ⟨xs, n, _, _, hlen, hxl, hg⟩ := DataW.trod_struct Try.underlying59 h
  have hc : cs.length = 2 := hlen.trans (by kernel_rfl)
  match cs, hc, xs, hxl with
  | [c0, c1], _, [y0, y1], _ =>
    have g0 : DataW.trod enc Try.prog w base spare held n 26 [c0] = some y0 := by
      have z := hg 0 _ rfl
      simpa [show Try.prog.cellsOf 26 = 1 from by kernel_rfl] using z
    obtain ⟨b0, e0, _, w0⟩ := DataW.trod_int Try.underlying26 g0
    simp only [List.cons.injEq, and_true] at e0
    subst e0
    have g1 : DataW.trod enc Try.prog w base spare held n 26 [c1] = some y1 := by
      have z := hg 1 _ rfl
      simpa [show Try.prog.cellsOf 26 = 1 from by kernel_rfl] using z
    obtain ⟨b1, e1, _, w1⟩ := DataW.trod_int Try.underlying26 g1
    simp only [List.cons.injEq, and_true] at e1
    subst e1
    exact ⟨b0, b1, ⟨w0, w1⟩, rfl⟩
set_option maxRecDepth 100000 in
theorem lifted (os : Os) (started : os.Started) (H : Type) (enc : TypeId × Value → H) :
    ReturnsInHanded {} Try.checked os 10 .any (Rows.wideAddsSpec.pre6 enc Try.prog Try.f10 Rows.wideAddsRow.domain false) (Rows.wideAddsSpec.post enc Try.prog Try.f10 false true false false) := by
  refine returnsInHanded_of_change_sized (C := Try.checked) own started (by kernel_rfl) Try.func10
    (ChangeSpec.witness6 (enc := enc) (C := Try.checked) false ⟨#[], #[.agg #[.int .u64 0, .int .u64 0], .agg #[.int .u64 0, .int .u64 0]], []⟩ 8 (by kernel_rfl) (by kernel_rfl) (by kernel_rfl) (by kernel_rfl)) ?_
  intro W base args ds gs before hval0 hW hcnd hsz0 _
  have hsz : (DataW.weightsEach Try.prog (Try.f10.params.toList ++ Rows.wideAddsSpec.plain.varTypes Try.prog) (ds ++ gs)).all (· ≤ reachBytes) = true := hsz0
  have hval : ∀ (j : Nat) t v, Try.f10.params[j]? = some t → args[j]? = some v → Value.okWide Try.prog W .any base t v := hval0
  have hW' := hW
  obtain ⟨p, q, hA0, hV, rfl, hfz, hnd⟩ := hW
  have hA : DataW.TrodAll enc Try.prog W 0 (fun _ => true) true Try.f10.params.toList args.toList ds p := hA0
  rw [Try.params10] at hA hval hsz
  obtain ⟨v0, vs0, d0, ds0, p0, q0, hargs, rfl, rfl, h0, r0⟩ := trodAll_cons hA
  obtain ⟨v1, vs1, d1, ds1, p1, q1, rfl, rfl, rfl, h1, r1⟩ := trodAll_cons r0
  obtain ⟨rfl, rfl, rfl⟩ := trodAll_nil r1
  obtain rfl : args = #[v0, v1] := by cases args; simp_all
  obtain ⟨rfl, rfl⟩ := trodVars_none hV
  obtain ⟨cs0, rfl, _⟩ := okWide_struct Try.underlying59 (hval 0 59 v0 rfl rfl)
  have k0 := h0
  have lt0 : ∀ x ∈ p0, x.block < W.heap.size := by obtain ⟨m, hm⟩ := k0; exact DataW.trod_lt m _ _ _ hm
  obtain ⟨fuel0, hf0⟩ := h0
  obtain ⟨cs0⟩ := cs0
  obtain ⟨a0_0, a0_1, hs0, he0⟩ := open_S59 (cs := cs0) (by simpa [Value.cells] using hf0)
  subst he0
  obtain ⟨w0_0, w0_1⟩ := hs0
  obtain ⟨cs1, rfl, _⟩ := okWide_struct Try.underlying59 (hval 1 59 v1 rfl rfl)
  have k1 := h1
  have lt1 : ∀ x ∈ p1, x.block < W.heap.size := by obtain ⟨m, hm⟩ := k1; exact DataW.trod_lt m _ _ _ hm
  obtain ⟨fuel1, hf1⟩ := h1
  obtain ⟨cs1⟩ := cs1
  obtain ⟨a1_0, a1_1, hs1, he1⟩ := open_S59 (cs := cs1) (by simpa [Value.cells] using hf1)
  subst he1
  obtain ⟨w1_0, w1_1⟩ := hs1
  clear hA0 hval0 hsz0 hsz
  obtain ⟨k, h⟩ := Pure.WideAdds a0_0 a0_1 a1_0 a1_1 w0_0 w0_1 w1_0 w1_1
  refine (croftlaw03_WideAdds.calls k a0_0 a0_1 a1_0 a1_1 true W  rfl h).mono fun e W' ⟨he, bel0⟩ => ?_
  have bel : Below W.heap.size W W' := bel0
  subst he
  exact ⟨_, rfl, _, _, _, [], _, [], hW', trodAll_mk1 (shut_bool Try.underlying4 _), (trodAll_cons_mk (Below.trod laidOut (by kernel_rfl) (of_decide_eq_true (by kernel_rfl)) k0 bel lt0) (trodAll_cons_mk (Below.trod laidOut (by kernel_rfl) (of_decide_eq_true (by kernel_rfl)) k1 bel lt1) trodAll_mk0)), rfl, bel.frame _, fun h => by cases h⟩
theorem over : Rows.wideAddsRow.holds Try.pinned (OpenSpec.ofChange Rows.wideAddsSpec) :=
  OpenClaim.holds_of_wide 10 Try.f10 rfl rfl rfl rfl rfl rfl rfl ⟨rfl, rfl, rfl, rfl, rfl⟩ rfl rfl rfl rfl rfl (by kernel_rfl) Try.func10 (by kernel_rfl)
    (of_decide_eq_true (by kernel_rfl)) (by unfold Func.isWrapper; first | (rw [if_pos (by decide +kernel)]; kernel_rfl) | (rw [if_neg (by decide +kernel)]; exact ⟨rfl, rfl⟩))
    (fun os started H enc _ => lifted os started H enc)
theorem proved : Rows.WideAddsSaid := over
#print axioms proved
end Go.Proofs.Ytjlkkipickeebaa.wideAdds
namespace Go.Proofs.Ytjlkkipickeebaa
/-- The row, under a short name, for the claim. -/
theorem wideAdds_holds : Rows.WideAddsSaid := wideAdds.proved
end Go.Proofs.Ytjlkkipickeebaa
