/-
  The law RectCovers, for every input that its row speaks of: the Go function returns true, and what came in reads as before.
  Conditions: none but the row's own.
-/
import Derived.Test.YtjlkkipickeebaaRows
import Derived.Test.YtjlkkipickeebaaPCx6
import Derived.Test.YtjlkkipickeebaaPureRectCovers
import Derived.Test.YtjlkkipickeebaaOpen
import Derived.WalkKit
import Derived.ProofKit
import Derived.OpenShut
import Derived.ShutString
import Derived.ChangeOld
import Derived.Below
import Derived.SizedLaws
import Derived.Test.YtjlkkipickeebaaWSized
namespace Go.Proofs.Ytjlkkipickeebaa.rectCovers
open Go.ChangeShapes Go.WideShapes Go.ChangeAt Go.RowKit Go.Proofs.YtjlkkipickeebaaW.PrintWords Go.Proofs.YtjlkkipickeebaaW.PrintLast Opening PC
open Go.ChangeMaps (open_string shut_string)
set_option linter.unusedVariables false
theorem own : ownKnob Try.prog.godebug = none := by kernel_rfl
theorem laidOut : laidOutB Try.prog = true := by kernel_rfl
theorem open_S52 {H : Type} {enc : TypeId × Value → H} {w : World} {base : Nat} {spare : Nat → Bool} {held : Bool} {fuel : Nat} {cs : List Value} {x : DataW H × List MemPlace}
    (h : DataW.trod enc Try.prog w base spare held fuel 52 cs = some x) : ∃ (b0 : Int) (b1 : Int) (b2 : Int) (b3 : ByteArray), ((Lit.int .i64 b0).wf = true ∧ (Lit.int .u32 b1).wf = true ∧ (Lit.int .u32 b2).wf = true) ∧ cs = [.int .i64 b0, .int .u32 b1, .int .u32 b2, .string b3] := by
  obtain ⟨xs, n, _, _, hlen, hxl, hg⟩ := DataW.trod_struct Try.underlying52 h
  have hc : cs.length = 4 := hlen.trans (by kernel_rfl)
  match cs, hc, xs, hxl with
  | [c0, c1, c2, c3], _, [y0, y1, y2, y3], _ =>
    have g0 : DataW.trod enc Try.prog w base spare held n 3 [c0] = some y0 := by
      have z := hg 0 _ rfl
      simpa [show Try.prog.cellsOf 3 = 1 from by kernel_rfl] using z
    obtain ⟨b0, e0, _, w0⟩ := DataW.trod_int Try.underlying3 g0
    simp only [List.cons.injEq, and_true] at e0
    subst e0
    have g1 : DataW.trod enc Try.prog w base spare held n 22 [c1] = some y1 := by
      have z := hg 1 _ rfl
      simpa [show Try.prog.cellsOf 22 = 1 from by kernel_rfl] using z
    obtain ⟨b1, e1, _, w1⟩ := DataW.trod_int Try.underlying22 g1
    simp only [List.cons.injEq, and_true] at e1
    subst e1
    have g2 : DataW.trod enc Try.prog w base spare held n 22 [c2] = some y2 := by
      have z := hg 2 _ rfl
      simpa [show Try.prog.cellsOf 22 = 1 from by kernel_rfl] using z
    obtain ⟨b2, e2, _, w2⟩ := DataW.trod_int Try.underlying22 g2
    simp only [List.cons.injEq, and_true] at e2
    subst e2
    have g3 : DataW.trod enc Try.prog w base spare held n 9 [c3] = some y3 := by
      have z := hg 3 _ rfl
      simpa [show Try.prog.cellsOf 9 = 1 from by kernel_rfl] using z
    obtain ⟨b3, e3, _, _⟩ := DataW.trod_string Try.underlying9 g3
    simp only [List.cons.injEq, and_true] at e3
    subst e3
    exact ⟨b0, b1, b2, b3, ⟨w0, w1, w2⟩, rfl⟩
set_option maxRecDepth 100000 in
theorem lifted (os : Os) (started : os.Started) (H : Type) (enc : TypeId × Value → H) :
    ReturnsInHanded {} Try.checked os 8 .any (Rows.rectCoversSpec.pre6 enc Try.prog Try.f8 Rows.rectCoversRow.domain false) (Rows.rectCoversSpec.post enc Try.prog Try.f8 false true false false) := by
  refine returnsInHanded_of_change_sized (C := Try.checked) own started (by kernel_rfl) Try.func8
    (ChangeSpec.witness6 (enc := enc) (C := Try.checked) false ⟨#[], #[.slice none 0 0], []⟩ 8 (by kernel_rfl) (by kernel_rfl) (by kernel_rfl) (by kernel_rfl)) ?_
  intro W base args ds gs before hval0 hW hcnd hsz0 _
  have hsz : (DataW.weightsEach Try.prog (Try.f8.params.toList ++ Rows.rectCoversSpec.plain.varTypes Try.prog) (ds ++ gs)).all (· ≤ reachBytes) = true := hsz0
  have hval : ∀ (j : Nat) t v, Try.f8.params[j]? = some t → args[j]? = some v → Value.okWide Try.prog W .any base t v := hval0
  have hW' := hW
  obtain ⟨p, q, hA0, hV, rfl, hfz, hnd⟩ := hW
  have hA : DataW.TrodAll enc Try.prog W 0 (fun _ => true) true Try.f8.params.toList args.toList ds p := hA0
  rw [Try.params8] at hA hval hsz
  obtain ⟨v0, vs0, d0, ds0, p0, q0, hargs, rfl, rfl, h0, r0⟩ := trodAll_cons hA
  obtain ⟨rfl, rfl, rfl⟩ := trodAll_nil r0
  obtain rfl : args = #[v0] := by cases args; simp_all
  obtain ⟨rfl, rfl⟩ := trodVars_none hV
  obtain ⟨x0, len0, cap0, rfl⟩ := okWide_slice Try.underlying46 (hval 0 46 v0 rfl rfl)
  have k0 := h0
  have lt0 : ∀ x ∈ p0, x.block < W.heap.size := by obtain ⟨m, hm⟩ := k0; exact DataW.trod_lt m _ _ _ hm
  have y0 : len0 * 32 ≤ 140737488351232 := sized_any hsz (j := 0) (t := 46) rfl rfl Try.underlying46 (by kernel_rfl) h0
  obtain ⟨l0, rfl, hr0, hm0, hw0, hc0⟩ := slice_structs (kd := k52) (fun s => (Lit.int .i64 s.f0).wf = true ∧ (Lit.int .u32 s.f1).wf = true ∧ (Lit.int .u32 s.f2).wf = true) Try.underlying46 (by kernel_rfl) (fun _ _ _ h => by obtain ⟨b0, b1, b2, b3, hs, rfl⟩ := open_S52 h; exact ⟨⟨b0, b1, b2, b3⟩, hs, k52_mk _ ⟨b0, b1, b2, b3⟩⟩) h0
  clear hA0 hval0 hsz0 hsz
  obtain ⟨k, h⟩ := Pure.RectCovers l0 hm0 y0 hw0
  refine (croftlaw06_RectCovers.calls k x0 cap0 l0 true W hr0 hc0 rfl h).mono fun e W' ⟨he, bel0⟩ => ?_
  have bel : Below W.heap.size W W' := bel0
  subst he
  exact ⟨_, rfl, _, _, _, [], _, [], hW', trodAll_mk1 (shut_bool Try.underlying4 _), (trodAll_cons_mk (Below.trod laidOut (by kernel_rfl) (of_decide_eq_true (by kernel_rfl)) k0 bel lt0) trodAll_mk0), rfl, bel.frame _, fun h => by cases h⟩
theorem over : Rows.rectCoversRow.holds Try.pinned (OpenSpec.ofChange Rows.rectCoversSpec) :=
  OpenClaim.holds_of_wide 8 Try.f8 rfl rfl rfl rfl rfl rfl rfl ⟨rfl, rfl, rfl, rfl, rfl⟩ rfl rfl rfl rfl rfl (by kernel_rfl) Try.func8 (by kernel_rfl)
    (of_decide_eq_true (by kernel_rfl)) (by unfold Func.isWrapper; first | (rw [if_pos (by decide +kernel)]; kernel_rfl) | (rw [if_neg (by decide +kernel)]; exact ⟨rfl, rfl⟩))
    (fun os started H enc _ => lifted os started H enc)
theorem proved : Rows.RectCoversSaid := over
#print axioms proved
end Go.Proofs.Ytjlkkipickeebaa.rectCovers
namespace Go.Proofs.Ytjlkkipickeebaa
/-- The row, under a short name, for the claim. -/
theorem rectCovers_holds : Rows.RectCoversSaid := rectCovers.proved
end Go.Proofs.Ytjlkkipickeebaa
