-- Printed by a program of this session (wip/tools), out of the translation: Lean checks it.
import Derived.Test.YtjlkkipickeebaaPRx0
import Derived.Test.YtjlkkipickeebaaPRx1
import Derived.Test.YtjlkkipickeebaaPRx2
import Derived.Test.YtjlkkipickeebaaPRx3
import Derived.Test.YtjlkkipickeebaaPRx4
import Derived.Test.YtjlkkipickeebaaFnval
namespace Go.Proofs.Ytjlkkipickeebaa.PR
open Go.RowKit Go.Proofs.YtjlkkipickeebaaW.PrintWords Go.Proofs.YtjlkkipickeebaaW.PrintLast Go.Proofs.YtjlkkipickeebaaW.PrintMore
attribute [local go_sem] max2_int min2_int max_two min_two max_three min_three max_four min_four   -- for this text's walks alone
set_option linter.unusedVariables false
set_option linter.unusedSimpArgs false

attribute [local go_sem high] eqA24
/-! ### croftlaw06_RectTells: function 9 -/
mutual
def croftlaw06_RectTells.j0 : Nat → Bool → Int → Int → Int → Int → Int → Int → Int → Int → Int → Int → Int → Int → Option (Bool)
  | 0, _, _, _, _, _, _, _, _, _, _, _, _, _ => none
  | k + 1, x51, x147000, x147001, x147002, x147003, x148000, x148001, x148002, x148003, x154000, x154001, x154002, x154003 => if x51 = true then (some false) else ((croftlaw06_RectTells_1.f x147000 x147001 x147002 x147003).bind fun t161 => (if t161 = true then (croftlaw06_RectTells.j1 k false x147000 x147001 x147002 x147003 x148000 x148001 x148002 x148003 x154000 x154001 x154002 x154003) else ((croftlaw06_RectTells_1.f x148000 x148001 x148002 x148003).bind fun t162 => (if t162 = true then (croftlaw06_RectTells.j1 k false x147000 x147001 x147002 x147003 x148000 x148001 x148002 x148003 x154000 x154001 x154002 x154003) else (if x147000 ≤ x148002 then (if x148000 ≤ x147002 then (if x147001 ≤ x148003 then (croftlaw06_RectTells.j1 k (decide (x148001 ≤ x147003)) x147000 x147001 x147002 x147003 x148000 x148001 x148002 x148003 x154000 x154001 x154002 x154003) else (croftlaw06_RectTells.j1 k false x147000 x147001 x147002 x147003 x148000 x148001 x148002 x148003 x154000 x154001 x154002 x154003)) else (croftlaw06_RectTells.j1 k false x147000 x147001 x147002 x147003 x148000 x148001 x148002 x148003 x154000 x154001 x154002 x154003)) else (croftlaw06_RectTells.j1 k false x147000 x147001 x147002 x147003 x148000 x148001 x148002 x148003 x154000 x154001 x154002 x154003))))))
def croftlaw06_RectTells.j1 : Nat → Bool → Int → Int → Int → Int → Int → Int → Int → Int → Int → Int → Int → Int → Option (Bool)
  | 0, _, _, _, _, _, _, _, _, _, _, _, _, _ => none
  | k + 1, x11, x147000, x147001, x147002, x147003, x148000, x148001, x148002, x148003, x154000, x154001, x154002, x154003 => (croftlaw06_RectTells_1.f x147000 x147001 x147002 x147003).bind fun t163 => (if t163 = true then (croftlaw06_RectTells.j2 k x11 true x147000 x147001 x147002 x147003 x148000 x148001 x148002 x148003 x154000 x154001 x154002 x154003) else ((croftlaw06_RectTells_1.f x148000 x148001 x148002 x148003).bind fun t164 => (if t164 = true then (croftlaw06_RectTells.j2 k x11 false x147000 x147001 x147002 x147003 x148000 x148001 x148002 x148003 x154000 x154001 x154002 x154003) else (if x147000 ≥ x148000 then (if x147002 ≤ x148002 then (if x147001 ≥ x148001 then (croftlaw06_RectTells.j2 k x11 (decide (x147003 ≤ x148003)) x147000 x147001 x147002 x147003 x148000 x148001 x148002 x148003 x154000 x154001 x154002 x154003) else (croftlaw06_RectTells.j2 k x11 false x147000 x147001 x147002 x147003 x148000 x148001 x148002 x148003 x154000 x154001 x154002 x154003)) else (croftlaw06_RectTells.j2 k x11 false x147000 x147001 x147002 x147003 x148000 x148001 x148002 x148003 x154000 x154001 x154002 x154003)) else (croftlaw06_RectTells.j2 k x11 false x147000 x147001 x147002 x147003 x148000 x148001 x148002 x148003 x154000 x154001 x154002 x154003)))))
def croftlaw06_RectTells.j2 : Nat → Bool → Bool → Int → Int → Int → Int → Int → Int → Int → Int → Int → Int → Int → Int → Option (Bool)
  | 0, _, _, _, _, _, _, _, _, _, _, _, _, _, _ => none
  | k + 1, x11, x12, x147000, x147001, x147002, x147003, x148000, x148001, x148002, x148003, x154000, x154001, x154002, x154003 => (rect_Meets.f x147000 x147001 x147002 x147003 x148000 x148001 x148002 x148003).bind fun t165 => (if (t165 == x11) = true then ((rect_Within.f x147000 x147001 x147002 x147003 x148000 x148001 x148002 x148003).bind fun t166 => (if (t166 == x12) = true then (if x11 = true then (some true) else (some (x154000 == 1 && (x154001 == 1 && (x154002 == 0 && (x154003 == 0)))))) else (some false))) else (some false))
end
def croftlaw06_RectTells.f (k : Nat) (a0_0 : Int) (a0_1 : Int) (a0_2 : Int) (a0_3 : Int) (a1_0 : Int) (a1_1 : Int) (a1_2 : Int) (a1_3 : Int) (a2 : Int) (a3 : Int) : Option (Bool) := (croftlaw06_alive.f).bind fun t148 => (if t148 = true then ((rect_Cut.f a0_0 a0_1 a0_2 a0_3 a1_0 a1_1 a1_2 a1_3).bind fun bt149 => ((rect_Has.f a0_0 a0_1 a0_2 a0_3 a2 a3).bind fun t154 => ((croftlaw06_has.f a0_0 a0_1 a0_2 a0_3 a2 a3).bind fun t155 => (if (t154 != t155) = true then (croftlaw06_RectTells.j0 k true a0_0 a0_1 a0_2 a0_3 a1_0 a1_1 a1_2 a1_3 bt149.1 bt149.2.1 bt149.2.2.1 bt149.2.2.2) else ((rect_Empty.f a0_0 a0_1 a0_2 a0_3).bind fun t156 => ((croftlaw06_RectTells_1.f a0_0 a0_1 a0_2 a0_3).bind fun t157 => (if (t156 != t157) = true then (croftlaw06_RectTells.j0 k true a0_0 a0_1 a0_2 a0_3 a1_0 a1_1 a1_2 a1_3 bt149.1 bt149.2.1 bt149.2.2.1 bt149.2.2.2) else ((croftlaw06_has.f bt149.1 bt149.2.1 bt149.2.2.1 bt149.2.2.2 a2 a3).bind fun t158 => ((croftlaw06_has.f a0_0 a0_1 a0_2 a0_3 a2 a3).bind fun t159 => (if t159 = true then ((croftlaw06_has.f a1_0 a1_1 a1_2 a1_3 a2 a3).bind fun t160 => (croftlaw06_RectTells.j0 k (t158 != t160) a0_0 a0_1 a0_2 a0_3 a1_0 a1_1 a1_2 a1_3 bt149.1 bt149.2.1 bt149.2.2.1 bt149.2.2.2)) else (croftlaw06_RectTells.j0 k (t158 != false) a0_0 a0_1 a0_2 a0_3 a1_0 a1_1 a1_2 a1_3 bt149.1 bt149.2.1 bt149.2.2.1 bt149.2.2.2))))))))))) else (some false))
theorem croftlaw06_RectTells.mono_l : ∀ k, (∀ y0 y1 y2 y3 y4 y5 y6 y7 y8 y9 y10 y11 y12, LeO (croftlaw06_RectTells.j0 k y0 y1 y2 y3 y4 y5 y6 y7 y8 y9 y10 y11 y12) (croftlaw06_RectTells.j0 (k + 1) y0 y1 y2 y3 y4 y5 y6 y7 y8 y9 y10 y11 y12)) ∧ (∀ y0 y1 y2 y3 y4 y5 y6 y7 y8 y9 y10 y11 y12, LeO (croftlaw06_RectTells.j1 k y0 y1 y2 y3 y4 y5 y6 y7 y8 y9 y10 y11 y12) (croftlaw06_RectTells.j1 (k + 1) y0 y1 y2 y3 y4 y5 y6 y7 y8 y9 y10 y11 y12)) ∧ (∀ y0 y1 y2 y3 y4 y5 y6 y7 y8 y9 y10 y11 y12 y13, LeO (croftlaw06_RectTells.j2 k y0 y1 y2 y3 y4 y5 y6 y7 y8 y9 y10 y11 y12 y13) (croftlaw06_RectTells.j2 (k + 1) y0 y1 y2 y3 y4 y5 y6 y7 y8 y9 y10 y11 y12 y13))
  | 0 => ⟨fun _ _ _ _ _ _ _ _ _ _ _ _ _ r h => by simp [croftlaw06_RectTells.j0] at h, fun _ _ _ _ _ _ _ _ _ _ _ _ _ r h => by simp [croftlaw06_RectTells.j1] at h, fun _ _ _ _ _ _ _ _ _ _ _ _ _ _ r h => by simp [croftlaw06_RectTells.j2] at h⟩
  | k + 1 => by
    obtain ⟨ih0, ih1, ih2⟩ := croftlaw06_RectTells.mono_l k
    refine ⟨?_, ?_, ?_⟩
    · intro y0 y1 y2 y3 y4 y5 y6 y7 y8 y9 y10 y11 y12
      unfold croftlaw06_RectTells.j0
      repeat' first
      | (with_reducible exact ih0 _ _ _ _ _ _ _ _ _ _ _ _ _)
      | (with_reducible exact ih1 _ _ _ _ _ _ _ _ _ _ _ _ _)
      | (with_reducible exact ih2 _ _ _ _ _ _ _ _ _ _ _ _ _ _)
      | (with_reducible exact LeO.refl _)
      | (with_reducible exact LeO.none _)
      | (with_reducible refine LeO.ite ?_ ?_)
      | (with_reducible refine LeO.bind ?_ (fun _ => ?_))
      | exact ih0 _ _ _ _ _ _ _ _ _ _ _ _ _
      | exact ih1 _ _ _ _ _ _ _ _ _ _ _ _ _
      | exact ih2 _ _ _ _ _ _ _ _ _ _ _ _ _ _
      | exact LeO.none _
      | refine LeO.ite ?_ ?_
      | refine LeO.bind ?_ (fun _ => ?_)
    · intro y0 y1 y2 y3 y4 y5 y6 y7 y8 y9 y10 y11 y12
      unfold croftlaw06_RectTells.j1
      repeat' first
      | (with_reducible exact ih0 _ _ _ _ _ _ _ _ _ _ _ _ _)
      | (with_reducible exact ih1 _ _ _ _ _ _ _ _ _ _ _ _ _)
      | (with_reducible exact ih2 _ _ _ _ _ _ _ _ _ _ _ _ _ _)
      | (with_reducible exact LeO.refl _)
      | (with_reducible exact LeO.none _)
      | (with_reducible refine LeO.ite ?_ ?_)
      | (with_reducible refine LeO.bind ?_ (fun _ => ?_))
      | exact ih0 _ _ _ _ _ _ _ _ _ _ _ _ _
      | exact ih1 _ _ _ _ _ _ _ _ _ _ _ _ _
      | exact ih2 _ _ _ _ _ _ _ _ _ _ _ _ _ _
      | exact LeO.none _
      | refine LeO.ite ?_ ?_
      | refine LeO.bind ?_ (fun _ => ?_)
    · intro y0 y1 y2 y3 y4 y5 y6 y7 y8 y9 y10 y11 y12 y13
      unfold croftlaw06_RectTells.j2
      repeat' first
      | (with_reducible exact ih0 _ _ _ _ _ _ _ _ _ _ _ _ _)
      | (with_reducible exact ih1 _ _ _ _ _ _ _ _ _ _ _ _ _)
      | (with_reducible exact ih2 _ _ _ _ _ _ _ _ _ _ _ _ _ _)
      | (with_reducible exact LeO.refl _)
      | (with_reducible exact LeO.none _)
      | (with_reducible refine LeO.ite ?_ ?_)
      | (with_reducible refine LeO.bind ?_ (fun _ => ?_))
      | exact ih0 _ _ _ _ _ _ _ _ _ _ _ _ _
      | exact ih1 _ _ _ _ _ _ _ _ _ _ _ _ _
      | exact ih2 _ _ _ _ _ _ _ _ _ _ _ _ _ _
      | exact LeO.none _
      | refine LeO.ite ?_ ?_
      | refine LeO.bind ?_ (fun _ => ?_)
theorem croftlaw06_RectTells.mono : ∀ a0 a1 a2 a3 a4 a5 a6 a7 a8 a9 k, LeO (croftlaw06_RectTells.f k a0 a1 a2 a3 a4 a5 a6 a7 a8 a9) (croftlaw06_RectTells.f (k + 1) a0 a1 a2 a3 a4 a5 a6 a7 a8 a9) := by
  intro a0 a1 a2 a3 a4 a5 a6 a7 a8 a9 k
  obtain ⟨ih0, ih1, ih2⟩ := croftlaw06_RectTells.mono_l k
  unfold croftlaw06_RectTells.f
  repeat' first
      | (with_reducible exact ih0 _ _ _ _ _ _ _ _ _ _ _ _ _)
      | (with_reducible exact ih1 _ _ _ _ _ _ _ _ _ _ _ _ _)
      | (with_reducible exact ih2 _ _ _ _ _ _ _ _ _ _ _ _ _ _)
      | (with_reducible exact LeO.refl _)
      | (with_reducible exact LeO.none _)
      | (with_reducible refine LeO.ite ?_ ?_)
      | (with_reducible refine LeO.bind ?_ (fun _ => ?_))
      | exact ih0 _ _ _ _ _ _ _ _ _ _ _ _ _
      | exact ih1 _ _ _ _ _ _ _ _ _ _ _ _ _
      | exact ih2 _ _ _ _ _ _ _ _ _ _ _ _ _ _
      | exact LeO.none _
      | refine LeO.ite ?_ ?_
      | refine LeO.bind ?_ (fun _ => ?_)
def croftlaw06_RectTells.T5 : Bool × List (List Nat × List Nat) := (true, [([], []), ([], []), ([], []), ([0, 1, 2], [0, 1, 2]), ([], []), ([], []), ([], []), ([4, 5, 6, 3], [4, 5, 6]), ([3, 7], [3, 7]), ([8, 7], [8]), ([9], [9]), ([10, 9, 9], [9, 10]), ([9], [9]), ([9], [9]), ([12, 13, 11, 9], [9, 12, 13]), ([11, 14, 9], [9, 11, 14]), ([9, 15], [9, 15]), ([16, 14], [16]), ([17], [17]), ([17], [17]), ([17], [17]), ([18, 19, 20, 17, 17], [17, 18, 19, 20]), ([17], [17]), ([17], [17]), ([17], [17]), ([22, 23, 24, 21, 17], [17, 22, 23, 24]), ([25, 25, 17], [17, 25]), ([26], [26]), ([26], [26]), ([26], [26]), ([27, 28, 29, 26, 26], [26, 27, 28, 29]), ([26, 30, 17], [17, 26, 30]), ([21, 31, 17], [17, 21, 31]), ([17, 32], [17, 32])])
def croftlaw06_RectTells.B5 : List Nat := [0, 0, 0, 7, 0, 0, 0, 127, 255, 511, 1023, 2047, 1023, 1023, 16383, 32767, 65535, 131071, 262143, 262143, 262143, 2097151, 262143, 262143, 262143, 33554431, 67108863, 134217727, 134217727, 134217727, 1073741823, 2147483647, 4294967295, 8589934591]
theorem croftlaw06_RectTells.tab5 : rtab .any (opsOf Try.f9 5) = croftlaw06_RectTells.T5 := by kernel_rfl
theorem croftlaw06_RectTells.bits5 : waitsOk croftlaw06_RectTells.T5.2 croftlaw06_RectTells.B5 = true := by kernel_rfl
set_option maxHeartbeats 8000000 in
set_option maxRecDepth 100000 in
theorem croftlaw06_RectTells.calls (k : Nat) (a0_0 : Int) (a0_1 : Int) (a0_2 : Int) (a0_3 : Int) (a1_0 : Int) (a1_1 : Int) (a1_2 : Int) (a1_3 : Int) (a2 : Int) (a3 : Int) (r : Bool) (w : World) (hT : r = true) (h : croftlaw06_RectTells.f k a0_0 a0_1 a0_2 a0_3 a1_0 a1_1 a1_2 a1_3 a2 a3 = some r) :
    Calls Try.prog 9 #[.agg #[.int .u32 a0_0, .int .u32 a0_1, .int .u32 a0_2, .int .u32 a0_3], .agg #[.int .u32 a1_0, .int .u32 a1_1, .int .u32 a1_2, .int .u32 a1_3], .int .u32 a2, .int .u32 a3] w fun e w' => e = .returned (.bool r) ∧ Below w.heap.size w w' := by
  have hu24 := Try.underlying24
  have HT := Aside0.mk hT
  clear hT
  have HB := Aside0.mk (Below.refl w.heap.size w)
  have H : ((croftlaw06_alive.f).bind fun t148 => (if t148 = true then ((rect_Cut.f a0_0 a0_1 a0_2 a0_3 a1_0 a1_1 a1_2 a1_3).bind fun bt149 => ((rect_Has.f a0_0 a0_1 a0_2 a0_3 a2 a3).bind fun t154 => ((croftlaw06_has.f a0_0 a0_1 a0_2 a0_3 a2 a3).bind fun t155 => (if (t154 != t155) = true then (croftlaw06_RectTells.j0 k true a0_0 a0_1 a0_2 a0_3 a1_0 a1_1 a1_2 a1_3 bt149.1 bt149.2.1 bt149.2.2.1 bt149.2.2.2) else ((rect_Empty.f a0_0 a0_1 a0_2 a0_3).bind fun t156 => ((croftlaw06_RectTells_1.f a0_0 a0_1 a0_2 a0_3).bind fun t157 => (if (t156 != t157) = true then (croftlaw06_RectTells.j0 k true a0_0 a0_1 a0_2 a0_3 a1_0 a1_1 a1_2 a1_3 bt149.1 bt149.2.1 bt149.2.2.1 bt149.2.2.2) else ((croftlaw06_has.f bt149.1 bt149.2.1 bt149.2.2.1 bt149.2.2.2 a2 a3).bind fun t158 => ((croftlaw06_has.f a0_0 a0_1 a0_2 a0_3 a2 a3).bind fun t159 => (if t159 = true then ((croftlaw06_has.f a1_0 a1_1 a1_2 a1_3 a2 a3).bind fun t160 => (croftlaw06_RectTells.j0 k (t158 != t160) a0_0 a0_1 a0_2 a0_3 a1_0 a1_1 a1_2 a1_3 bt149.1 bt149.2.1 bt149.2.2.1 bt149.2.2.2)) else (croftlaw06_RectTells.j0 k (t158 != false) a0_0 a0_1 a0_2 a0_3 a1_0 a1_1 a1_2 a1_3 bt149.1 bt149.2.1 bt149.2.2.1 bt149.2.2.2))))))))))) else (some false))) = some r := h
  clear h
  replace H := Option.bind_eq_some_iff.mp H
  obtain ⟨t148, A50, H⟩ := H
  replace H : (if t148 = true then ((rect_Cut.f a0_0 a0_1 a0_2 a0_3 a1_0 a1_1 a1_2 a1_3).bind fun bt149 => ((rect_Has.f a0_0 a0_1 a0_2 a0_3 a2 a3).bind fun t154 => ((croftlaw06_has.f a0_0 a0_1 a0_2 a0_3 a2 a3).bind fun t155 => (if (t154 != t155) = true then (croftlaw06_RectTells.j0 k true a0_0 a0_1 a0_2 a0_3 a1_0 a1_1 a1_2 a1_3 bt149.1 bt149.2.1 bt149.2.2.1 bt149.2.2.2) else ((rect_Empty.f a0_0 a0_1 a0_2 a0_3).bind fun t156 => ((croftlaw06_RectTells_1.f a0_0 a0_1 a0_2 a0_3).bind fun t157 => (if (t156 != t157) = true then (croftlaw06_RectTells.j0 k true a0_0 a0_1 a0_2 a0_3 a1_0 a1_1 a1_2 a1_3 bt149.1 bt149.2.1 bt149.2.2.1 bt149.2.2.2) else ((croftlaw06_has.f bt149.1 bt149.2.1 bt149.2.2.1 bt149.2.2.2 a2 a3).bind fun t158 => ((croftlaw06_has.f a0_0 a0_1 a0_2 a0_3 a2 a3).bind fun t159 => (if t159 = true then ((croftlaw06_has.f a1_0 a1_1 a1_2 a1_3 a2 a3).bind fun t160 => (croftlaw06_RectTells.j0 k (t158 != t160) a0_0 a0_1 a0_2 a0_3 a1_0 a1_1 a1_2 a1_3 bt149.1 bt149.2.1 bt149.2.2.1 bt149.2.2.2)) else (croftlaw06_RectTells.j0 k (t158 != false) a0_0 a0_1 a0_2 a0_3 a1_0 a1_1 a1_2 a1_3 bt149.1 bt149.2.1 bt149.2.2.1 bt149.2.2.2))))))))))) else (some false)) = some r := H
  have A5 := Aside0.mk A50
  clear A50
  by_cases c6 : t148 = true
  · subst c6
    have H1 : ((rect_Cut.f a0_0 a0_1 a0_2 a0_3 a1_0 a1_1 a1_2 a1_3).bind fun bt149 => ((rect_Has.f a0_0 a0_1 a0_2 a0_3 a2 a3).bind fun t154 => ((croftlaw06_has.f a0_0 a0_1 a0_2 a0_3 a2 a3).bind fun t155 => (if (t154 != t155) = true then (croftlaw06_RectTells.j0 k true a0_0 a0_1 a0_2 a0_3 a1_0 a1_1 a1_2 a1_3 bt149.1 bt149.2.1 bt149.2.2.1 bt149.2.2.2) else ((rect_Empty.f a0_0 a0_1 a0_2 a0_3).bind fun t156 => ((croftlaw06_RectTells_1.f a0_0 a0_1 a0_2 a0_3).bind fun t157 => (if (t156 != t157) = true then (croftlaw06_RectTells.j0 k true a0_0 a0_1 a0_2 a0_3 a1_0 a1_1 a1_2 a1_3 bt149.1 bt149.2.1 bt149.2.2.1 bt149.2.2.2) else ((croftlaw06_has.f bt149.1 bt149.2.1 bt149.2.2.1 bt149.2.2.2 a2 a3).bind fun t158 => ((croftlaw06_has.f a0_0 a0_1 a0_2 a0_3 a2 a3).bind fun t159 => (if t159 = true then ((croftlaw06_has.f a1_0 a1_1 a1_2 a1_3 a2 a3).bind fun t160 => (croftlaw06_RectTells.j0 k (t158 != t160) a0_0 a0_1 a0_2 a0_3 a1_0 a1_1 a1_2 a1_3 bt149.1 bt149.2.1 bt149.2.2.1 bt149.2.2.2)) else (croftlaw06_RectTells.j0 k (t158 != false) a0_0 a0_1 a0_2 a0_3 a1_0 a1_1 a1_2 a1_3 bt149.1 bt149.2.1 bt149.2.2.1 bt149.2.2.2))))))))))) = some r := by rw [if_pos rfl] at H; exact H
    clear H
    have H := H1
    clear H1
    replace H := Option.bind_eq_some_iff.mp H
    obtain ⟨⟨t149, t150, t151, t152⟩, A70, H⟩ := H
    replace H : ((rect_Has.f a0_0 a0_1 a0_2 a0_3 a2 a3).bind fun t154 => ((croftlaw06_has.f a0_0 a0_1 a0_2 a0_3 a2 a3).bind fun t155 => (if (t154 != t155) = true then (croftlaw06_RectTells.j0 k true a0_0 a0_1 a0_2 a0_3 a1_0 a1_1 a1_2 a1_3 t149 t150 t151 t152) else ((rect_Empty.f a0_0 a0_1 a0_2 a0_3).bind fun t156 => ((croftlaw06_RectTells_1.f a0_0 a0_1 a0_2 a0_3).bind fun t157 => (if (t156 != t157) = true then (croftlaw06_RectTells.j0 k true a0_0 a0_1 a0_2 a0_3 a1_0 a1_1 a1_2 a1_3 t149 t150 t151 t152) else ((croftlaw06_has.f t149 t150 t151 t152 a2 a3).bind fun t158 => ((croftlaw06_has.f a0_0 a0_1 a0_2 a0_3 a2 a3).bind fun t159 => (if t159 = true then ((croftlaw06_has.f a1_0 a1_1 a1_2 a1_3 a2 a3).bind fun t160 => (croftlaw06_RectTells.j0 k (t158 != t160) a0_0 a0_1 a0_2 a0_3 a1_0 a1_1 a1_2 a1_3 t149 t150 t151 t152)) else (croftlaw06_RectTells.j0 k (t158 != false) a0_0 a0_1 a0_2 a0_3 a1_0 a1_1 a1_2 a1_3 t149 t150 t151 t152)))))))))) = some r := H
    have A7 := Aside0.mk A70
    clear A70
    have HC8 := Aside0.mk H
    clear H
    go_enter Try.func9, Try.ntmps9
    go_upto_region 5 with (first | ((with_reducible refine gate_dst (N := 4) rfl ?_); refine box_event ?hg (N := 4) ?hd (cs := #[.int .u32 a0_0, .int .u32 a0_1, .int .u32 a0_2, .int .u32 a0_3]) (t := 24) ?hr ?_; (case hd => rfl); (case hg => rfl); (case hr => first | (go_simp; done) | (go_simp; rfl)); intro gb146 hg w9 hbox hb; have n0_ := Aside0.mk (below_step (by repeat (first | (with_reducible first | exact HB.out | apply below_alloc | apply pw_below_drewN | apply below_drew1) | exact HB.out)) hb); have n1_ := Aside0.mk (hbox); have n2_ := Aside0.mk ((by rw [hg]; exact (below_size (by repeat (first | (with_reducible first | exact HB.out | apply below_alloc | apply pw_below_drewN | apply below_drew1) | exact HB.out))) : w.heap.size ≤ gb146)); have n3_ := Aside0.mk ((by rw [hg]; exact (below_size (by repeat (first | (with_reducible first | exact HB.out | apply below_alloc | apply pw_below_drewN | apply below_drew1) | exact HB.out))) : w.heap.size ≤ gb146)); clear HB; have HB := n0_; have BK146 := n1_; have GW146 := n2_; have GE146 := n3_; clear n0_ n1_ n2_ n3_; clear hb hbox hg) | ((with_reducible refine gate_dst (N := 5) rfl ?_); refine box_event ?hg (N := 5) ?hd (cs := #[.int .u32 a1_0, .int .u32 a1_1, .int .u32 a1_2, .int .u32 a1_3]) (t := 24) ?hr ?_; (case hd => rfl); (case hg => rfl); (case hr => first | (go_simp; done) | (go_simp; rfl)); intro gb147 hg w10 hbox hb; have n0_ := Aside0.mk (blk_below (g := gb146) (o := .cells #[.int .u32 a0_0, .int .u32 a0_1, .int .u32 a0_2, .int .u32 a0_3] 24 (0, 0)) (by (with_reducible repeat (first | refine blk_drewN ?_ _ | refine blk_drew ?_ | refine blk_alloc ?_ _)); exact BK146.out) hb); have n1_ := Aside0.mk (below_step (by repeat (first | (with_reducible first | exact HB.out | apply below_alloc | apply pw_below_drewN | apply below_drew1 | refine below_set ?_ GE146.out) | exact HB.out)) hb); have n2_ := Aside0.mk (hbox); have n3_ := Aside0.mk ((by rw [hg]; exact (below_size (by repeat (first | (with_reducible first | exact HB.out | apply below_alloc | apply pw_below_drewN | apply below_drew1 | refine below_set ?_ GE146.out) | exact HB.out))) : w.heap.size ≤ gb147)); have n4_ := Aside0.mk ((by rw [hg]; exact (below_size (by repeat (first | (with_reducible first | exact HB.out | apply below_alloc | apply pw_below_drewN | apply below_drew1 | refine below_set ?_ GE146.out) | exact HB.out))) : w.heap.size ≤ gb147)); have n5_ := Aside0.mk ((by rw [hg]; exact Nat.ne_of_lt (blk_lt (g := gb146) (o := .cells #[.int .u32 a0_0, .int .u32 a0_1, .int .u32 a0_2, .int .u32 a0_3] 24 (0, 0)) (by (with_reducible repeat (first | refine blk_drewN ?_ _ | refine blk_drew ?_ | refine blk_alloc ?_ _)); exact BK146.out)) : gb146 ≠ gb147)); have n6_ := Aside0.mk ((by rw [hg]; exact Nat.ne_of_gt (blk_lt (g := gb146) (o := .cells #[.int .u32 a0_0, .int .u32 a0_1, .int .u32 a0_2, .int .u32 a0_3] 24 (0, 0)) (by (with_reducible repeat (first | refine blk_drewN ?_ _ | refine blk_drew ?_ | refine blk_alloc ?_ _)); exact BK146.out)) : gb147 ≠ gb146)); clear BK146; clear HB; have BK146 := n0_; have HB := n1_; have BK147 := n2_; have GW147 := n3_; have GE147 := n4_; have NB146_147 := n5_; have NB147_146 := n6_; clear n0_ n1_ n2_ n3_ n4_ n5_ n6_; clear hb hbox hg) | ((with_reducible refine gate_callee (f := 15) rfl ?_); refine goesL_ (some 13) rfl rfl Try.func15 (by kernel_rfl) rfl #[] rfl (by (try simp only [List.map_toArray, List.map_cons, List.map_nil]); first | done | rfl | (simp only [List.length_drop, List.length_take]; rfl)) ?_; (with_reducible refine (croftlaw06_alive.calls  true _ A5.out).mono ?_); rintro e w11 ⟨rfl, hb⟩; refine ⟨_, rfl, ?_⟩; have n0_ := Aside0.mk (blk_below (g := gb146) (o := .cells #[.int .u32 a0_0, .int .u32 a0_1, .int .u32 a0_2, .int .u32 a0_3] 24 (0, 0)) (by (with_reducible repeat (first | refine blk_drewN ?_ _ | refine blk_drew ?_ | refine blk_alloc ?_ _)); exact BK146.out) hb); have n1_ := Aside0.mk (blk_below (g := gb147) (o := .cells #[.int .u32 a1_0, .int .u32 a1_1, .int .u32 a1_2, .int .u32 a1_3] 24 (0, 0)) (by (with_reducible repeat (first | refine blk_drewN ?_ _ | refine blk_drew ?_ | refine blk_alloc ?_ _)); exact BK147.out) hb); have n2_ := Aside0.mk (below_step (by repeat (first | (with_reducible first | exact HB.out | apply below_alloc | apply pw_below_drewN | apply below_drew1 | refine below_set ?_ GE146.out | refine below_set ?_ GE147.out) | exact HB.out)) hb); clear BK146; clear BK147; clear HB; have BK146 := n0_; have BK147 := n1_; have HB := n2_; clear n0_ n1_ n2_; (try clear hb); (try clear hb2); (try clear hk); (try clear hi); have hnb12 := NB146_147.out; have hnc12 := NB147_146.out; have hcz13_0 : w11.cell? ⟨gb146, 0, none⟩ = some (.int .u32 a0_0) := (blk_cell BK146.out 0).trans rfl; have hcz13_1 : w11.cell? ⟨gb146, 1, none⟩ = some (.int .u32 a0_1) := (blk_cell BK146.out 1).trans rfl; have hcz13_2 : w11.cell? ⟨gb146, 2, none⟩ = some (.int .u32 a0_2) := (blk_cell BK146.out 2).trans rfl; have hcz13_3 : w11.cell? ⟨gb146, 3, none⟩ = some (.int .u32 a0_3) := (blk_cell BK146.out 3).trans rfl; have hfz13_0 := blk_frozen BK146.out 0; have hfz13_1 := blk_frozen BK146.out 1; have hfz13_2 := blk_frozen BK146.out 2; have hfz13_3 := blk_frozen BK146.out 3; have hcz14_0 : w11.cell? ⟨gb147, 0, none⟩ = some (.int .u32 a1_0) := (blk_cell BK147.out 0).trans rfl; have hcz14_1 : w11.cell? ⟨gb147, 1, none⟩ = some (.int .u32 a1_1) := (blk_cell BK147.out 1).trans rfl; have hcz14_2 : w11.cell? ⟨gb147, 2, none⟩ = some (.int .u32 a1_2) := (blk_cell BK147.out 2).trans rfl; have hcz14_3 : w11.cell? ⟨gb147, 3, none⟩ = some (.int .u32 a1_3) := (blk_cell BK147.out 3).trans rfl; have hfz14_0 := blk_frozen BK147.out 0; have hfz14_1 := blk_frozen BK147.out 1; have hfz14_2 := blk_frozen BK147.out 2; have hfz14_3 := blk_frozen BK147.out 3) | ((with_reducible refine gate_callee (f := 29) rfl ?_); refine goesL_ (some 17) rfl rfl Try.func29 (by kernel_rfl) rfl #[.agg #[.int .u32 a0_0, .int .u32 a0_1, .int .u32 a0_2, .int .u32 a0_3], .agg #[.int .u32 a1_0, .int .u32 a1_1, .int .u32 a1_2, .int .u32 a1_3]] rfl (by (try simp only [List.map_toArray, List.map_cons, List.map_nil]); first | done | rfl | (simp only [List.length_drop, List.length_take]; rfl)) ?_; (with_reducible refine (rect_Cut.calls a0_0 a0_1 a0_2 a0_3 a1_0 a1_1 a1_2 a1_3 t149 t150 t151 t152 _ A7.out).mono ?_); rintro e w15 ⟨rfl, hb⟩; refine ⟨_, rfl, ?_⟩; have n0_ := Aside0.mk (blk_below (g := gb146) (o := .cells #[.int .u32 a0_0, .int .u32 a0_1, .int .u32 a0_2, .int .u32 a0_3] 24 (0, 0)) (by (with_reducible repeat (first | refine blk_drewN ?_ _ | refine blk_drew ?_ | refine blk_alloc ?_ _)); exact BK146.out) hb); have n1_ := Aside0.mk (blk_below (g := gb147) (o := .cells #[.int .u32 a1_0, .int .u32 a1_1, .int .u32 a1_2, .int .u32 a1_3] 24 (0, 0)) (by (with_reducible repeat (first | refine blk_drewN ?_ _ | refine blk_drew ?_ | refine blk_alloc ?_ _)); exact BK147.out) hb); have n2_ := Aside0.mk (below_step (by repeat (first | (with_reducible first | exact HB.out | apply below_alloc | apply pw_below_drewN | apply below_drew1 | refine below_set ?_ GE146.out | refine below_set ?_ GE147.out) | exact HB.out)) hb); clear BK146; clear BK147; clear HB; have BK146 := n0_; have BK147 := n1_; have HB := n2_; clear n0_ n1_ n2_; (try clear hb); (try clear hb2); (try clear hk); (try clear hi)) | ((with_reducible refine gate_dst (N := 10) rfl ?_); refine box_event ?hg (N := 10) ?hd (cs := #[.int .u32 0, .int .u32 0, .int .u32 0, .int .u32 0]) (t := 24) ?hr ?_; (case hd => rfl); (case hg => rfl); (case hr => first | (go_simp; done) | (go_simp; rfl)); intro gb153 hg w16 hbox hb; have n0_ := Aside0.mk (blk_below (g := gb146) (o := .cells #[.int .u32 a0_0, .int .u32 a0_1, .int .u32 a0_2, .int .u32 a0_3] 24 (0, 0)) (by (with_reducible repeat (first | refine blk_drewN ?_ _ | refine blk_drew ?_ | refine blk_alloc ?_ _)); exact BK146.out) hb); have n1_ := Aside0.mk (blk_below (g := gb147) (o := .cells #[.int .u32 a1_0, .int .u32 a1_1, .int .u32 a1_2, .int .u32 a1_3] 24 (0, 0)) (by (with_reducible repeat (first | refine blk_drewN ?_ _ | refine blk_drew ?_ | refine blk_alloc ?_ _)); exact BK147.out) hb); have n2_ := Aside0.mk (below_step (by repeat (first | (with_reducible first | exact HB.out | apply below_alloc | apply pw_below_drewN | apply below_drew1 | refine below_set ?_ GE146.out | refine below_set ?_ GE147.out) | exact HB.out)) hb); have n3_ := Aside0.mk (hbox); have n4_ := Aside0.mk ((by rw [hg]; exact (below_size (by repeat (first | (with_reducible first | exact HB.out | apply below_alloc | apply pw_below_drewN | apply below_drew1 | refine below_set ?_ GE146.out | refine below_set ?_ GE147.out) | exact HB.out))) : w.heap.size ≤ gb153)); have n5_ := Aside0.mk ((by rw [hg]; exact (below_size (by repeat (first | (with_reducible first | exact HB.out | apply below_alloc | apply pw_below_drewN | apply below_drew1 | refine below_set ?_ GE146.out | refine below_set ?_ GE147.out) | exact HB.out))) : w.heap.size ≤ gb153)); have n6_ := Aside0.mk ((by rw [hg]; exact Nat.ne_of_lt (blk_lt (g := gb146) (o := .cells #[.int .u32 a0_0, .int .u32 a0_1, .int .u32 a0_2, .int .u32 a0_3] 24 (0, 0)) (by (with_reducible repeat (first | refine blk_drewN ?_ _ | refine blk_drew ?_ | refine blk_alloc ?_ _)); exact BK146.out)) : gb146 ≠ gb153)); have n7_ := Aside0.mk ((by rw [hg]; exact Nat.ne_of_gt (blk_lt (g := gb146) (o := .cells #[.int .u32 a0_0, .int .u32 a0_1, .int .u32 a0_2, .int .u32 a0_3] 24 (0, 0)) (by (with_reducible repeat (first | refine blk_drewN ?_ _ | refine blk_drew ?_ | refine blk_alloc ?_ _)); exact BK146.out)) : gb153 ≠ gb146)); have n8_ := Aside0.mk ((by rw [hg]; exact Nat.ne_of_lt (blk_lt (g := gb147) (o := .cells #[.int .u32 a1_0, .int .u32 a1_1, .int .u32 a1_2, .int .u32 a1_3] 24 (0, 0)) (by (with_reducible repeat (first | refine blk_drewN ?_ _ | refine blk_drew ?_ | refine blk_alloc ?_ _)); exact BK147.out)) : gb147 ≠ gb153)); have n9_ := Aside0.mk ((by rw [hg]; exact Nat.ne_of_gt (blk_lt (g := gb147) (o := .cells #[.int .u32 a1_0, .int .u32 a1_1, .int .u32 a1_2, .int .u32 a1_3] 24 (0, 0)) (by (with_reducible repeat (first | refine blk_drewN ?_ _ | refine blk_drew ?_ | refine blk_alloc ?_ _)); exact BK147.out)) : gb153 ≠ gb147)); clear BK146; clear BK147; clear HB; have BK146 := n0_; have BK147 := n1_; have HB := n2_; have BK153 := n3_; have GW153 := n4_; have GE153 := n5_; have NB146_153 := n6_; have NB153_146 := n7_; have NB147_153 := n8_; have NB153_147 := n9_; clear n0_ n1_ n2_ n3_ n4_ n5_ n6_ n7_ n8_ n9_; clear hb hbox hg; have hnb17 := NB153_146.out; have hnc17 := NB146_153.out; have hnb18 := NB153_147.out; have hnc18 := NB147_153.out; have hcz19_0 : w16.cell? ⟨gb153, 0, none⟩ = some (.int .u32 0) := (blk_cell BK153.out 0).trans rfl; have hcz19_1 : w16.cell? ⟨gb153, 1, none⟩ = some (.int .u32 0) := (blk_cell BK153.out 1).trans rfl; have hcz19_2 : w16.cell? ⟨gb153, 2, none⟩ = some (.int .u32 0) := (blk_cell BK153.out 2).trans rfl; have hcz19_3 : w16.cell? ⟨gb153, 3, none⟩ = some (.int .u32 0) := (blk_cell BK153.out 3).trans rfl; have hfz19_0 := blk_frozen BK153.out 0; have hfz19_1 := blk_frozen BK153.out 1; have hfz19_2 := blk_frozen BK153.out 2; have hfz19_3 := blk_frozen BK153.out 3))
    (try simp only [Act.put, List.setIfInBounds_toArray, List.set_cons_zero, List.set_cons_succ])
    go_cut [51] (fun v51 wc => ∃ (kq : Nat) (x51_7 : Bool), v51 = .bool x51_7 ∧ Aside0 (croftlaw06_RectTells.j0 kq x51_7 a0_0 a0_1 a0_2 a0_3 a1_0 a1_1 a1_2 a1_3 t149 t150 t151 t152 = some r) ∧ Aside0 (kq ≤ k) ∧ Aside0 (wc.heap[gb146]? = some (.cells #[.int .u32 a0_0, .int .u32 a0_1, .int .u32 a0_2, .int .u32 a0_3] 24 (0, 0))) ∧ Aside0 (wc.heap[gb147]? = some (.cells #[.int .u32 a1_0, .int .u32 a1_1, .int .u32 a1_2, .int .u32 a1_3] 24 (0, 0))) ∧ Aside0 (wc.heap[gb153]? = some (.cells #[.int .u32 t149, .int .u32 t150, .int .u32 t151, .int .u32 t152] 24 (0, 0))) ∧ Aside0 (Below w.heap.size w wc))
    case first =>
      have H := HC8.out
      clear HC8
      replace H := Option.bind_eq_some_iff.mp H
      obtain ⟨t154, A200, H⟩ := H
      replace H : ((croftlaw06_has.f a0_0 a0_1 a0_2 a0_3 a2 a3).bind fun t155 => (if (t154 != t155) = true then (croftlaw06_RectTells.j0 k true a0_0 a0_1 a0_2 a0_3 a1_0 a1_1 a1_2 a1_3 t149 t150 t151 t152) else ((rect_Empty.f a0_0 a0_1 a0_2 a0_3).bind fun t156 => ((croftlaw06_RectTells_1.f a0_0 a0_1 a0_2 a0_3).bind fun t157 => (if (t156 != t157) = true then (croftlaw06_RectTells.j0 k true a0_0 a0_1 a0_2 a0_3 a1_0 a1_1 a1_2 a1_3 t149 t150 t151 t152) else ((croftlaw06_has.f t149 t150 t151 t152 a2 a3).bind fun t158 => ((croftlaw06_has.f a0_0 a0_1 a0_2 a0_3 a2 a3).bind fun t159 => (if t159 = true then ((croftlaw06_has.f a1_0 a1_1 a1_2 a1_3 a2 a3).bind fun t160 => (croftlaw06_RectTells.j0 k (t158 != t160) a0_0 a0_1 a0_2 a0_3 a1_0 a1_1 a1_2 a1_3 t149 t150 t151 t152)) else (croftlaw06_RectTells.j0 k (t158 != false) a0_0 a0_1 a0_2 a0_3 a1_0 a1_1 a1_2 a1_3 t149 t150 t151 t152))))))))) = some r := H
      have A20 := Aside0.mk A200
      clear A200
      replace H := Option.bind_eq_some_iff.mp H
      obtain ⟨t155, A210, H⟩ := H
      replace H : (if (t154 != t155) = true then (croftlaw06_RectTells.j0 k true a0_0 a0_1 a0_2 a0_3 a1_0 a1_1 a1_2 a1_3 t149 t150 t151 t152) else ((rect_Empty.f a0_0 a0_1 a0_2 a0_3).bind fun t156 => ((croftlaw06_RectTells_1.f a0_0 a0_1 a0_2 a0_3).bind fun t157 => (if (t156 != t157) = true then (croftlaw06_RectTells.j0 k true a0_0 a0_1 a0_2 a0_3 a1_0 a1_1 a1_2 a1_3 t149 t150 t151 t152) else ((croftlaw06_has.f t149 t150 t151 t152 a2 a3).bind fun t158 => ((croftlaw06_has.f a0_0 a0_1 a0_2 a0_3 a2 a3).bind fun t159 => (if t159 = true then ((croftlaw06_has.f a1_0 a1_1 a1_2 a1_3 a2 a3).bind fun t160 => (croftlaw06_RectTells.j0 k (t158 != t160) a0_0 a0_1 a0_2 a0_3 a1_0 a1_1 a1_2 a1_3 t149 t150 t151 t152)) else (croftlaw06_RectTells.j0 k (t158 != false) a0_0 a0_1 a0_2 a0_3 a1_0 a1_1 a1_2 a1_3 t149 t150 t151 t152)))))))) = some r := H
      have A21 := Aside0.mk A210
      clear A210
      by_cases c22 : (t154 != t155) = true
      · rw [if_pos c22] at H
        have c22b0 : (t154 != t155) = true := c22
        (try (have c22b1 : decide (t154 = t155) = false := by simpa using c22))
        (try (have c22b2 : (t154 == t155) = false := by simpa using c22))
        (try (have c22b3 : ¬ (t154 = t155) := by simpa using c22))
        clear c22
        (first | rw [c22b0] | (simp only [i64_w, i32_w]; rw [c22b0]) | skip)
        exact absurd HT.out (by (cases k with | zero => exact absurd H (by simp [croftlaw06_RectTells.j0]) | succ m_ => (simp only [croftlaw06_RectTells.j0, if_true] at H; obtain rfl := Option.some.inj H; simp)))
      · rw [if_neg c22] at H
        have c22b0 : (t154 != t155) = false := by simpa using c22
        (try (have c22b1 : decide (t154 = t155) = true := by simpa using c22))
        (try (have c22b2 : (t154 == t155) = true := by simpa using c22))
        clear c22
        (first | rw [c22b0] | (simp only [i64_w, i32_w]; rw [c22b0]) | skip)
        replace H := Option.bind_eq_some_iff.mp H
        obtain ⟨t156, A230, H⟩ := H
        replace H : ((croftlaw06_RectTells_1.f a0_0 a0_1 a0_2 a0_3).bind fun t157 => (if (t156 != t157) = true then (croftlaw06_RectTells.j0 k true a0_0 a0_1 a0_2 a0_3 a1_0 a1_1 a1_2 a1_3 t149 t150 t151 t152) else ((croftlaw06_has.f t149 t150 t151 t152 a2 a3).bind fun t158 => ((croftlaw06_has.f a0_0 a0_1 a0_2 a0_3 a2 a3).bind fun t159 => (if t159 = true then ((croftlaw06_has.f a1_0 a1_1 a1_2 a1_3 a2 a3).bind fun t160 => (croftlaw06_RectTells.j0 k (t158 != t160) a0_0 a0_1 a0_2 a0_3 a1_0 a1_1 a1_2 a1_3 t149 t150 t151 t152)) else (croftlaw06_RectTells.j0 k (t158 != false) a0_0 a0_1 a0_2 a0_3 a1_0 a1_1 a1_2 a1_3 t149 t150 t151 t152)))))) = some r := H
        have A23 := Aside0.mk A230
        clear A230
        replace H := Option.bind_eq_some_iff.mp H
        obtain ⟨t157, A240, H⟩ := H
        replace H : (if (t156 != t157) = true then (croftlaw06_RectTells.j0 k true a0_0 a0_1 a0_2 a0_3 a1_0 a1_1 a1_2 a1_3 t149 t150 t151 t152) else ((croftlaw06_has.f t149 t150 t151 t152 a2 a3).bind fun t158 => ((croftlaw06_has.f a0_0 a0_1 a0_2 a0_3 a2 a3).bind fun t159 => (if t159 = true then ((croftlaw06_has.f a1_0 a1_1 a1_2 a1_3 a2 a3).bind fun t160 => (croftlaw06_RectTells.j0 k (t158 != t160) a0_0 a0_1 a0_2 a0_3 a1_0 a1_1 a1_2 a1_3 t149 t150 t151 t152)) else (croftlaw06_RectTells.j0 k (t158 != false) a0_0 a0_1 a0_2 a0_3 a1_0 a1_1 a1_2 a1_3 t149 t150 t151 t152))))) = some r := H
        have A24 := Aside0.mk A240
        clear A240
        by_cases c25 : (t156 != t157) = true
        · rw [if_pos c25] at H
          have c25b0 : (t156 != t157) = true := c25
          (try (have c25b1 : decide (t156 = t157) = false := by simpa using c25))
          (try (have c25b2 : (t156 == t157) = false := by simpa using c25))
          (try (have c25b3 : ¬ (t156 = t157) := by simpa using c25))
          clear c25
          exact absurd HT.out (by (cases k with | zero => exact absurd H (by simp [croftlaw06_RectTells.j0]) | succ m_ => (simp only [croftlaw06_RectTells.j0, if_true] at H; obtain rfl := Option.some.inj H; simp)))
        · rw [if_neg c25] at H
          have c25b0 : (t156 != t157) = false := by simpa using c25
          (try (have c25b1 : decide (t156 = t157) = true := by simpa using c25))
          (try (have c25b2 : (t156 == t157) = true := by simpa using c25))
          clear c25
          replace H := Option.bind_eq_some_iff.mp H
          obtain ⟨t158, A260, H⟩ := H
          replace H : ((croftlaw06_has.f a0_0 a0_1 a0_2 a0_3 a2 a3).bind fun t159 => (if t159 = true then ((croftlaw06_has.f a1_0 a1_1 a1_2 a1_3 a2 a3).bind fun t160 => (croftlaw06_RectTells.j0 k (t158 != t160) a0_0 a0_1 a0_2 a0_3 a1_0 a1_1 a1_2 a1_3 t149 t150 t151 t152)) else (croftlaw06_RectTells.j0 k (t158 != false) a0_0 a0_1 a0_2 a0_3 a1_0 a1_1 a1_2 a1_3 t149 t150 t151 t152))) = some r := H
          have A26 := Aside0.mk A260
          clear A260
          replace H := Option.bind_eq_some_iff.mp H
          obtain ⟨t159, A270, H⟩ := H
          replace H : (if t159 = true then ((croftlaw06_has.f a1_0 a1_1 a1_2 a1_3 a2 a3).bind fun t160 => (croftlaw06_RectTells.j0 k (t158 != t160) a0_0 a0_1 a0_2 a0_3 a1_0 a1_1 a1_2 a1_3 t149 t150 t151 t152)) else (croftlaw06_RectTells.j0 k (t158 != false) a0_0 a0_1 a0_2 a0_3 a1_0 a1_1 a1_2 a1_3 t149 t150 t151 t152)) = some r := H
          have A27 := Aside0.mk A270
          clear A270
          by_cases c28 : t159 = true
          · subst c28
            have H1 : ((croftlaw06_has.f a1_0 a1_1 a1_2 a1_3 a2 a3).bind fun t160 => (croftlaw06_RectTells.j0 k (t158 != t160) a0_0 a0_1 a0_2 a0_3 a1_0 a1_1 a1_2 a1_3 t149 t150 t151 t152)) = some r := by rw [if_pos rfl] at H; exact H
            clear H
            have H := H1
            clear H1
            replace H := Option.bind_eq_some_iff.mp H
            obtain ⟨t160, A290, H⟩ := H
            replace H : (croftlaw06_RectTells.j0 k (t158 != t160) a0_0 a0_1 a0_2 a0_3 a1_0 a1_1 a1_2 a1_3 t149 t150 t151 t152) = some r := H
            have A29 := Aside0.mk A290
            clear A290
            have H' := Aside0.mk H
            clear H
            try go_wp2
            have n0_ : Aside0 (((((w16.setCell ⟨gb153, 0, none⟩ (.int .u32 t149)).setCell ⟨gb153, 1, none⟩ (.int .u32 t150)).setCell ⟨gb153, 2, none⟩ (.int .u32 t151)).setCell ⟨gb153, 3, none⟩ (.int .u32 t152)).heap[gb146]? = some (.cells #[.int .u32 a0_0, .int .u32 a0_1, .int .u32 a0_2, .int .u32 a0_3] 24 (0, 0))) := ⟨by (with_reducible repeat (first | refine blk_drewN ?_ _ | refine blk_drew ?_ | refine blk_alloc ?_ _)); refine blk_far ?_ NB146_153.out _; (with_reducible repeat (first | refine blk_drewN ?_ _ | refine blk_drew ?_ | refine blk_alloc ?_ _)); refine blk_far ?_ NB146_153.out _; (with_reducible repeat (first | refine blk_drewN ?_ _ | refine blk_drew ?_ | refine blk_alloc ?_ _)); refine blk_far ?_ NB146_153.out _; (with_reducible repeat (first | refine blk_drewN ?_ _ | refine blk_drew ?_ | refine blk_alloc ?_ _)); refine blk_far ?_ NB146_153.out _; (with_reducible repeat (first | refine blk_drewN ?_ _ | refine blk_drew ?_ | refine blk_alloc ?_ _)); exact BK146.out⟩
            have n1_ : Aside0 (((((w16.setCell ⟨gb153, 0, none⟩ (.int .u32 t149)).setCell ⟨gb153, 1, none⟩ (.int .u32 t150)).setCell ⟨gb153, 2, none⟩ (.int .u32 t151)).setCell ⟨gb153, 3, none⟩ (.int .u32 t152)).heap[gb147]? = some (.cells #[.int .u32 a1_0, .int .u32 a1_1, .int .u32 a1_2, .int .u32 a1_3] 24 (0, 0))) := ⟨by (with_reducible repeat (first | refine blk_drewN ?_ _ | refine blk_drew ?_ | refine blk_alloc ?_ _)); refine blk_far ?_ NB147_153.out _; (with_reducible repeat (first | refine blk_drewN ?_ _ | refine blk_drew ?_ | refine blk_alloc ?_ _)); refine blk_far ?_ NB147_153.out _; (with_reducible repeat (first | refine blk_drewN ?_ _ | refine blk_drew ?_ | refine blk_alloc ?_ _)); refine blk_far ?_ NB147_153.out _; (with_reducible repeat (first | refine blk_drewN ?_ _ | refine blk_drew ?_ | refine blk_alloc ?_ _)); refine blk_far ?_ NB147_153.out _; (with_reducible repeat (first | refine blk_drewN ?_ _ | refine blk_drew ?_ | refine blk_alloc ?_ _)); exact BK147.out⟩
            have n2_ : Aside0 (((((w16.setCell ⟨gb153, 0, none⟩ (.int .u32 t149)).setCell ⟨gb153, 1, none⟩ (.int .u32 t150)).setCell ⟨gb153, 2, none⟩ (.int .u32 t151)).setCell ⟨gb153, 3, none⟩ (.int .u32 t152)).heap[gb153]? = some (.cells #[.int .u32 t149, .int .u32 t150, .int .u32 t151, .int .u32 t152] 24 (0, 0))) := ⟨by (with_reducible repeat (first | refine blk_drewN ?_ _ | refine blk_drew ?_ | refine blk_alloc ?_ _)); refine blk_put (cs := #[.int .u32 t149, .int .u32 t150, .int .u32 t151, .int .u32 0]) ?_ 3 _ rfl; (with_reducible repeat (first | refine blk_drewN ?_ _ | refine blk_drew ?_ | refine blk_alloc ?_ _)); refine blk_put (cs := #[.int .u32 t149, .int .u32 t150, .int .u32 0, .int .u32 0]) ?_ 2 _ rfl; (with_reducible repeat (first | refine blk_drewN ?_ _ | refine blk_drew ?_ | refine blk_alloc ?_ _)); refine blk_put (cs := #[.int .u32 t149, .int .u32 0, .int .u32 0, .int .u32 0]) ?_ 1 _ rfl; (with_reducible repeat (first | refine blk_drewN ?_ _ | refine blk_drew ?_ | refine blk_alloc ?_ _)); refine blk_put (cs := #[.int .u32 0, .int .u32 0, .int .u32 0, .int .u32 0]) ?_ 0 _ rfl; (with_reducible repeat (first | refine blk_drewN ?_ _ | refine blk_drew ?_ | refine blk_alloc ?_ _)); exact BK153.out⟩
            have n3_ : Aside0 (Below w.heap.size w ((((w16.setCell ⟨gb153, 0, none⟩ (.int .u32 t149)).setCell ⟨gb153, 1, none⟩ (.int .u32 t150)).setCell ⟨gb153, 2, none⟩ (.int .u32 t151)).setCell ⟨gb153, 3, none⟩ (.int .u32 t152))) := ⟨by repeat (first | (with_reducible first | exact HB.out | apply below_alloc | apply pw_below_drewN | apply below_drew1 | refine below_set ?_ GE146.out | refine below_set ?_ GE147.out | refine below_set ?_ GE153.out) | exact HB.out)⟩
            (try clear BK146)
            (try clear BK147)
            (try clear BK153)
            (try clear HB)
            generalize ((((w16.setCell ⟨gb153, 0, none⟩ (.int .u32 t149)).setCell ⟨gb153, 1, none⟩ (.int .u32 t150)).setCell ⟨gb153, 2, none⟩ (.int .u32 t151)).setCell ⟨gb153, 3, none⟩ (.int .u32 t152)) = w30 at n0_ n1_ n2_ n3_ ⊢
            have BK146 := n0_
            have BK147 := n1_
            have BK153 := n2_
            have HB := n3_
            clear n0_ n1_ n2_ n3_
            have n0_ := Aside0.mk (blk_drew BK146.out)
            have n1_ := Aside0.mk (blk_drew BK147.out)
            have n2_ := Aside0.mk (blk_drew BK153.out)
            have n3_ := Aside0.mk (below_drew1 HB.out)
            clear BK146
            clear BK147
            clear BK153
            clear HB
            have BK146 := n0_
            have BK147 := n1_
            have BK153 := n2_
            have HB := n3_
            clear n0_ n1_ n2_ n3_
            refine start_ (n := 34) (S := fun w' => w'.cell? ⟨gb146, 0, none⟩ = some (.int .u32 a0_0) ∧ w'.cell? ⟨gb146, 1, none⟩ = some (.int .u32 a0_1) ∧ w'.cell? ⟨gb146, 2, none⟩ = some (.int .u32 a0_2) ∧ w'.cell? ⟨gb146, 3, none⟩ = some (.int .u32 a0_3) ∧ w'.cell? ⟨gb153, 0, none⟩ = some (.int .u32 t149) ∧ w'.cell? ⟨gb153, 1, none⟩ = some (.int .u32 t150) ∧ w'.cell? ⟨gb153, 2, none⟩ = some (.int .u32 t151) ∧ w'.cell? ⟨gb153, 3, none⟩ = some (.int .u32 t152) ∧ w'.cell? ⟨gb147, 0, none⟩ = some (.int .u32 a1_0) ∧ w'.cell? ⟨gb147, 1, none⟩ = some (.int .u32 a1_1) ∧ w'.cell? ⟨gb147, 2, none⟩ = some (.int .u32 a1_2) ∧ w'.cell? ⟨gb147, 3, none⟩ = some (.int .u32 a1_3)) (ds := []) #[false, false, false, false, false, false, false, false, false, false, false, false, false, false, false, false, false, false, false, false, false, false, false, false, false, false, false, false, false, false, false, false, false, false] (by kernel_rfl) rfl rfl ⟨(blk_cell BK146.out 0).trans rfl, (blk_cell BK146.out 1).trans rfl, (blk_cell BK146.out 2).trans rfl, (blk_cell BK146.out 3).trans rfl, (blk_cell BK153.out 0).trans rfl, (blk_cell BK153.out 1).trans rfl, (blk_cell BK153.out 2).trans rfl, (blk_cell BK153.out 3).trans rfl, (blk_cell BK147.out 0).trans rfl, (blk_cell BK147.out 1).trans rfl, (blk_cell BK147.out 2).trans rfl, (blk_cell BK147.out 3).trans rfl⟩ (fun hHeld => ?_); refine with_tabW croftlaw06_RectTells.tab5 croftlaw06_RectTells.bits5 (fun HT_ HW_ => ?_)
            generalize w30.drew = w31 at BK146 BK147 BK153 HB hHeld ⊢
            refine pure_ (i := 1) (N := some 19) (v := ?_) (a' := ?_) #[false, true, false, false, false, false, false, false, false, false, false, false, false, false, false, false, false, false, false, false, false, false, false, false, false, false, false, false, false, false, false, false, false, false] rfl rfl (any_of HT_.out (by kernel_rfl)) (fun _ _ _ h => h) (Or.inl ⟨by rfl, ?_⟩) ?_ ?_
            rotate_left
            · intro w'
              go_simp
              with_reducible rfl
            rotate_left
            · simp only [Act.put, List.setIfInBounds_toArray, List.set_cons_zero, List.set_cons_succ, i64_w, i32_w]
              rfl
            refine pure_ (i := 2) (N := some 20) (v := ?_) (a' := ?_) #[false, true, true, false, false, false, false, false, false, false, false, false, false, false, false, false, false, false, false, false, false, false, false, false, false, false, false, false, false, false, false, false, false, false] rfl rfl (any_of HT_.out (by kernel_rfl)) (fun _ _ _ h => h) (Or.inl ⟨by rfl, ?_⟩) ?_ ?_
            rotate_left
            · intro w'
              go_simp
              with_reducible rfl
            rotate_left
            · simp only [Act.put, List.setIfInBounds_toArray, List.set_cons_zero, List.set_cons_succ, i64_w, i32_w]
              rfl
            refine pure_ (i := 5) (N := some 23) (v := ?_) (a' := ?_) #[false, true, true, false, false, true, false, false, false, false, false, false, false, false, false, false, false, false, false, false, false, false, false, false, false, false, false, false, false, false, false, false, false, false] rfl rfl (any_of HT_.out (by kernel_rfl)) (fun _ _ _ h => h) (Or.inl ⟨by rfl, ?_⟩) ?_ ?_
            rotate_left
            · intro w'
              go_simp
              with_reducible rfl
            rotate_left
            · simp only [Act.put, List.setIfInBounds_toArray, List.set_cons_zero, List.set_cons_succ, i64_w, i32_w]
              rfl
            refine pure_ (i := 6) (N := some 24) (v := ?_) (a' := ?_) #[false, true, true, false, false, true, true, false, false, false, false, false, false, false, false, false, false, false, false, false, false, false, false, false, false, false, false, false, false, false, false, false, false, false] rfl rfl (any_of HT_.out (by kernel_rfl)) (fun _ _ _ h => h) (Or.inl ⟨by rfl, ?_⟩) ?_ ?_
            rotate_left
            · intro w'
              go_simp
              with_reducible rfl
            rotate_left
            · simp only [Act.put, List.setIfInBounds_toArray, List.set_cons_zero, List.set_cons_succ, i64_w, i32_w]
              rfl
            refine take_ (i := 0) (N := some 18) (v := ?_) (a' := ?_) #[true, true, true, false, false, true, true, false, false, false, false, false, false, false, false, false, false, false, false, false, false, false, false, false, false, false, false, false, false, false, false, false, false, false] rfl rfl (take_ofW HT_.out HW_.out (by kernel_rfl)) (fun _ _ _ h => h) (Or.inl ⟨by rfl, ?_⟩) hHeld ?_ ?_
            rotate_left
            · rintro w' ⟨s0, s1, s2, s3, s4, s5, s6, s7, s8, s9, s10, s11⟩
              go_simp
              with_reducible rfl
            rotate_left
            · simp only [Act.put, List.setIfInBounds_toArray, List.set_cons_zero, List.set_cons_succ, i64_w, i32_w]
              rfl
            refine take_ (i := 4) (N := some 22) (v := ?_) (a' := ?_) #[true, true, true, false, true, true, true, false, false, false, false, false, false, false, false, false, false, false, false, false, false, false, false, false, false, false, false, false, false, false, false, false, false, false] rfl rfl (take_ofW HT_.out HW_.out (by kernel_rfl)) (fun _ _ _ h => h) (Or.inl ⟨by rfl, ?_⟩) hHeld ?_ ?_
            rotate_left
            · rintro w' ⟨s0, s1, s2, s3, s4, s5, s6, s7, s8, s9, s10, s11⟩
              go_simp
              with_reducible rfl
            rotate_left
            · simp only [Act.put, List.setIfInBounds_toArray, List.set_cons_zero, List.set_cons_succ, i64_w, i32_w]
              rfl
            refine one_ (i := 3) (N := some 21) #[true, true, true, true, true, true, true, false, false, false, false, false, false, false, false, false, false, false, false, false, false, false, false, false, false, false, false, false, false, false, false, false, false, false] rfl rfl (one_of HT_.out (by kernel_rfl)) (by decide) (fun K hK => ?_)
            refine goes_ Try.func30 (by kernel_rfl) rfl #[.agg #[.int .u32 a0_0, .int .u32 a0_1, .int .u32 a0_2, .int .u32 a0_3], .int .u32 a2, .int .u32 a3] (by rfl) rfl rfl (by (try simp only [List.map_toArray, List.map_cons, List.map_nil]); first | done | rfl | (simp only [List.length_drop, List.length_take]; rfl)) ?_
            with_reducible refine (rect_Has.calls a0_0 a0_1 a0_2 a0_3 a2 a3 t154 _ A20.out).mono ?_
            rintro e w32 ⟨rfl, hb⟩
            refine ⟨_, rfl, ?_⟩
            have n0_ := Aside0.mk (blk_below (g := gb146) (o := .cells #[.int .u32 a0_0, .int .u32 a0_1, .int .u32 a0_2, .int .u32 a0_3] 24 (0, 0)) (by (with_reducible repeat (first | refine blk_drewN ?_ _ | refine blk_drew ?_ | refine blk_alloc ?_ _)); exact BK146.out) hb)
            have n1_ := Aside0.mk (blk_below (g := gb147) (o := .cells #[.int .u32 a1_0, .int .u32 a1_1, .int .u32 a1_2, .int .u32 a1_3] 24 (0, 0)) (by (with_reducible repeat (first | refine blk_drewN ?_ _ | refine blk_drew ?_ | refine blk_alloc ?_ _)); exact BK147.out) hb)
            have n2_ := Aside0.mk (blk_below (g := gb153) (o := .cells #[.int .u32 t149, .int .u32 t150, .int .u32 t151, .int .u32 t152] 24 (0, 0)) (by (with_reducible repeat (first | refine blk_drewN ?_ _ | refine blk_drew ?_ | refine blk_alloc ?_ _)); exact BK153.out) hb)
            have n3_ := Aside0.mk (below_step (by repeat (first | (with_reducible first | exact HB.out | apply below_alloc | apply pw_below_drewN | apply below_drew1 | refine below_set ?_ GE146.out | refine below_set ?_ GE147.out | refine below_set ?_ GE153.out) | exact HB.out)) hb)
            clear BK146
            clear BK147
            clear BK153
            clear HB
            have BK146 := n0_
            have BK147 := n1_
            have BK153 := n2_
            have HB := n3_
            clear n0_ n1_ n2_ n3_
            (try clear hb)
            (try clear hb2)
            (try clear hk)
            (try clear hi)
            refine hK.out _ _ ⟨(blk_cell BK146.out 0).trans rfl, (blk_cell BK146.out 1).trans rfl, (blk_cell BK146.out 2).trans rfl, (blk_cell BK146.out 3).trans rfl, (blk_cell BK153.out 0).trans rfl, (blk_cell BK153.out 1).trans rfl, (blk_cell BK153.out 2).trans rfl, (blk_cell BK153.out 3).trans rfl, (blk_cell BK147.out 0).trans rfl, (blk_cell BK147.out 1).trans rfl, (blk_cell BK147.out 2).trans rfl, (blk_cell BK147.out 3).trans rfl⟩ (fun hHeld => ?_)
            clear hK K
            refine norm_ (a' := ?_) ?_ ?_
            rotate_left
            · show Act.put _ (some 21) _ = _
              simp only [Act.put, List.setIfInBounds_toArray, List.set_cons_zero, List.set_cons_succ, i64_w, i32_w]
              rfl
            refine one_ (i := 7) (N := some 25) #[true, true, true, true, true, true, true, true, false, false, false, false, false, false, false, false, false, false, false, false, false, false, false, false, false, false, false, false, false, false, false, false, false, false] rfl rfl (one_of HT_.out (by kernel_rfl)) (by decide) (fun K hK => ?_)
            refine goes_ Try.func27 (by kernel_rfl) rfl #[.agg #[.int .u32 a0_0, .int .u32 a0_1, .int .u32 a0_2, .int .u32 a0_3], .int .u32 a2, .int .u32 a3] (by rfl) rfl rfl (by (try simp only [List.map_toArray, List.map_cons, List.map_nil]); first | done | rfl | (simp only [List.length_drop, List.length_take]; rfl)) ?_
            with_reducible refine (croftlaw06_has.calls a0_0 a0_1 a0_2 a0_3 a2 a3 t155 _ A21.out).mono ?_
            rintro e w33 ⟨rfl, hb⟩
            refine ⟨_, rfl, ?_⟩
            have n0_ := Aside0.mk (blk_below (g := gb146) (o := .cells #[.int .u32 a0_0, .int .u32 a0_1, .int .u32 a0_2, .int .u32 a0_3] 24 (0, 0)) (by (with_reducible repeat (first | refine blk_drewN ?_ _ | refine blk_drew ?_ | refine blk_alloc ?_ _)); exact BK146.out) hb)
            have n1_ := Aside0.mk (blk_below (g := gb147) (o := .cells #[.int .u32 a1_0, .int .u32 a1_1, .int .u32 a1_2, .int .u32 a1_3] 24 (0, 0)) (by (with_reducible repeat (first | refine blk_drewN ?_ _ | refine blk_drew ?_ | refine blk_alloc ?_ _)); exact BK147.out) hb)
            have n2_ := Aside0.mk (blk_below (g := gb153) (o := .cells #[.int .u32 t149, .int .u32 t150, .int .u32 t151, .int .u32 t152] 24 (0, 0)) (by (with_reducible repeat (first | refine blk_drewN ?_ _ | refine blk_drew ?_ | refine blk_alloc ?_ _)); exact BK153.out) hb)
            have n3_ := Aside0.mk (below_step (by repeat (first | (with_reducible first | exact HB.out | apply below_alloc | apply pw_below_drewN | apply below_drew1 | refine below_set ?_ GE146.out | refine below_set ?_ GE147.out | refine below_set ?_ GE153.out) | exact HB.out)) hb)
            clear BK146
            clear BK147
            clear BK153
            clear HB
            have BK146 := n0_
            have BK147 := n1_
            have BK153 := n2_
            have HB := n3_
            clear n0_ n1_ n2_ n3_
            (try clear hb)
            (try clear hb2)
            (try clear hk)
            (try clear hi)
            refine hK.out _ _ ⟨(blk_cell BK146.out 0).trans rfl, (blk_cell BK146.out 1).trans rfl, (blk_cell BK146.out 2).trans rfl, (blk_cell BK146.out 3).trans rfl, (blk_cell BK153.out 0).trans rfl, (blk_cell BK153.out 1).trans rfl, (blk_cell BK153.out 2).trans rfl, (blk_cell BK153.out 3).trans rfl, (blk_cell BK147.out 0).trans rfl, (blk_cell BK147.out 1).trans rfl, (blk_cell BK147.out 2).trans rfl, (blk_cell BK147.out 3).trans rfl⟩ (fun hHeld => ?_)
            clear hK K
            refine norm_ (a' := ?_) ?_ ?_
            rotate_left
            · show Act.put _ (some 25) _ = _
              simp only [Act.put, List.setIfInBounds_toArray, List.set_cons_zero, List.set_cons_succ, i64_w, i32_w]
              rfl
            refine pure_ (i := 8) (N := some 26) (v := ?_) (a' := ?_) #[true, true, true, true, true, true, true, true, true, false, false, false, false, false, false, false, false, false, false, false, false, false, false, false, false, false, false, false, false, false, false, false, false, false] rfl rfl (any_of HT_.out (by kernel_rfl)) (fun _ _ _ h => h) (Or.inl ⟨by rfl, ?_⟩) ?_ ?_
            rotate_left
            · intro w'
              go_simp
              with_reducible rfl
            rotate_left
            · simp only [Act.put, List.setIfInBounds_toArray, List.set_cons_zero, List.set_cons_succ, i64_w, i32_w]
              rfl
            refine pure_ (i := 9) (N := some 27) (v := ?_) (a' := ?_) #[true, true, true, true, true, true, true, true, true, true, false, false, false, false, false, false, false, false, false, false, false, false, false, false, false, false, false, false, false, false, false, false, false, false] rfl rfl (any_of HT_.out (by kernel_rfl)) (fun _ _ _ h => h) (Or.inl ⟨by rfl, ?_⟩) ?_ ?_
            rotate_left
            · intro w'
              go_simp
              with_reducible rfl
            rotate_left
            · simp only [Act.put, List.setIfInBounds_toArray, List.set_cons_zero, List.set_cons_succ, i64_w, i32_w]
              rfl
            refine pure_ (i := 12) (N := some 30) (v := ?_) (a' := ?_) #[true, true, true, true, true, true, true, true, true, true, false, false, true, false, false, false, false, false, false, false, false, false, false, false, false, false, false, false, false, false, false, false, false, false] rfl rfl (any_of HT_.out (by kernel_rfl)) (fun _ _ _ h => h) (Or.inl ⟨by rfl, ?_⟩) ?_ ?_
            rotate_left
            · intro w'
              go_simp
              with_reducible rfl
            rotate_left
            · simp only [Act.put, List.setIfInBounds_toArray, List.set_cons_zero, List.set_cons_succ, i64_w, i32_w]
              rfl
            refine take_ (i := 10) (N := some 28) (v := ?_) (a' := ?_) #[true, true, true, true, true, true, true, true, true, true, true, false, true, false, false, false, false, false, false, false, false, false, false, false, false, false, false, false, false, false, false, false, false, false] rfl rfl (take_ofW HT_.out HW_.out (by kernel_rfl)) (fun _ _ _ h => h) (Or.inl ⟨by rfl, ?_⟩) hHeld ?_ ?_
            rotate_left
            · rintro w' ⟨s0, s1, s2, s3, s4, s5, s6, s7, s8, s9, s10, s11⟩
              go_simp
              with_reducible rfl
            rotate_left
            · simp only [Act.put, List.setIfInBounds_toArray, List.set_cons_zero, List.set_cons_succ, i64_w, i32_w]
              rfl
            refine take_ (i := 13) (N := some 31) (v := ?_) (a' := ?_) #[true, true, true, true, true, true, true, true, true, true, true, false, true, true, false, false, false, false, false, false, false, false, false, false, false, false, false, false, false, false, false, false, false, false] rfl rfl (take_ofW HT_.out HW_.out (by kernel_rfl)) (fun _ _ _ h => h) (Or.inl ⟨by rfl, ?_⟩) hHeld ?_ ?_
            rotate_left
            · rintro w' ⟨s0, s1, s2, s3, s4, s5, s6, s7, s8, s9, s10, s11⟩
              go_simp
              with_reducible rfl
            rotate_left
            · simp only [Act.put, List.setIfInBounds_toArray, List.set_cons_zero, List.set_cons_succ, i64_w, i32_w]
              rfl
            refine one_ (i := 11) (N := some 29) #[true, true, true, true, true, true, true, true, true, true, true, true, true, true, false, false, false, false, false, false, false, false, false, false, false, false, false, false, false, false, false, false, false, false] rfl rfl (one_of HT_.out (by kernel_rfl)) (by decide) (fun K hK => ?_)
            refine goes_ Try.func31 (by kernel_rfl) rfl #[.agg #[.int .u32 a0_0, .int .u32 a0_1, .int .u32 a0_2, .int .u32 a0_3]] (by rfl) rfl rfl (by (try simp only [List.map_toArray, List.map_cons, List.map_nil]); first | done | rfl | (simp only [List.length_drop, List.length_take]; rfl)) ?_
            with_reducible refine (rect_Empty.calls a0_0 a0_1 a0_2 a0_3 t156 _ A23.out).mono ?_
            rintro e w34 ⟨rfl, hb⟩
            refine ⟨_, rfl, ?_⟩
            have n0_ := Aside0.mk (blk_below (g := gb146) (o := .cells #[.int .u32 a0_0, .int .u32 a0_1, .int .u32 a0_2, .int .u32 a0_3] 24 (0, 0)) (by (with_reducible repeat (first | refine blk_drewN ?_ _ | refine blk_drew ?_ | refine blk_alloc ?_ _)); exact BK146.out) hb)
            have n1_ := Aside0.mk (blk_below (g := gb147) (o := .cells #[.int .u32 a1_0, .int .u32 a1_1, .int .u32 a1_2, .int .u32 a1_3] 24 (0, 0)) (by (with_reducible repeat (first | refine blk_drewN ?_ _ | refine blk_drew ?_ | refine blk_alloc ?_ _)); exact BK147.out) hb)
            have n2_ := Aside0.mk (blk_below (g := gb153) (o := .cells #[.int .u32 t149, .int .u32 t150, .int .u32 t151, .int .u32 t152] 24 (0, 0)) (by (with_reducible repeat (first | refine blk_drewN ?_ _ | refine blk_drew ?_ | refine blk_alloc ?_ _)); exact BK153.out) hb)
            have n3_ := Aside0.mk (below_step (by repeat (first | (with_reducible first | exact HB.out | apply below_alloc | apply pw_below_drewN | apply below_drew1 | refine below_set ?_ GE146.out | refine below_set ?_ GE147.out | refine below_set ?_ GE153.out) | exact HB.out)) hb)
            clear BK146
            clear BK147
            clear BK153
            clear HB
            have BK146 := n0_
            have BK147 := n1_
            have BK153 := n2_
            have HB := n3_
            clear n0_ n1_ n2_ n3_
            (try clear hb)
            (try clear hb2)
            (try clear hk)
            (try clear hi)
            refine hK.out _ _ ⟨(blk_cell BK146.out 0).trans rfl, (blk_cell BK146.out 1).trans rfl, (blk_cell BK146.out 2).trans rfl, (blk_cell BK146.out 3).trans rfl, (blk_cell BK153.out 0).trans rfl, (blk_cell BK153.out 1).trans rfl, (blk_cell BK153.out 2).trans rfl, (blk_cell BK153.out 3).trans rfl, (blk_cell BK147.out 0).trans rfl, (blk_cell BK147.out 1).trans rfl, (blk_cell BK147.out 2).trans rfl, (blk_cell BK147.out 3).trans rfl⟩ (fun hHeld => ?_)
            clear hK K
            refine norm_ (a' := ?_) ?_ ?_
            rotate_left
            · show Act.put _ (some 29) _ = _
              simp only [Act.put, List.setIfInBounds_toArray, List.set_cons_zero, List.set_cons_succ, i64_w, i32_w]
              rfl
            refine one_ (i := 14) (N := some 32) #[true, true, true, true, true, true, true, true, true, true, true, true, true, true, true, false, false, false, false, false, false, false, false, false, false, false, false, false, false, false, false, false, false, false] rfl rfl (one_of HT_.out (by kernel_rfl)) (by decide) (fun K hK => ?_)
            refine goesT_ Try.func28 (by kernel_rfl) rfl #[.agg #[.int .u32 a0_0, .int .u32 a0_1, .int .u32 a0_2, .int .u32 a0_3]] (by rfl) rfl rfl rfl (by (try simp only [List.map_toArray, List.map_cons, List.map_nil]); first | done | rfl | (simp only [List.length_drop, List.length_take]; rfl)) ?_
            with_reducible refine (croftlaw06_RectTells_1.calls a0_0 a0_1 a0_2 a0_3 t157 _ A24.out).mono ?_
            rintro e w35 ⟨rfl, hb⟩
            refine ⟨_, rfl, ?_⟩
            have n0_ := Aside0.mk (blk_below (g := gb146) (o := .cells #[.int .u32 a0_0, .int .u32 a0_1, .int .u32 a0_2, .int .u32 a0_3] 24 (0, 0)) (by (with_reducible repeat (first | refine blk_drewN ?_ _ | refine blk_drew ?_ | refine blk_alloc ?_ _)); exact BK146.out) hb)
            have n1_ := Aside0.mk (blk_below (g := gb147) (o := .cells #[.int .u32 a1_0, .int .u32 a1_1, .int .u32 a1_2, .int .u32 a1_3] 24 (0, 0)) (by (with_reducible repeat (first | refine blk_drewN ?_ _ | refine blk_drew ?_ | refine blk_alloc ?_ _)); exact BK147.out) hb)
            have n2_ := Aside0.mk (blk_below (g := gb153) (o := .cells #[.int .u32 t149, .int .u32 t150, .int .u32 t151, .int .u32 t152] 24 (0, 0)) (by (with_reducible repeat (first | refine blk_drewN ?_ _ | refine blk_drew ?_ | refine blk_alloc ?_ _)); exact BK153.out) hb)
            have n3_ := Aside0.mk (below_step (by repeat (first | (with_reducible first | exact HB.out | apply below_alloc | apply pw_below_drewN | apply below_drew1 | refine below_set ?_ GE146.out | refine below_set ?_ GE147.out | refine below_set ?_ GE153.out) | exact HB.out)) hb)
            clear BK146
            clear BK147
            clear BK153
            clear HB
            have BK146 := n0_
            have BK147 := n1_
            have BK153 := n2_
            have HB := n3_
            clear n0_ n1_ n2_ n3_
            (try clear hb)
            (try clear hb2)
            (try clear hk)
            (try clear hi)
            refine hK.out _ _ ⟨(blk_cell BK146.out 0).trans rfl, (blk_cell BK146.out 1).trans rfl, (blk_cell BK146.out 2).trans rfl, (blk_cell BK146.out 3).trans rfl, (blk_cell BK153.out 0).trans rfl, (blk_cell BK153.out 1).trans rfl, (blk_cell BK153.out 2).trans rfl, (blk_cell BK153.out 3).trans rfl, (blk_cell BK147.out 0).trans rfl, (blk_cell BK147.out 1).trans rfl, (blk_cell BK147.out 2).trans rfl, (blk_cell BK147.out 3).trans rfl⟩ (fun hHeld => ?_)
            clear hK K
            refine norm_ (a' := ?_) ?_ ?_
            rotate_left
            · show Act.put _ (some 32) _ = _
              simp only [Act.put, List.setIfInBounds_toArray, List.set_cons_zero, List.set_cons_succ, i64_w, i32_w]
              rfl
            refine pure_ (i := 15) (N := some 33) (v := ?_) (a' := ?_) #[true, true, true, true, true, true, true, true, true, true, true, true, true, true, true, true, false, false, false, false, false, false, false, false, false, false, false, false, false, false, false, false, false, false] rfl rfl (any_of HT_.out (by kernel_rfl)) (fun _ _ _ h => h) (Or.inl ⟨by rfl, ?_⟩) ?_ ?_
            rotate_left
            · intro w'
              go_simp
              with_reducible rfl
            rotate_left
            · simp only [Act.put, List.setIfInBounds_toArray, List.set_cons_zero, List.set_cons_succ, i64_w, i32_w]
              rfl
            refine pure_ (i := 16) (N := some 34) (v := ?_) (a' := ?_) #[true, true, true, true, true, true, true, true, true, true, true, true, true, true, true, true, true, false, false, false, false, false, false, false, false, false, false, false, false, false, false, false, false, false] rfl rfl (any_of HT_.out (by kernel_rfl)) (fun _ _ _ h => h) (Or.inl ⟨by rfl, ?_⟩) ?_ ?_
            rotate_left
            · intro w'
              go_simp
              with_reducible rfl
            rotate_left
            · simp only [Act.put, List.setIfInBounds_toArray, List.set_cons_zero, List.set_cons_succ, i64_w, i32_w]
              rfl
            refine pure_ (i := 17) (N := some 35) (v := ?_) (a' := ?_) #[true, true, true, true, true, true, true, true, true, true, true, true, true, true, true, true, true, true, false, false, false, false, false, false, false, false, false, false, false, false, false, false, false, false] rfl rfl (any_of HT_.out (by kernel_rfl)) (fun _ _ _ h => h) (Or.inl ⟨by rfl, ?_⟩) ?_ ?_
            rotate_left
            · intro w'
              go_simp
              with_reducible rfl
            rotate_left
            · simp only [Act.put, List.setIfInBounds_toArray, List.set_cons_zero, List.set_cons_succ, i64_w, i32_w]
              rfl
            refine pure_ (i := 19) (N := some 37) (v := ?_) (a' := ?_) #[true, true, true, true, true, true, true, true, true, true, true, true, true, true, true, true, true, true, false, true, false, false, false, false, false, false, false, false, false, false, false, false, false, false] rfl rfl (any_of HT_.out (by kernel_rfl)) (fun _ _ _ h => h) (Or.inl ⟨by rfl, ?_⟩) ?_ ?_
            rotate_left
            · intro w'
              go_simp
              with_reducible rfl
            rotate_left
            · simp only [Act.put, List.setIfInBounds_toArray, List.set_cons_zero, List.set_cons_succ, i64_w, i32_w]
              rfl
            refine pure_ (i := 20) (N := some 38) (v := ?_) (a' := ?_) #[true, true, true, true, true, true, true, true, true, true, true, true, true, true, true, true, true, true, false, true, true, false, false, false, false, false, false, false, false, false, false, false, false, false] rfl rfl (any_of HT_.out (by kernel_rfl)) (fun _ _ _ h => h) (Or.inl ⟨by rfl, ?_⟩) ?_ ?_
            rotate_left
            · intro w'
              go_simp
              with_reducible rfl
            rotate_left
            · simp only [Act.put, List.setIfInBounds_toArray, List.set_cons_zero, List.set_cons_succ, i64_w, i32_w]
              rfl
            refine pure_ (i := 23) (N := some 41) (v := ?_) (a' := ?_) #[true, true, true, true, true, true, true, true, true, true, true, true, true, true, true, true, true, true, false, true, true, false, false, true, false, false, false, false, false, false, false, false, false, false] rfl rfl (any_of HT_.out (by kernel_rfl)) (fun _ _ _ h => h) (Or.inl ⟨by rfl, ?_⟩) ?_ ?_
            rotate_left
            · intro w'
              go_simp
              with_reducible rfl
            rotate_left
            · simp only [Act.put, List.setIfInBounds_toArray, List.set_cons_zero, List.set_cons_succ, i64_w, i32_w]
              rfl
            refine pure_ (i := 24) (N := some 42) (v := ?_) (a' := ?_) #[true, true, true, true, true, true, true, true, true, true, true, true, true, true, true, true, true, true, false, true, true, false, false, true, true, false, false, false, false, false, false, false, false, false] rfl rfl (any_of HT_.out (by kernel_rfl)) (fun _ _ _ h => h) (Or.inl ⟨by rfl, ?_⟩) ?_ ?_
            rotate_left
            · intro w'
              go_simp
              with_reducible rfl
            rotate_left
            · simp only [Act.put, List.setIfInBounds_toArray, List.set_cons_zero, List.set_cons_succ, i64_w, i32_w]
              rfl
            refine take_ (i := 18) (N := some 36) (v := ?_) (a' := ?_) #[true, true, true, true, true, true, true, true, true, true, true, true, true, true, true, true, true, true, true, true, true, false, false, true, true, false, false, false, false, false, false, false, false, false] rfl rfl (take_ofW HT_.out HW_.out (by kernel_rfl)) (fun _ _ _ h => h) (Or.inl ⟨by rfl, ?_⟩) hHeld ?_ ?_
            rotate_left
            · rintro w' ⟨s0, s1, s2, s3, s4, s5, s6, s7, s8, s9, s10, s11⟩
              go_simp
              with_reducible rfl
            rotate_left
            · simp only [Act.put, List.setIfInBounds_toArray, List.set_cons_zero, List.set_cons_succ, i64_w, i32_w]
              rfl
            refine take_ (i := 22) (N := some 40) (v := ?_) (a' := ?_) #[true, true, true, true, true, true, true, true, true, true, true, true, true, true, true, true, true, true, true, true, true, false, true, true, true, false, false, false, false, false, false, false, false, false] rfl rfl (take_ofW HT_.out HW_.out (by kernel_rfl)) (fun _ _ _ h => h) (Or.inl ⟨by rfl, ?_⟩) hHeld ?_ ?_
            rotate_left
            · rintro w' ⟨s0, s1, s2, s3, s4, s5, s6, s7, s8, s9, s10, s11⟩
              go_simp
              with_reducible rfl
            rotate_left
            · simp only [Act.put, List.setIfInBounds_toArray, List.set_cons_zero, List.set_cons_succ, i64_w, i32_w]
              rfl
            refine one_ (i := 21) (N := some 39) #[true, true, true, true, true, true, true, true, true, true, true, true, true, true, true, true, true, true, true, true, true, true, true, true, true, false, false, false, false, false, false, false, false, false] rfl rfl (one_of HT_.out (by kernel_rfl)) (by decide) (fun K hK => ?_)
            refine goes_ Try.func27 (by kernel_rfl) rfl #[.agg #[.int .u32 t149, .int .u32 t150, .int .u32 t151, .int .u32 t152], .int .u32 a2, .int .u32 a3] (by rfl) rfl rfl (by (try simp only [List.map_toArray, List.map_cons, List.map_nil]); first | done | rfl | (simp only [List.length_drop, List.length_take]; rfl)) ?_
            with_reducible refine (croftlaw06_has.calls t149 t150 t151 t152 a2 a3 t158 _ A26.out).mono ?_
            rintro e w36 ⟨rfl, hb⟩
            refine ⟨_, rfl, ?_⟩
            have n0_ := Aside0.mk (blk_below (g := gb146) (o := .cells #[.int .u32 a0_0, .int .u32 a0_1, .int .u32 a0_2, .int .u32 a0_3] 24 (0, 0)) (by (with_reducible repeat (first | refine blk_drewN ?_ _ | refine blk_drew ?_ | refine blk_alloc ?_ _)); exact BK146.out) hb)
            have n1_ := Aside0.mk (blk_below (g := gb147) (o := .cells #[.int .u32 a1_0, .int .u32 a1_1, .int .u32 a1_2, .int .u32 a1_3] 24 (0, 0)) (by (with_reducible repeat (first | refine blk_drewN ?_ _ | refine blk_drew ?_ | refine blk_alloc ?_ _)); exact BK147.out) hb)
            have n2_ := Aside0.mk (blk_below (g := gb153) (o := .cells #[.int .u32 t149, .int .u32 t150, .int .u32 t151, .int .u32 t152] 24 (0, 0)) (by (with_reducible repeat (first | refine blk_drewN ?_ _ | refine blk_drew ?_ | refine blk_alloc ?_ _)); exact BK153.out) hb)
            have n3_ := Aside0.mk (below_step (by repeat (first | (with_reducible first | exact HB.out | apply below_alloc | apply pw_below_drewN | apply below_drew1 | refine below_set ?_ GE146.out | refine below_set ?_ GE147.out | refine below_set ?_ GE153.out) | exact HB.out)) hb)
            clear BK146
            clear BK147
            clear BK153
            clear HB
            have BK146 := n0_
            have BK147 := n1_
            have BK153 := n2_
            have HB := n3_
            clear n0_ n1_ n2_ n3_
            (try clear hb)
            (try clear hb2)
            (try clear hk)
            (try clear hi)
            refine hK.out _ _ ⟨(blk_cell BK146.out 0).trans rfl, (blk_cell BK146.out 1).trans rfl, (blk_cell BK146.out 2).trans rfl, (blk_cell BK146.out 3).trans rfl, (blk_cell BK153.out 0).trans rfl, (blk_cell BK153.out 1).trans rfl, (blk_cell BK153.out 2).trans rfl, (blk_cell BK153.out 3).trans rfl, (blk_cell BK147.out 0).trans rfl, (blk_cell BK147.out 1).trans rfl, (blk_cell BK147.out 2).trans rfl, (blk_cell BK147.out 3).trans rfl⟩ (fun hHeld => ?_)
            clear hK K
            refine norm_ (a' := ?_) ?_ ?_
            rotate_left
            · show Act.put _ (some 39) _ = _
              simp only [Act.put, List.setIfInBounds_toArray, List.set_cons_zero, List.set_cons_succ, i64_w, i32_w]
              rfl
            refine one_ (i := 25) (N := some 43) #[true, true, true, true, true, true, true, true, true, true, true, true, true, true, true, true, true, true, true, true, true, true, true, true, true, true, false, false, false, false, false, false, false, false] rfl rfl (one_of HT_.out (by kernel_rfl)) (by decide) (fun K hK => ?_)
            refine goes_ Try.func27 (by kernel_rfl) rfl #[.agg #[.int .u32 a0_0, .int .u32 a0_1, .int .u32 a0_2, .int .u32 a0_3], .int .u32 a2, .int .u32 a3] (by rfl) rfl rfl (by (try simp only [List.map_toArray, List.map_cons, List.map_nil]); first | done | rfl | (simp only [List.length_drop, List.length_take]; rfl)) ?_
            with_reducible refine (croftlaw06_has.calls a0_0 a0_1 a0_2 a0_3 a2 a3 true _ A27.out).mono ?_
            rintro e w37 ⟨rfl, hb⟩
            refine ⟨_, rfl, ?_⟩
            have n0_ := Aside0.mk (blk_below (g := gb146) (o := .cells #[.int .u32 a0_0, .int .u32 a0_1, .int .u32 a0_2, .int .u32 a0_3] 24 (0, 0)) (by (with_reducible repeat (first | refine blk_drewN ?_ _ | refine blk_drew ?_ | refine blk_alloc ?_ _)); exact BK146.out) hb)
            have n1_ := Aside0.mk (blk_below (g := gb147) (o := .cells #[.int .u32 a1_0, .int .u32 a1_1, .int .u32 a1_2, .int .u32 a1_3] 24 (0, 0)) (by (with_reducible repeat (first | refine blk_drewN ?_ _ | refine blk_drew ?_ | refine blk_alloc ?_ _)); exact BK147.out) hb)
            have n2_ := Aside0.mk (blk_below (g := gb153) (o := .cells #[.int .u32 t149, .int .u32 t150, .int .u32 t151, .int .u32 t152] 24 (0, 0)) (by (with_reducible repeat (first | refine blk_drewN ?_ _ | refine blk_drew ?_ | refine blk_alloc ?_ _)); exact BK153.out) hb)
            have n3_ := Aside0.mk (below_step (by repeat (first | (with_reducible first | exact HB.out | apply below_alloc | apply pw_below_drewN | apply below_drew1 | refine below_set ?_ GE146.out | refine below_set ?_ GE147.out | refine below_set ?_ GE153.out) | exact HB.out)) hb)
            clear BK146
            clear BK147
            clear BK153
            clear HB
            have BK146 := n0_
            have BK147 := n1_
            have BK153 := n2_
            have HB := n3_
            clear n0_ n1_ n2_ n3_
            (try clear hb)
            (try clear hb2)
            (try clear hk)
            (try clear hi)
            refine hK.out _ _ ⟨(blk_cell BK146.out 0).trans rfl, (blk_cell BK146.out 1).trans rfl, (blk_cell BK146.out 2).trans rfl, (blk_cell BK146.out 3).trans rfl, (blk_cell BK153.out 0).trans rfl, (blk_cell BK153.out 1).trans rfl, (blk_cell BK153.out 2).trans rfl, (blk_cell BK153.out 3).trans rfl, (blk_cell BK147.out 0).trans rfl, (blk_cell BK147.out 1).trans rfl, (blk_cell BK147.out 2).trans rfl, (blk_cell BK147.out 3).trans rfl⟩ (fun hHeld => ?_)
            clear hK K
            refine norm_ (a' := ?_) ?_ ?_
            rotate_left
            · show Act.put _ (some 43) _ = _
              simp only [Act.put, List.setIfInBounds_toArray, List.set_cons_zero, List.set_cons_succ, i64_w, i32_w]
              rfl
            refine pure_ (i := 26) (N := some 44) (v := ?_) (a' := ?_) #[true, true, true, true, true, true, true, true, true, true, true, true, true, true, true, true, true, true, true, true, true, true, true, true, true, true, true, false, false, false, false, false, false, false] rfl rfl (any_of HT_.out (by kernel_rfl)) (fun _ _ _ h => h) (Or.inl ⟨by rfl, ?_⟩) ?_ ?_
            rotate_left
            · intro w'
              go_simp
              with_reducible rfl
            rotate_left
            · simp only [Act.put, List.setIfInBounds_toArray, List.set_cons_zero, List.set_cons_succ, i64_w, i32_w]
              rfl
            refine pure_ (i := 28) (N := some 46) (v := ?_) (a' := ?_) #[true, true, true, true, true, true, true, true, true, true, true, true, true, true, true, true, true, true, true, true, true, true, true, true, true, true, true, false, true, false, false, false, false, false] rfl rfl (any_of HT_.out (by kernel_rfl)) (fun _ _ _ h => h) (Or.inl ⟨by rfl, ?_⟩) ?_ ?_
            rotate_left
            · intro w'
              go_simp
              with_reducible rfl
            rotate_left
            · simp only [Act.put, List.setIfInBounds_toArray, List.set_cons_zero, List.set_cons_succ, i64_w, i32_w]
              rfl
            refine pure_ (i := 29) (N := some 47) (v := ?_) (a' := ?_) #[true, true, true, true, true, true, true, true, true, true, true, true, true, true, true, true, true, true, true, true, true, true, true, true, true, true, true, false, true, true, false, false, false, false] rfl rfl (any_of HT_.out (by kernel_rfl)) (fun _ _ _ h => h) (Or.inl ⟨by rfl, ?_⟩) ?_ ?_
            rotate_left
            · intro w'
              go_simp
              with_reducible rfl
            rotate_left
            · simp only [Act.put, List.setIfInBounds_toArray, List.set_cons_zero, List.set_cons_succ, i64_w, i32_w]
              rfl
            refine take_ (i := 27) (N := some 45) (v := ?_) (a' := ?_) #[true, true, true, true, true, true, true, true, true, true, true, true, true, true, true, true, true, true, true, true, true, true, true, true, true, true, true, true, true, true, false, false, false, false] rfl rfl (take_ofW HT_.out HW_.out (by kernel_rfl)) (fun _ _ _ h => h) (Or.inl ⟨by rfl, ?_⟩) hHeld ?_ ?_
            rotate_left
            · rintro w' ⟨s0, s1, s2, s3, s4, s5, s6, s7, s8, s9, s10, s11⟩
              go_simp
              with_reducible rfl
            rotate_left
            · simp only [Act.put, List.setIfInBounds_toArray, List.set_cons_zero, List.set_cons_succ, i64_w, i32_w]
              rfl
            refine one_ (i := 30) (N := some 48) #[true, true, true, true, true, true, true, true, true, true, true, true, true, true, true, true, true, true, true, true, true, true, true, true, true, true, true, true, true, true, true, false, false, false] rfl rfl (one_of HT_.out (by kernel_rfl)) (by decide) (fun K hK => ?_)
            refine goes_ Try.func27 (by kernel_rfl) rfl #[.agg #[.int .u32 a1_0, .int .u32 a1_1, .int .u32 a1_2, .int .u32 a1_3], .int .u32 a2, .int .u32 a3] (by rfl) rfl rfl (by (try simp only [List.map_toArray, List.map_cons, List.map_nil]); first | done | rfl | (simp only [List.length_drop, List.length_take]; rfl)) ?_
            with_reducible refine (croftlaw06_has.calls a1_0 a1_1 a1_2 a1_3 a2 a3 t160 _ A29.out).mono ?_
            rintro e w38 ⟨rfl, hb⟩
            refine ⟨_, rfl, ?_⟩
            have n0_ := Aside0.mk (blk_below (g := gb146) (o := .cells #[.int .u32 a0_0, .int .u32 a0_1, .int .u32 a0_2, .int .u32 a0_3] 24 (0, 0)) (by (with_reducible repeat (first | refine blk_drewN ?_ _ | refine blk_drew ?_ | refine blk_alloc ?_ _)); exact BK146.out) hb)
            have n1_ := Aside0.mk (blk_below (g := gb147) (o := .cells #[.int .u32 a1_0, .int .u32 a1_1, .int .u32 a1_2, .int .u32 a1_3] 24 (0, 0)) (by (with_reducible repeat (first | refine blk_drewN ?_ _ | refine blk_drew ?_ | refine blk_alloc ?_ _)); exact BK147.out) hb)
            have n2_ := Aside0.mk (blk_below (g := gb153) (o := .cells #[.int .u32 t149, .int .u32 t150, .int .u32 t151, .int .u32 t152] 24 (0, 0)) (by (with_reducible repeat (first | refine blk_drewN ?_ _ | refine blk_drew ?_ | refine blk_alloc ?_ _)); exact BK153.out) hb)
            have n3_ := Aside0.mk (below_step (by repeat (first | (with_reducible first | exact HB.out | apply below_alloc | apply pw_below_drewN | apply below_drew1 | refine below_set ?_ GE146.out | refine below_set ?_ GE147.out | refine below_set ?_ GE153.out) | exact HB.out)) hb)
            clear BK146
            clear BK147
            clear BK153
            clear HB
            have BK146 := n0_
            have BK147 := n1_
            have BK153 := n2_
            have HB := n3_
            clear n0_ n1_ n2_ n3_
            (try clear hb)
            (try clear hb2)
            (try clear hk)
            (try clear hi)
            refine hK.out _ _ ⟨(blk_cell BK146.out 0).trans rfl, (blk_cell BK146.out 1).trans rfl, (blk_cell BK146.out 2).trans rfl, (blk_cell BK146.out 3).trans rfl, (blk_cell BK153.out 0).trans rfl, (blk_cell BK153.out 1).trans rfl, (blk_cell BK153.out 2).trans rfl, (blk_cell BK153.out 3).trans rfl, (blk_cell BK147.out 0).trans rfl, (blk_cell BK147.out 1).trans rfl, (blk_cell BK147.out 2).trans rfl, (blk_cell BK147.out 3).trans rfl⟩ (fun hHeld => ?_)
            clear hK K
            refine norm_ (a' := ?_) ?_ ?_
            rotate_left
            · show Act.put _ (some 48) _ = _
              simp only [Act.put, List.setIfInBounds_toArray, List.set_cons_zero, List.set_cons_succ, i64_w, i32_w]
              rfl
            refine pure_ (i := 31) (N := some 49) (v := ?_) (a' := ?_) #[true, true, true, true, true, true, true, true, true, true, true, true, true, true, true, true, true, true, true, true, true, true, true, true, true, true, true, true, true, true, true, true, false, false] rfl rfl (any_of HT_.out (by kernel_rfl)) (fun _ _ _ h => h) (Or.inl ⟨by rfl, ?_⟩) ?_ ?_
            rotate_left
            · intro w'
              go_simp
              with_reducible rfl
            rotate_left
            · simp only [Act.put, List.setIfInBounds_toArray, List.set_cons_zero, List.set_cons_succ, i64_w, i32_w]
              rfl
            refine pure_ (i := 32) (N := some 50) (v := ?_) (a' := ?_) #[true, true, true, true, true, true, true, true, true, true, true, true, true, true, true, true, true, true, true, true, true, true, true, true, true, true, true, true, true, true, true, true, true, false] rfl rfl (any_of HT_.out (by kernel_rfl)) (fun _ _ _ h => h) (Or.inl ⟨by rfl, ?_⟩) ?_ ?_
            rotate_left
            · intro w'
              go_simp
              with_reducible rfl
            rotate_left
            · simp only [Act.put, List.setIfInBounds_toArray, List.set_cons_zero, List.set_cons_succ, i64_w, i32_w]
              rfl
            refine pure_ (i := 33) (N := some 51) (v := ?_) (a' := ?_) #[true, true, true, true, true, true, true, true, true, true, true, true, true, true, true, true, true, true, true, true, true, true, true, true, true, true, true, true, true, true, true, true, true, true] rfl rfl (any_of HT_.out (by kernel_rfl)) (fun _ _ _ h => h) (Or.inl ⟨by rfl, ?_⟩) ?_ ?_
            rotate_left
            · intro w'
              go_simp
              with_reducible rfl
            rotate_left
            · simp only [Act.put, List.setIfInBounds_toArray, List.set_cons_zero, List.set_cons_succ, i64_w, i32_w]
              rfl
            refine done_ (done_of HT_.out (by kernel_rfl)) ?_
            try go_wp2
            go_meet
            case rel => exact ⟨_, ((t158 != t160)), (by first | rfl | (simp; done) | (simp [*]; done)), (by first | exact H'), ⟨by first | omega | exact Nat.le_refl _⟩, ⟨by (with_reducible repeat (first | refine blk_drewN ?_ _ | refine blk_drew ?_ | refine blk_alloc ?_ _)); exact BK146.out⟩, ⟨by (with_reducible repeat (first | refine blk_drewN ?_ _ | refine blk_drew ?_ | refine blk_alloc ?_ _)); exact BK147.out⟩, ⟨by (with_reducible repeat (first | refine blk_drewN ?_ _ | refine blk_drew ?_ | refine blk_alloc ?_ _)); exact BK153.out⟩, ⟨by repeat (first | (with_reducible first | exact HB.out | apply below_alloc | apply pw_below_drewN | apply below_drew1 | refine below_set ?_ GE146.out | refine below_set ?_ GE147.out | refine below_set ?_ GE153.out) | exact HB.out)⟩⟩
          · replace c28 := Bool.eq_false_iff.mpr c28
            subst c28
            have H1 : (croftlaw06_RectTells.j0 k (t158 != false) a0_0 a0_1 a0_2 a0_3 a1_0 a1_1 a1_2 a1_3 t149 t150 t151 t152) = some r := by rw [if_neg (show ¬ (false = true) by decide)] at H; exact H
            clear H
            have H := H1
            clear H1
            have H' := Aside0.mk H
            clear H
            try go_wp2
            have n0_ : Aside0 (((((w16.setCell ⟨gb153, 0, none⟩ (.int .u32 t149)).setCell ⟨gb153, 1, none⟩ (.int .u32 t150)).setCell ⟨gb153, 2, none⟩ (.int .u32 t151)).setCell ⟨gb153, 3, none⟩ (.int .u32 t152)).heap[gb146]? = some (.cells #[.int .u32 a0_0, .int .u32 a0_1, .int .u32 a0_2, .int .u32 a0_3] 24 (0, 0))) := ⟨by (with_reducible repeat (first | refine blk_drewN ?_ _ | refine blk_drew ?_ | refine blk_alloc ?_ _)); refine blk_far ?_ NB146_153.out _; (with_reducible repeat (first | refine blk_drewN ?_ _ | refine blk_drew ?_ | refine blk_alloc ?_ _)); refine blk_far ?_ NB146_153.out _; (with_reducible repeat (first | refine blk_drewN ?_ _ | refine blk_drew ?_ | refine blk_alloc ?_ _)); refine blk_far ?_ NB146_153.out _; (with_reducible repeat (first | refine blk_drewN ?_ _ | refine blk_drew ?_ | refine blk_alloc ?_ _)); refine blk_far ?_ NB146_153.out _; (with_reducible repeat (first | refine blk_drewN ?_ _ | refine blk_drew ?_ | refine blk_alloc ?_ _)); exact BK146.out⟩
            have n1_ : Aside0 (((((w16.setCell ⟨gb153, 0, none⟩ (.int .u32 t149)).setCell ⟨gb153, 1, none⟩ (.int .u32 t150)).setCell ⟨gb153, 2, none⟩ (.int .u32 t151)).setCell ⟨gb153, 3, none⟩ (.int .u32 t152)).heap[gb147]? = some (.cells #[.int .u32 a1_0, .int .u32 a1_1, .int .u32 a1_2, .int .u32 a1_3] 24 (0, 0))) := ⟨by (with_reducible repeat (first | refine blk_drewN ?_ _ | refine blk_drew ?_ | refine blk_alloc ?_ _)); refine blk_far ?_ NB147_153.out _; (with_reducible repeat (first | refine blk_drewN ?_ _ | refine blk_drew ?_ | refine blk_alloc ?_ _)); refine blk_far ?_ NB147_153.out _; (with_reducible repeat (first | refine blk_drewN ?_ _ | refine blk_drew ?_ | refine blk_alloc ?_ _)); refine blk_far ?_ NB147_153.out _; (with_reducible repeat (first | refine blk_drewN ?_ _ | refine blk_drew ?_ | refine blk_alloc ?_ _)); refine blk_far ?_ NB147_153.out _; (with_reducible repeat (first | refine blk_drewN ?_ _ | refine blk_drew ?_ | refine blk_alloc ?_ _)); exact BK147.out⟩
            have n2_ : Aside0 (((((w16.setCell ⟨gb153, 0, none⟩ (.int .u32 t149)).setCell ⟨gb153, 1, none⟩ (.int .u32 t150)).setCell ⟨gb153, 2, none⟩ (.int .u32 t151)).setCell ⟨gb153, 3, none⟩ (.int .u32 t152)).heap[gb153]? = some (.cells #[.int .u32 t149, .int .u32 t150, .int .u32 t151, .int .u32 t152] 24 (0, 0))) := ⟨by (with_reducible repeat (first | refine blk_drewN ?_ _ | refine blk_drew ?_ | refine blk_alloc ?_ _)); refine blk_put (cs := #[.int .u32 t149, .int .u32 t150, .int .u32 t151, .int .u32 0]) ?_ 3 _ rfl; (with_reducible repeat (first | refine blk_drewN ?_ _ | refine blk_drew ?_ | refine blk_alloc ?_ _)); refine blk_put (cs := #[.int .u32 t149, .int .u32 t150, .int .u32 0, .int .u32 0]) ?_ 2 _ rfl; (with_reducible repeat (first | refine blk_drewN ?_ _ | refine blk_drew ?_ | refine blk_alloc ?_ _)); refine blk_put (cs := #[.int .u32 t149, .int .u32 0, .int .u32 0, .int .u32 0]) ?_ 1 _ rfl; (with_reducible repeat (first | refine blk_drewN ?_ _ | refine blk_drew ?_ | refine blk_alloc ?_ _)); refine blk_put (cs := #[.int .u32 0, .int .u32 0, .int .u32 0, .int .u32 0]) ?_ 0 _ rfl; (with_reducible repeat (first | refine blk_drewN ?_ _ | refine blk_drew ?_ | refine blk_alloc ?_ _)); exact BK153.out⟩
            have n3_ : Aside0 (Below w.heap.size w ((((w16.setCell ⟨gb153, 0, none⟩ (.int .u32 t149)).setCell ⟨gb153, 1, none⟩ (.int .u32 t150)).setCell ⟨gb153, 2, none⟩ (.int .u32 t151)).setCell ⟨gb153, 3, none⟩ (.int .u32 t152))) := ⟨by repeat (first | (with_reducible first | exact HB.out | apply below_alloc | apply pw_below_drewN | apply below_drew1 | refine below_set ?_ GE146.out | refine below_set ?_ GE147.out | refine below_set ?_ GE153.out) | exact HB.out)⟩
            (try clear BK146)
            (try clear BK147)
            (try clear BK153)
            (try clear HB)
            generalize ((((w16.setCell ⟨gb153, 0, none⟩ (.int .u32 t149)).setCell ⟨gb153, 1, none⟩ (.int .u32 t150)).setCell ⟨gb153, 2, none⟩ (.int .u32 t151)).setCell ⟨gb153, 3, none⟩ (.int .u32 t152)) = w39 at n0_ n1_ n2_ n3_ ⊢
            have BK146 := n0_
            have BK147 := n1_
            have BK153 := n2_
            have HB := n3_
            clear n0_ n1_ n2_ n3_
            have n0_ := Aside0.mk (blk_drew BK146.out)
            have n1_ := Aside0.mk (blk_drew BK147.out)
            have n2_ := Aside0.mk (blk_drew BK153.out)
            have n3_ := Aside0.mk (below_drew1 HB.out)
            clear BK146
            clear BK147
            clear BK153
            clear HB
            have BK146 := n0_
            have BK147 := n1_
            have BK153 := n2_
            have HB := n3_
            clear n0_ n1_ n2_ n3_
            refine start_ (n := 34) (S := fun w' => w'.cell? ⟨gb146, 0, none⟩ = some (.int .u32 a0_0) ∧ w'.cell? ⟨gb146, 1, none⟩ = some (.int .u32 a0_1) ∧ w'.cell? ⟨gb146, 2, none⟩ = some (.int .u32 a0_2) ∧ w'.cell? ⟨gb146, 3, none⟩ = some (.int .u32 a0_3) ∧ w'.cell? ⟨gb153, 0, none⟩ = some (.int .u32 t149) ∧ w'.cell? ⟨gb153, 1, none⟩ = some (.int .u32 t150) ∧ w'.cell? ⟨gb153, 2, none⟩ = some (.int .u32 t151) ∧ w'.cell? ⟨gb153, 3, none⟩ = some (.int .u32 t152)) (ds := []) #[false, false, false, false, false, false, false, false, false, false, false, false, false, false, false, false, false, false, false, false, false, false, false, false, false, false, false, false, false, false, false, false, false, false] (by kernel_rfl) rfl rfl ⟨(blk_cell BK146.out 0).trans rfl, (blk_cell BK146.out 1).trans rfl, (blk_cell BK146.out 2).trans rfl, (blk_cell BK146.out 3).trans rfl, (blk_cell BK153.out 0).trans rfl, (blk_cell BK153.out 1).trans rfl, (blk_cell BK153.out 2).trans rfl, (blk_cell BK153.out 3).trans rfl⟩ (fun hHeld => ?_); refine with_tabW croftlaw06_RectTells.tab5 croftlaw06_RectTells.bits5 (fun HT_ HW_ => ?_)
            generalize w39.drew = w40 at BK146 BK147 BK153 HB hHeld ⊢
            refine pure_ (i := 1) (N := some 19) (v := ?_) (a' := ?_) #[false, true, false, false, false, false, false, false, false, false, false, false, false, false, false, false, false, false, false, false, false, false, false, false, false, false, false, false, false, false, false, false, false, false] rfl rfl (any_of HT_.out (by kernel_rfl)) (fun _ _ _ h => h) (Or.inl ⟨by rfl, ?_⟩) ?_ ?_
            rotate_left
            · intro w'
              go_simp
              with_reducible rfl
            rotate_left
            · simp only [Act.put, List.setIfInBounds_toArray, List.set_cons_zero, List.set_cons_succ, i64_w, i32_w]
              rfl
            refine pure_ (i := 2) (N := some 20) (v := ?_) (a' := ?_) #[false, true, true, false, false, false, false, false, false, false, false, false, false, false, false, false, false, false, false, false, false, false, false, false, false, false, false, false, false, false, false, false, false, false] rfl rfl (any_of HT_.out (by kernel_rfl)) (fun _ _ _ h => h) (Or.inl ⟨by rfl, ?_⟩) ?_ ?_
            rotate_left
            · intro w'
              go_simp
              with_reducible rfl
            rotate_left
            · simp only [Act.put, List.setIfInBounds_toArray, List.set_cons_zero, List.set_cons_succ, i64_w, i32_w]
              rfl
            refine pure_ (i := 5) (N := some 23) (v := ?_) (a' := ?_) #[false, true, true, false, false, true, false, false, false, false, false, false, false, false, false, false, false, false, false, false, false, false, false, false, false, false, false, false, false, false, false, false, false, false] rfl rfl (any_of HT_.out (by kernel_rfl)) (fun _ _ _ h => h) (Or.inl ⟨by rfl, ?_⟩) ?_ ?_
            rotate_left
            · intro w'
              go_simp
              with_reducible rfl
            rotate_left
            · simp only [Act.put, List.setIfInBounds_toArray, List.set_cons_zero, List.set_cons_succ, i64_w, i32_w]
              rfl
            refine pure_ (i := 6) (N := some 24) (v := ?_) (a' := ?_) #[false, true, true, false, false, true, true, false, false, false, false, false, false, false, false, false, false, false, false, false, false, false, false, false, false, false, false, false, false, false, false, false, false, false] rfl rfl (any_of HT_.out (by kernel_rfl)) (fun _ _ _ h => h) (Or.inl ⟨by rfl, ?_⟩) ?_ ?_
            rotate_left
            · intro w'
              go_simp
              with_reducible rfl
            rotate_left
            · simp only [Act.put, List.setIfInBounds_toArray, List.set_cons_zero, List.set_cons_succ, i64_w, i32_w]
              rfl
            refine take_ (i := 0) (N := some 18) (v := ?_) (a' := ?_) #[true, true, true, false, false, true, true, false, false, false, false, false, false, false, false, false, false, false, false, false, false, false, false, false, false, false, false, false, false, false, false, false, false, false] rfl rfl (take_ofW HT_.out HW_.out (by kernel_rfl)) (fun _ _ _ h => h) (Or.inl ⟨by rfl, ?_⟩) hHeld ?_ ?_
            rotate_left
            · rintro w' ⟨s0, s1, s2, s3, s4, s5, s6, s7⟩
              go_simp
              with_reducible rfl
            rotate_left
            · simp only [Act.put, List.setIfInBounds_toArray, List.set_cons_zero, List.set_cons_succ, i64_w, i32_w]
              rfl
            refine take_ (i := 4) (N := some 22) (v := ?_) (a' := ?_) #[true, true, true, false, true, true, true, false, false, false, false, false, false, false, false, false, false, false, false, false, false, false, false, false, false, false, false, false, false, false, false, false, false, false] rfl rfl (take_ofW HT_.out HW_.out (by kernel_rfl)) (fun _ _ _ h => h) (Or.inl ⟨by rfl, ?_⟩) hHeld ?_ ?_
            rotate_left
            · rintro w' ⟨s0, s1, s2, s3, s4, s5, s6, s7⟩
              go_simp
              with_reducible rfl
            rotate_left
            · simp only [Act.put, List.setIfInBounds_toArray, List.set_cons_zero, List.set_cons_succ, i64_w, i32_w]
              rfl
            refine one_ (i := 3) (N := some 21) #[true, true, true, true, true, true, true, false, false, false, false, false, false, false, false, false, false, false, false, false, false, false, false, false, false, false, false, false, false, false, false, false, false, false] rfl rfl (one_of HT_.out (by kernel_rfl)) (by decide) (fun K hK => ?_)
            refine goes_ Try.func30 (by kernel_rfl) rfl #[.agg #[.int .u32 a0_0, .int .u32 a0_1, .int .u32 a0_2, .int .u32 a0_3], .int .u32 a2, .int .u32 a3] (by rfl) rfl rfl (by (try simp only [List.map_toArray, List.map_cons, List.map_nil]); first | done | rfl | (simp only [List.length_drop, List.length_take]; rfl)) ?_
            with_reducible refine (rect_Has.calls a0_0 a0_1 a0_2 a0_3 a2 a3 t154 _ A20.out).mono ?_
            rintro e w41 ⟨rfl, hb⟩
            refine ⟨_, rfl, ?_⟩
            have n0_ := Aside0.mk (blk_below (g := gb146) (o := .cells #[.int .u32 a0_0, .int .u32 a0_1, .int .u32 a0_2, .int .u32 a0_3] 24 (0, 0)) (by (with_reducible repeat (first | refine blk_drewN ?_ _ | refine blk_drew ?_ | refine blk_alloc ?_ _)); exact BK146.out) hb)
            have n1_ := Aside0.mk (blk_below (g := gb147) (o := .cells #[.int .u32 a1_0, .int .u32 a1_1, .int .u32 a1_2, .int .u32 a1_3] 24 (0, 0)) (by (with_reducible repeat (first | refine blk_drewN ?_ _ | refine blk_drew ?_ | refine blk_alloc ?_ _)); exact BK147.out) hb)
            have n2_ := Aside0.mk (blk_below (g := gb153) (o := .cells #[.int .u32 t149, .int .u32 t150, .int .u32 t151, .int .u32 t152] 24 (0, 0)) (by (with_reducible repeat (first | refine blk_drewN ?_ _ | refine blk_drew ?_ | refine blk_alloc ?_ _)); exact BK153.out) hb)
            have n3_ := Aside0.mk (below_step (by repeat (first | (with_reducible first | exact HB.out | apply below_alloc | apply pw_below_drewN | apply below_drew1 | refine below_set ?_ GE146.out | refine below_set ?_ GE147.out | refine below_set ?_ GE153.out) | exact HB.out)) hb)
            clear BK146
            clear BK147
            clear BK153
            clear HB
            have BK146 := n0_
            have BK147 := n1_
            have BK153 := n2_
            have HB := n3_
            clear n0_ n1_ n2_ n3_
            (try clear hb)
            (try clear hb2)
            (try clear hk)
            (try clear hi)
            refine hK.out _ _ ⟨(blk_cell BK146.out 0).trans rfl, (blk_cell BK146.out 1).trans rfl, (blk_cell BK146.out 2).trans rfl, (blk_cell BK146.out 3).trans rfl, (blk_cell BK153.out 0).trans rfl, (blk_cell BK153.out 1).trans rfl, (blk_cell BK153.out 2).trans rfl, (blk_cell BK153.out 3).trans rfl⟩ (fun hHeld => ?_)
            clear hK K
            refine norm_ (a' := ?_) ?_ ?_
            rotate_left
            · show Act.put _ (some 21) _ = _
              simp only [Act.put, List.setIfInBounds_toArray, List.set_cons_zero, List.set_cons_succ, i64_w, i32_w]
              rfl
            refine one_ (i := 7) (N := some 25) #[true, true, true, true, true, true, true, true, false, false, false, false, false, false, false, false, false, false, false, false, false, false, false, false, false, false, false, false, false, false, false, false, false, false] rfl rfl (one_of HT_.out (by kernel_rfl)) (by decide) (fun K hK => ?_)
            refine goes_ Try.func27 (by kernel_rfl) rfl #[.agg #[.int .u32 a0_0, .int .u32 a0_1, .int .u32 a0_2, .int .u32 a0_3], .int .u32 a2, .int .u32 a3] (by rfl) rfl rfl (by (try simp only [List.map_toArray, List.map_cons, List.map_nil]); first | done | rfl | (simp only [List.length_drop, List.length_take]; rfl)) ?_
            with_reducible refine (croftlaw06_has.calls a0_0 a0_1 a0_2 a0_3 a2 a3 t155 _ A21.out).mono ?_
            rintro e w42 ⟨rfl, hb⟩
            refine ⟨_, rfl, ?_⟩
            have n0_ := Aside0.mk (blk_below (g := gb146) (o := .cells #[.int .u32 a0_0, .int .u32 a0_1, .int .u32 a0_2, .int .u32 a0_3] 24 (0, 0)) (by (with_reducible repeat (first | refine blk_drewN ?_ _ | refine blk_drew ?_ | refine blk_alloc ?_ _)); exact BK146.out) hb)
            have n1_ := Aside0.mk (blk_below (g := gb147) (o := .cells #[.int .u32 a1_0, .int .u32 a1_1, .int .u32 a1_2, .int .u32 a1_3] 24 (0, 0)) (by (with_reducible repeat (first | refine blk_drewN ?_ _ | refine blk_drew ?_ | refine blk_alloc ?_ _)); exact BK147.out) hb)
            have n2_ := Aside0.mk (blk_below (g := gb153) (o := .cells #[.int .u32 t149, .int .u32 t150, .int .u32 t151, .int .u32 t152] 24 (0, 0)) (by (with_reducible repeat (first | refine blk_drewN ?_ _ | refine blk_drew ?_ | refine blk_alloc ?_ _)); exact BK153.out) hb)
            have n3_ := Aside0.mk (below_step (by repeat (first | (with_reducible first | exact HB.out | apply below_alloc | apply pw_below_drewN | apply below_drew1 | refine below_set ?_ GE146.out | refine below_set ?_ GE147.out | refine below_set ?_ GE153.out) | exact HB.out)) hb)
            clear BK146
            clear BK147
            clear BK153
            clear HB
            have BK146 := n0_
            have BK147 := n1_
            have BK153 := n2_
            have HB := n3_
            clear n0_ n1_ n2_ n3_
            (try clear hb)
            (try clear hb2)
            (try clear hk)
            (try clear hi)
            refine hK.out _ _ ⟨(blk_cell BK146.out 0).trans rfl, (blk_cell BK146.out 1).trans rfl, (blk_cell BK146.out 2).trans rfl, (blk_cell BK146.out 3).trans rfl, (blk_cell BK153.out 0).trans rfl, (blk_cell BK153.out 1).trans rfl, (blk_cell BK153.out 2).trans rfl, (blk_cell BK153.out 3).trans rfl⟩ (fun hHeld => ?_)
            clear hK K
            refine norm_ (a' := ?_) ?_ ?_
            rotate_left
            · show Act.put _ (some 25) _ = _
              simp only [Act.put, List.setIfInBounds_toArray, List.set_cons_zero, List.set_cons_succ, i64_w, i32_w]
              rfl
            refine pure_ (i := 8) (N := some 26) (v := ?_) (a' := ?_) #[true, true, true, true, true, true, true, true, true, false, false, false, false, false, false, false, false, false, false, false, false, false, false, false, false, false, false, false, false, false, false, false, false, false] rfl rfl (any_of HT_.out (by kernel_rfl)) (fun _ _ _ h => h) (Or.inl ⟨by rfl, ?_⟩) ?_ ?_
            rotate_left
            · intro w'
              go_simp
              with_reducible rfl
            rotate_left
            · simp only [Act.put, List.setIfInBounds_toArray, List.set_cons_zero, List.set_cons_succ, i64_w, i32_w]
              rfl
            refine pure_ (i := 9) (N := some 27) (v := ?_) (a' := ?_) #[true, true, true, true, true, true, true, true, true, true, false, false, false, false, false, false, false, false, false, false, false, false, false, false, false, false, false, false, false, false, false, false, false, false] rfl rfl (any_of HT_.out (by kernel_rfl)) (fun _ _ _ h => h) (Or.inl ⟨by rfl, ?_⟩) ?_ ?_
            rotate_left
            · intro w'
              go_simp
              with_reducible rfl
            rotate_left
            · simp only [Act.put, List.setIfInBounds_toArray, List.set_cons_zero, List.set_cons_succ, i64_w, i32_w]
              rfl
            refine pure_ (i := 12) (N := some 30) (v := ?_) (a' := ?_) #[true, true, true, true, true, true, true, true, true, true, false, false, true, false, false, false, false, false, false, false, false, false, false, false, false, false, false, false, false, false, false, false, false, false] rfl rfl (any_of HT_.out (by kernel_rfl)) (fun _ _ _ h => h) (Or.inl ⟨by rfl, ?_⟩) ?_ ?_
            rotate_left
            · intro w'
              go_simp
              with_reducible rfl
            rotate_left
            · simp only [Act.put, List.setIfInBounds_toArray, List.set_cons_zero, List.set_cons_succ, i64_w, i32_w]
              rfl
            refine take_ (i := 10) (N := some 28) (v := ?_) (a' := ?_) #[true, true, true, true, true, true, true, true, true, true, true, false, true, false, false, false, false, false, false, false, false, false, false, false, false, false, false, false, false, false, false, false, false, false] rfl rfl (take_ofW HT_.out HW_.out (by kernel_rfl)) (fun _ _ _ h => h) (Or.inl ⟨by rfl, ?_⟩) hHeld ?_ ?_
            rotate_left
            · rintro w' ⟨s0, s1, s2, s3, s4, s5, s6, s7⟩
              go_simp
              with_reducible rfl
            rotate_left
            · simp only [Act.put, List.setIfInBounds_toArray, List.set_cons_zero, List.set_cons_succ, i64_w, i32_w]
              rfl
            refine take_ (i := 13) (N := some 31) (v := ?_) (a' := ?_) #[true, true, true, true, true, true, true, true, true, true, true, false, true, true, false, false, false, false, false, false, false, false, false, false, false, false, false, false, false, false, false, false, false, false] rfl rfl (take_ofW HT_.out HW_.out (by kernel_rfl)) (fun _ _ _ h => h) (Or.inl ⟨by rfl, ?_⟩) hHeld ?_ ?_
            rotate_left
            · rintro w' ⟨s0, s1, s2, s3, s4, s5, s6, s7⟩
              go_simp
              with_reducible rfl
            rotate_left
            · simp only [Act.put, List.setIfInBounds_toArray, List.set_cons_zero, List.set_cons_succ, i64_w, i32_w]
              rfl
            refine one_ (i := 11) (N := some 29) #[true, true, true, true, true, true, true, true, true, true, true, true, true, true, false, false, false, false, false, false, false, false, false, false, false, false, false, false, false, false, false, false, false, false] rfl rfl (one_of HT_.out (by kernel_rfl)) (by decide) (fun K hK => ?_)
            refine goes_ Try.func31 (by kernel_rfl) rfl #[.agg #[.int .u32 a0_0, .int .u32 a0_1, .int .u32 a0_2, .int .u32 a0_3]] (by rfl) rfl rfl (by (try simp only [List.map_toArray, List.map_cons, List.map_nil]); first | done | rfl | (simp only [List.length_drop, List.length_take]; rfl)) ?_
            with_reducible refine (rect_Empty.calls a0_0 a0_1 a0_2 a0_3 t156 _ A23.out).mono ?_
            rintro e w43 ⟨rfl, hb⟩
            refine ⟨_, rfl, ?_⟩
            have n0_ := Aside0.mk (blk_below (g := gb146) (o := .cells #[.int .u32 a0_0, .int .u32 a0_1, .int .u32 a0_2, .int .u32 a0_3] 24 (0, 0)) (by (with_reducible repeat (first | refine blk_drewN ?_ _ | refine blk_drew ?_ | refine blk_alloc ?_ _)); exact BK146.out) hb)
            have n1_ := Aside0.mk (blk_below (g := gb147) (o := .cells #[.int .u32 a1_0, .int .u32 a1_1, .int .u32 a1_2, .int .u32 a1_3] 24 (0, 0)) (by (with_reducible repeat (first | refine blk_drewN ?_ _ | refine blk_drew ?_ | refine blk_alloc ?_ _)); exact BK147.out) hb)
            have n2_ := Aside0.mk (blk_below (g := gb153) (o := .cells #[.int .u32 t149, .int .u32 t150, .int .u32 t151, .int .u32 t152] 24 (0, 0)) (by (with_reducible repeat (first | refine blk_drewN ?_ _ | refine blk_drew ?_ | refine blk_alloc ?_ _)); exact BK153.out) hb)
            have n3_ := Aside0.mk (below_step (by repeat (first | (with_reducible first | exact HB.out | apply below_alloc | apply pw_below_drewN | apply below_drew1 | refine below_set ?_ GE146.out | refine below_set ?_ GE147.out | refine below_set ?_ GE153.out) | exact HB.out)) hb)
            clear BK146
            clear BK147
            clear BK153
            clear HB
            have BK146 := n0_
            have BK147 := n1_
            have BK153 := n2_
            have HB := n3_
            clear n0_ n1_ n2_ n3_
            (try clear hb)
            (try clear hb2)
            (try clear hk)
            (try clear hi)
            refine hK.out _ _ ⟨(blk_cell BK146.out 0).trans rfl, (blk_cell BK146.out 1).trans rfl, (blk_cell BK146.out 2).trans rfl, (blk_cell BK146.out 3).trans rfl, (blk_cell BK153.out 0).trans rfl, (blk_cell BK153.out 1).trans rfl, (blk_cell BK153.out 2).trans rfl, (blk_cell BK153.out 3).trans rfl⟩ (fun hHeld => ?_)
            clear hK K
            refine norm_ (a' := ?_) ?_ ?_
            rotate_left
            · show Act.put _ (some 29) _ = _
              simp only [Act.put, List.setIfInBounds_toArray, List.set_cons_zero, List.set_cons_succ, i64_w, i32_w]
              rfl
            refine one_ (i := 14) (N := some 32) #[true, true, true, true, true, true, true, true, true, true, true, true, true, true, true, false, false, false, false, false, false, false, false, false, false, false, false, false, false, false, false, false, false, false] rfl rfl (one_of HT_.out (by kernel_rfl)) (by decide) (fun K hK => ?_)
            refine goesT_ Try.func28 (by kernel_rfl) rfl #[.agg #[.int .u32 a0_0, .int .u32 a0_1, .int .u32 a0_2, .int .u32 a0_3]] (by rfl) rfl rfl rfl (by (try simp only [List.map_toArray, List.map_cons, List.map_nil]); first | done | rfl | (simp only [List.length_drop, List.length_take]; rfl)) ?_
            with_reducible refine (croftlaw06_RectTells_1.calls a0_0 a0_1 a0_2 a0_3 t157 _ A24.out).mono ?_
            rintro e w44 ⟨rfl, hb⟩
            refine ⟨_, rfl, ?_⟩
            have n0_ := Aside0.mk (blk_below (g := gb146) (o := .cells #[.int .u32 a0_0, .int .u32 a0_1, .int .u32 a0_2, .int .u32 a0_3] 24 (0, 0)) (by (with_reducible repeat (first | refine blk_drewN ?_ _ | refine blk_drew ?_ | refine blk_alloc ?_ _)); exact BK146.out) hb)
            have n1_ := Aside0.mk (blk_below (g := gb147) (o := .cells #[.int .u32 a1_0, .int .u32 a1_1, .int .u32 a1_2, .int .u32 a1_3] 24 (0, 0)) (by (with_reducible repeat (first | refine blk_drewN ?_ _ | refine blk_drew ?_ | refine blk_alloc ?_ _)); exact BK147.out) hb)
            have n2_ := Aside0.mk (blk_below (g := gb153) (o := .cells #[.int .u32 t149, .int .u32 t150, .int .u32 t151, .int .u32 t152] 24 (0, 0)) (by (with_reducible repeat (first | refine blk_drewN ?_ _ | refine blk_drew ?_ | refine blk_alloc ?_ _)); exact BK153.out) hb)
            have n3_ := Aside0.mk (below_step (by repeat (first | (with_reducible first | exact HB.out | apply below_alloc | apply pw_below_drewN | apply below_drew1 | refine below_set ?_ GE146.out | refine below_set ?_ GE147.out | refine below_set ?_ GE153.out) | exact HB.out)) hb)
            clear BK146
            clear BK147
            clear BK153
            clear HB
            have BK146 := n0_
            have BK147 := n1_
            have BK153 := n2_
            have HB := n3_
            clear n0_ n1_ n2_ n3_
            (try clear hb)
            (try clear hb2)
            (try clear hk)
            (try clear hi)
            refine hK.out _ _ ⟨(blk_cell BK146.out 0).trans rfl, (blk_cell BK146.out 1).trans rfl, (blk_cell BK146.out 2).trans rfl, (blk_cell BK146.out 3).trans rfl, (blk_cell BK153.out 0).trans rfl, (blk_cell BK153.out 1).trans rfl, (blk_cell BK153.out 2).trans rfl, (blk_cell BK153.out 3).trans rfl⟩ (fun hHeld => ?_)
            clear hK K
            refine norm_ (a' := ?_) ?_ ?_
            rotate_left
            · show Act.put _ (some 32) _ = _
              simp only [Act.put, List.setIfInBounds_toArray, List.set_cons_zero, List.set_cons_succ, i64_w, i32_w]
              rfl
            refine pure_ (i := 15) (N := some 33) (v := ?_) (a' := ?_) #[true, true, true, true, true, true, true, true, true, true, true, true, true, true, true, true, false, false, false, false, false, false, false, false, false, false, false, false, false, false, false, false, false, false] rfl rfl (any_of HT_.out (by kernel_rfl)) (fun _ _ _ h => h) (Or.inl ⟨by rfl, ?_⟩) ?_ ?_
            rotate_left
            · intro w'
              go_simp
              with_reducible rfl
            rotate_left
            · simp only [Act.put, List.setIfInBounds_toArray, List.set_cons_zero, List.set_cons_succ, i64_w, i32_w]
              rfl
            refine pure_ (i := 16) (N := some 34) (v := ?_) (a' := ?_) #[true, true, true, true, true, true, true, true, true, true, true, true, true, true, true, true, true, false, false, false, false, false, false, false, false, false, false, false, false, false, false, false, false, false] rfl rfl (any_of HT_.out (by kernel_rfl)) (fun _ _ _ h => h) (Or.inl ⟨by rfl, ?_⟩) ?_ ?_
            rotate_left
            · intro w'
              go_simp
              with_reducible rfl
            rotate_left
            · simp only [Act.put, List.setIfInBounds_toArray, List.set_cons_zero, List.set_cons_succ, i64_w, i32_w]
              rfl
            refine pure_ (i := 17) (N := some 35) (v := ?_) (a' := ?_) #[true, true, true, true, true, true, true, true, true, true, true, true, true, true, true, true, true, true, false, false, false, false, false, false, false, false, false, false, false, false, false, false, false, false] rfl rfl (any_of HT_.out (by kernel_rfl)) (fun _ _ _ h => h) (Or.inl ⟨by rfl, ?_⟩) ?_ ?_
            rotate_left
            · intro w'
              go_simp
              with_reducible rfl
            rotate_left
            · simp only [Act.put, List.setIfInBounds_toArray, List.set_cons_zero, List.set_cons_succ, i64_w, i32_w]
              rfl
            refine pure_ (i := 19) (N := some 37) (v := ?_) (a' := ?_) #[true, true, true, true, true, true, true, true, true, true, true, true, true, true, true, true, true, true, false, true, false, false, false, false, false, false, false, false, false, false, false, false, false, false] rfl rfl (any_of HT_.out (by kernel_rfl)) (fun _ _ _ h => h) (Or.inl ⟨by rfl, ?_⟩) ?_ ?_
            rotate_left
            · intro w'
              go_simp
              with_reducible rfl
            rotate_left
            · simp only [Act.put, List.setIfInBounds_toArray, List.set_cons_zero, List.set_cons_succ, i64_w, i32_w]
              rfl
            refine pure_ (i := 20) (N := some 38) (v := ?_) (a' := ?_) #[true, true, true, true, true, true, true, true, true, true, true, true, true, true, true, true, true, true, false, true, true, false, false, false, false, false, false, false, false, false, false, false, false, false] rfl rfl (any_of HT_.out (by kernel_rfl)) (fun _ _ _ h => h) (Or.inl ⟨by rfl, ?_⟩) ?_ ?_
            rotate_left
            · intro w'
              go_simp
              with_reducible rfl
            rotate_left
            · simp only [Act.put, List.setIfInBounds_toArray, List.set_cons_zero, List.set_cons_succ, i64_w, i32_w]
              rfl
            refine pure_ (i := 23) (N := some 41) (v := ?_) (a' := ?_) #[true, true, true, true, true, true, true, true, true, true, true, true, true, true, true, true, true, true, false, true, true, false, false, true, false, false, false, false, false, false, false, false, false, false] rfl rfl (any_of HT_.out (by kernel_rfl)) (fun _ _ _ h => h) (Or.inl ⟨by rfl, ?_⟩) ?_ ?_
            rotate_left
            · intro w'
              go_simp
              with_reducible rfl
            rotate_left
            · simp only [Act.put, List.setIfInBounds_toArray, List.set_cons_zero, List.set_cons_succ, i64_w, i32_w]
              rfl
            refine pure_ (i := 24) (N := some 42) (v := ?_) (a' := ?_) #[true, true, true, true, true, true, true, true, true, true, true, true, true, true, true, true, true, true, false, true, true, false, false, true, true, false, false, false, false, false, false, false, false, false] rfl rfl (any_of HT_.out (by kernel_rfl)) (fun _ _ _ h => h) (Or.inl ⟨by rfl, ?_⟩) ?_ ?_
            rotate_left
            · intro w'
              go_simp
              with_reducible rfl
            rotate_left
            · simp only [Act.put, List.setIfInBounds_toArray, List.set_cons_zero, List.set_cons_succ, i64_w, i32_w]
              rfl
            refine take_ (i := 18) (N := some 36) (v := ?_) (a' := ?_) #[true, true, true, true, true, true, true, true, true, true, true, true, true, true, true, true, true, true, true, true, true, false, false, true, true, false, false, false, false, false, false, false, false, false] rfl rfl (take_ofW HT_.out HW_.out (by kernel_rfl)) (fun _ _ _ h => h) (Or.inl ⟨by rfl, ?_⟩) hHeld ?_ ?_
            rotate_left
            · rintro w' ⟨s0, s1, s2, s3, s4, s5, s6, s7⟩
              go_simp
              with_reducible rfl
            rotate_left
            · simp only [Act.put, List.setIfInBounds_toArray, List.set_cons_zero, List.set_cons_succ, i64_w, i32_w]
              rfl
            refine take_ (i := 22) (N := some 40) (v := ?_) (a' := ?_) #[true, true, true, true, true, true, true, true, true, true, true, true, true, true, true, true, true, true, true, true, true, false, true, true, true, false, false, false, false, false, false, false, false, false] rfl rfl (take_ofW HT_.out HW_.out (by kernel_rfl)) (fun _ _ _ h => h) (Or.inl ⟨by rfl, ?_⟩) hHeld ?_ ?_
            rotate_left
            · rintro w' ⟨s0, s1, s2, s3, s4, s5, s6, s7⟩
              go_simp
              with_reducible rfl
            rotate_left
            · simp only [Act.put, List.setIfInBounds_toArray, List.set_cons_zero, List.set_cons_succ, i64_w, i32_w]
              rfl
            refine one_ (i := 21) (N := some 39) #[true, true, true, true, true, true, true, true, true, true, true, true, true, true, true, true, true, true, true, true, true, true, true, true, true, false, false, false, false, false, false, false, false, false] rfl rfl (one_of HT_.out (by kernel_rfl)) (by decide) (fun K hK => ?_)
            refine goes_ Try.func27 (by kernel_rfl) rfl #[.agg #[.int .u32 t149, .int .u32 t150, .int .u32 t151, .int .u32 t152], .int .u32 a2, .int .u32 a3] (by rfl) rfl rfl (by (try simp only [List.map_toArray, List.map_cons, List.map_nil]); first | done | rfl | (simp only [List.length_drop, List.length_take]; rfl)) ?_
            with_reducible refine (croftlaw06_has.calls t149 t150 t151 t152 a2 a3 t158 _ A26.out).mono ?_
            rintro e w45 ⟨rfl, hb⟩
            refine ⟨_, rfl, ?_⟩
            have n0_ := Aside0.mk (blk_below (g := gb146) (o := .cells #[.int .u32 a0_0, .int .u32 a0_1, .int .u32 a0_2, .int .u32 a0_3] 24 (0, 0)) (by (with_reducible repeat (first | refine blk_drewN ?_ _ | refine blk_drew ?_ | refine blk_alloc ?_ _)); exact BK146.out) hb)
            have n1_ := Aside0.mk (blk_below (g := gb147) (o := .cells #[.int .u32 a1_0, .int .u32 a1_1, .int .u32 a1_2, .int .u32 a1_3] 24 (0, 0)) (by (with_reducible repeat (first | refine blk_drewN ?_ _ | refine blk_drew ?_ | refine blk_alloc ?_ _)); exact BK147.out) hb)
            have n2_ := Aside0.mk (blk_below (g := gb153) (o := .cells #[.int .u32 t149, .int .u32 t150, .int .u32 t151, .int .u32 t152] 24 (0, 0)) (by (with_reducible repeat (first | refine blk_drewN ?_ _ | refine blk_drew ?_ | refine blk_alloc ?_ _)); exact BK153.out) hb)
            have n3_ := Aside0.mk (below_step (by repeat (first | (with_reducible first | exact HB.out | apply below_alloc | apply pw_below_drewN | apply below_drew1 | refine below_set ?_ GE146.out | refine below_set ?_ GE147.out | refine below_set ?_ GE153.out) | exact HB.out)) hb)
            clear BK146
            clear BK147
            clear BK153
            clear HB
            have BK146 := n0_
            have BK147 := n1_
            have BK153 := n2_
            have HB := n3_
            clear n0_ n1_ n2_ n3_
            (try clear hb)
            (try clear hb2)
            (try clear hk)
            (try clear hi)
            refine hK.out _ _ ⟨(blk_cell BK146.out 0).trans rfl, (blk_cell BK146.out 1).trans rfl, (blk_cell BK146.out 2).trans rfl, (blk_cell BK146.out 3).trans rfl, (blk_cell BK153.out 0).trans rfl, (blk_cell BK153.out 1).trans rfl, (blk_cell BK153.out 2).trans rfl, (blk_cell BK153.out 3).trans rfl⟩ (fun hHeld => ?_)
            clear hK K
            refine norm_ (a' := ?_) ?_ ?_
            rotate_left
            · show Act.put _ (some 39) _ = _
              simp only [Act.put, List.setIfInBounds_toArray, List.set_cons_zero, List.set_cons_succ, i64_w, i32_w]
              rfl
            refine one_ (i := 25) (N := some 43) #[true, true, true, true, true, true, true, true, true, true, true, true, true, true, true, true, true, true, true, true, true, true, true, true, true, true, false, false, false, false, false, false, false, false] rfl rfl (one_of HT_.out (by kernel_rfl)) (by decide) (fun K hK => ?_)
            refine goes_ Try.func27 (by kernel_rfl) rfl #[.agg #[.int .u32 a0_0, .int .u32 a0_1, .int .u32 a0_2, .int .u32 a0_3], .int .u32 a2, .int .u32 a3] (by rfl) rfl rfl (by (try simp only [List.map_toArray, List.map_cons, List.map_nil]); first | done | rfl | (simp only [List.length_drop, List.length_take]; rfl)) ?_
            with_reducible refine (croftlaw06_has.calls a0_0 a0_1 a0_2 a0_3 a2 a3 false _ A27.out).mono ?_
            rintro e w46 ⟨rfl, hb⟩
            refine ⟨_, rfl, ?_⟩
            have n0_ := Aside0.mk (blk_below (g := gb146) (o := .cells #[.int .u32 a0_0, .int .u32 a0_1, .int .u32 a0_2, .int .u32 a0_3] 24 (0, 0)) (by (with_reducible repeat (first | refine blk_drewN ?_ _ | refine blk_drew ?_ | refine blk_alloc ?_ _)); exact BK146.out) hb)
            have n1_ := Aside0.mk (blk_below (g := gb147) (o := .cells #[.int .u32 a1_0, .int .u32 a1_1, .int .u32 a1_2, .int .u32 a1_3] 24 (0, 0)) (by (with_reducible repeat (first | refine blk_drewN ?_ _ | refine blk_drew ?_ | refine blk_alloc ?_ _)); exact BK147.out) hb)
            have n2_ := Aside0.mk (blk_below (g := gb153) (o := .cells #[.int .u32 t149, .int .u32 t150, .int .u32 t151, .int .u32 t152] 24 (0, 0)) (by (with_reducible repeat (first | refine blk_drewN ?_ _ | refine blk_drew ?_ | refine blk_alloc ?_ _)); exact BK153.out) hb)
            have n3_ := Aside0.mk (below_step (by repeat (first | (with_reducible first | exact HB.out | apply below_alloc | apply pw_below_drewN | apply below_drew1 | refine below_set ?_ GE146.out | refine below_set ?_ GE147.out | refine below_set ?_ GE153.out) | exact HB.out)) hb)
            clear BK146
            clear BK147
            clear BK153
            clear HB
            have BK146 := n0_
            have BK147 := n1_
            have BK153 := n2_
            have HB := n3_
            clear n0_ n1_ n2_ n3_
            (try clear hb)
            (try clear hb2)
            (try clear hk)
            (try clear hi)
            refine hK.out _ _ ⟨(blk_cell BK146.out 0).trans rfl, (blk_cell BK146.out 1).trans rfl, (blk_cell BK146.out 2).trans rfl, (blk_cell BK146.out 3).trans rfl, (blk_cell BK153.out 0).trans rfl, (blk_cell BK153.out 1).trans rfl, (blk_cell BK153.out 2).trans rfl, (blk_cell BK153.out 3).trans rfl⟩ (fun hHeld => ?_)
            clear hK K
            refine norm_ (a' := ?_) ?_ ?_
            rotate_left
            · show Act.put _ (some 43) _ = _
              simp only [Act.put, List.setIfInBounds_toArray, List.set_cons_zero, List.set_cons_succ, i64_w, i32_w]
              rfl
            refine pure_ (i := 26) (N := some 44) (v := ?_) (a' := ?_) #[true, true, true, true, true, true, true, true, true, true, true, true, true, true, true, true, true, true, true, true, true, true, true, true, true, true, true, false, false, false, false, false, false, false] rfl rfl (any_of HT_.out (by kernel_rfl)) (fun _ _ _ h => h) (Or.inl ⟨by rfl, ?_⟩) ?_ ?_
            rotate_left
            · intro w'
              go_simp
              with_reducible rfl
            rotate_left
            · simp only [Act.put, List.setIfInBounds_toArray, List.set_cons_zero, List.set_cons_succ, i64_w, i32_w]
              rfl
            refine pure_ (i := 27) (N := some 45) (v := undef) (a' := ?_) #[true, true, true, true, true, true, true, true, true, true, true, true, true, true, true, true, true, true, true, true, true, true, true, true, true, true, true, true, false, false, false, false, false, false] rfl rfl (any_of HT_.out (by kernel_rfl)) (fun _ _ _ h => h) (Or.inr ⟨by rfl, rfl⟩) ?_ ?_
            rotate_left
            · simp only [Act.put, List.setIfInBounds_toArray, List.set_cons_zero, List.set_cons_succ, i64_w, i32_w]
              rfl
            refine pure_ (i := 28) (N := some 46) (v := undef) (a' := ?_) #[true, true, true, true, true, true, true, true, true, true, true, true, true, true, true, true, true, true, true, true, true, true, true, true, true, true, true, true, true, false, false, false, false, false] rfl rfl (any_of HT_.out (by kernel_rfl)) (fun _ _ _ h => h) (Or.inr ⟨by rfl, rfl⟩) ?_ ?_
            rotate_left
            · simp only [Act.put, List.setIfInBounds_toArray, List.set_cons_zero, List.set_cons_succ, i64_w, i32_w]
              rfl
            refine pure_ (i := 29) (N := some 47) (v := undef) (a' := ?_) #[true, true, true, true, true, true, true, true, true, true, true, true, true, true, true, true, true, true, true, true, true, true, true, true, true, true, true, true, true, true, false, false, false, false] rfl rfl (any_of HT_.out (by kernel_rfl)) (fun _ _ _ h => h) (Or.inr ⟨by rfl, rfl⟩) ?_ ?_
            rotate_left
            · simp only [Act.put, List.setIfInBounds_toArray, List.set_cons_zero, List.set_cons_succ, i64_w, i32_w]
              rfl
            refine pure_ (i := 30) (N := some 48) (v := undef) (a' := ?_) #[true, true, true, true, true, true, true, true, true, true, true, true, true, true, true, true, true, true, true, true, true, true, true, true, true, true, true, true, true, true, true, false, false, false] rfl rfl (any_of HT_.out (by kernel_rfl)) (fun _ _ _ h => h) (Or.inr ⟨by rfl, rfl⟩) ?_ ?_
            rotate_left
            · simp only [Act.put, List.setIfInBounds_toArray, List.set_cons_zero, List.set_cons_succ, i64_w, i32_w]
              rfl
            refine pure_ (i := 31) (N := some 49) (v := ?_) (a' := ?_) #[true, true, true, true, true, true, true, true, true, true, true, true, true, true, true, true, true, true, true, true, true, true, true, true, true, true, true, true, true, true, true, true, false, false] rfl rfl (any_of HT_.out (by kernel_rfl)) (fun _ _ _ h => h) (Or.inl ⟨by rfl, ?_⟩) ?_ ?_
            rotate_left
            · intro w'
              go_simp
              with_reducible rfl
            rotate_left
            · simp only [Act.put, List.setIfInBounds_toArray, List.set_cons_zero, List.set_cons_succ, i64_w, i32_w]
              rfl
            refine pure_ (i := 32) (N := some 50) (v := ?_) (a' := ?_) #[true, true, true, true, true, true, true, true, true, true, true, true, true, true, true, true, true, true, true, true, true, true, true, true, true, true, true, true, true, true, true, true, true, false] rfl rfl (any_of HT_.out (by kernel_rfl)) (fun _ _ _ h => h) (Or.inl ⟨by rfl, ?_⟩) ?_ ?_
            rotate_left
            · intro w'
              go_simp
              with_reducible rfl
            rotate_left
            · simp only [Act.put, List.setIfInBounds_toArray, List.set_cons_zero, List.set_cons_succ, i64_w, i32_w]
              rfl
            refine pure_ (i := 33) (N := some 51) (v := ?_) (a' := ?_) #[true, true, true, true, true, true, true, true, true, true, true, true, true, true, true, true, true, true, true, true, true, true, true, true, true, true, true, true, true, true, true, true, true, true] rfl rfl (any_of HT_.out (by kernel_rfl)) (fun _ _ _ h => h) (Or.inl ⟨by rfl, ?_⟩) ?_ ?_
            rotate_left
            · intro w'
              go_simp
              with_reducible rfl
            rotate_left
            · simp only [Act.put, List.setIfInBounds_toArray, List.set_cons_zero, List.set_cons_succ, i64_w, i32_w]
              rfl
            refine done_ (done_of HT_.out (by kernel_rfl)) ?_
            try go_wp2
            go_meet
            case rel => exact ⟨_, ((t158 != false)), (by first | rfl | (simp; done) | (simp [*]; done)), (by first | exact H'), ⟨by first | omega | exact Nat.le_refl _⟩, ⟨by (with_reducible repeat (first | refine blk_drewN ?_ _ | refine blk_drew ?_ | refine blk_alloc ?_ _)); exact BK146.out⟩, ⟨by (with_reducible repeat (first | refine blk_drewN ?_ _ | refine blk_drew ?_ | refine blk_alloc ?_ _)); exact BK147.out⟩, ⟨by (with_reducible repeat (first | refine blk_drewN ?_ _ | refine blk_drew ?_ | refine blk_alloc ?_ _)); exact BK153.out⟩, ⟨by repeat (first | (with_reducible first | exact HB.out | apply below_alloc | apply pw_below_drewN | apply below_drew1 | refine below_set ?_ GE146.out | refine below_set ?_ GE147.out | refine below_set ?_ GE153.out) | exact HB.out)⟩⟩
    case rest =>
      clear HC8
      try clear c2
      try clear p2
      try clear c3
      try clear c27
      try clear c28
      try clear c30
      try clear c31
      obtain ⟨kq, x51_7, rfl, HA, HJ7, BK146, BK147, BK153, HB⟩ := hcut
      cases kq with
      | zero => exact absurd HA.out (by simp [croftlaw06_RectTells.j0])
      | succ kj7 =>
        have H := HA.out
        clear HA
        simp only [croftlaw06_RectTells.j0] at H
        by_cases c47 : x51_7 = true
        · subst c47
          have H1 : (some false) = some r := by rw [if_pos rfl] at H; exact H
          clear H
          have H := H1
          clear H1
          obtain rfl := Option.some.inj H
          exact absurd HT.out (by simp)
        · replace c47 := Bool.eq_false_iff.mpr c47
          subst c47
          have H1 : ((croftlaw06_RectTells_1.f a0_0 a0_1 a0_2 a0_3).bind fun t161 => (if t161 = true then (croftlaw06_RectTells.j1 kj7 false a0_0 a0_1 a0_2 a0_3 a1_0 a1_1 a1_2 a1_3 t149 t150 t151 t152) else ((croftlaw06_RectTells_1.f a1_0 a1_1 a1_2 a1_3).bind fun t162 => (if t162 = true then (croftlaw06_RectTells.j1 kj7 false a0_0 a0_1 a0_2 a0_3 a1_0 a1_1 a1_2 a1_3 t149 t150 t151 t152) else (if a0_0 ≤ a1_2 then (if a1_0 ≤ a0_2 then (if a0_1 ≤ a1_3 then (croftlaw06_RectTells.j1 kj7 (decide (a1_1 ≤ a0_3)) a0_0 a0_1 a0_2 a0_3 a1_0 a1_1 a1_2 a1_3 t149 t150 t151 t152) else (croftlaw06_RectTells.j1 kj7 false a0_0 a0_1 a0_2 a0_3 a1_0 a1_1 a1_2 a1_3 t149 t150 t151 t152)) else (croftlaw06_RectTells.j1 kj7 false a0_0 a0_1 a0_2 a0_3 a1_0 a1_1 a1_2 a1_3 t149 t150 t151 t152)) else (croftlaw06_RectTells.j1 kj7 false a0_0 a0_1 a0_2 a0_3 a1_0 a1_1 a1_2 a1_3 t149 t150 t151 t152)))))) = some r := by rw [if_neg (show ¬ (false = true) by decide)] at H; exact H
          clear H
          have H := H1
          clear H1
          have HC48 := Aside0.mk H
          clear H
          go_upto_region 7 with (fail)
          go_cut [11] (fun v11 wc => ∃ (kq : Nat) (x11_47 : Bool), v11 = .bool x11_47 ∧ Aside0 (croftlaw06_RectTells.j1 kq x11_47 a0_0 a0_1 a0_2 a0_3 a1_0 a1_1 a1_2 a1_3 t149 t150 t151 t152 = some r) ∧ Aside0 (kq ≤ kj7) ∧ Aside0 (wc.heap[gb146]? = some (.cells #[.int .u32 a0_0, .int .u32 a0_1, .int .u32 a0_2, .int .u32 a0_3] 24 (0, 0))) ∧ Aside0 (wc.heap[gb147]? = some (.cells #[.int .u32 a1_0, .int .u32 a1_1, .int .u32 a1_2, .int .u32 a1_3] 24 (0, 0))) ∧ Aside0 (wc.heap[gb153]? = some (.cells #[.int .u32 t149, .int .u32 t150, .int .u32 t151, .int .u32 t152] 24 (0, 0))) ∧ Aside0 (Below w.heap.size w wc))
          case first =>
            have H := HC48.out
            clear HC48
            replace H := Option.bind_eq_some_iff.mp H
            obtain ⟨t161, A490, H⟩ := H
            replace H : (if t161 = true then (croftlaw06_RectTells.j1 kj7 false a0_0 a0_1 a0_2 a0_3 a1_0 a1_1 a1_2 a1_3 t149 t150 t151 t152) else ((croftlaw06_RectTells_1.f a1_0 a1_1 a1_2 a1_3).bind fun t162 => (if t162 = true then (croftlaw06_RectTells.j1 kj7 false a0_0 a0_1 a0_2 a0_3 a1_0 a1_1 a1_2 a1_3 t149 t150 t151 t152) else (if a0_0 ≤ a1_2 then (if a1_0 ≤ a0_2 then (if a0_1 ≤ a1_3 then (croftlaw06_RectTells.j1 kj7 (decide (a1_1 ≤ a0_3)) a0_0 a0_1 a0_2 a0_3 a1_0 a1_1 a1_2 a1_3 t149 t150 t151 t152) else (croftlaw06_RectTells.j1 kj7 false a0_0 a0_1 a0_2 a0_3 a1_0 a1_1 a1_2 a1_3 t149 t150 t151 t152)) else (croftlaw06_RectTells.j1 kj7 false a0_0 a0_1 a0_2 a0_3 a1_0 a1_1 a1_2 a1_3 t149 t150 t151 t152)) else (croftlaw06_RectTells.j1 kj7 false a0_0 a0_1 a0_2 a0_3 a1_0 a1_1 a1_2 a1_3 t149 t150 t151 t152))))) = some r := H
            have A49 := Aside0.mk A490
            clear A490
            by_cases c50 : t161 = true
            · subst c50
              have H1 : (croftlaw06_RectTells.j1 kj7 false a0_0 a0_1 a0_2 a0_3 a1_0 a1_1 a1_2 a1_3 t149 t150 t151 t152) = some r := by rw [if_pos rfl] at H; exact H
              clear H
              have H := H1
              clear H1
              have H' := Aside0.mk H
              clear H
              have hnb51 := NB146_147.out
              have hnc51 := NB147_146.out
              have hnb52 := NB146_153.out
              have hnc52 := NB153_146.out
              have hcz53_0 : wc.cell? ⟨gb146, 0, none⟩ = some (.int .u32 a0_0) := (blk_cell BK146.out 0).trans rfl
              have hcz53_1 : wc.cell? ⟨gb146, 1, none⟩ = some (.int .u32 a0_1) := (blk_cell BK146.out 1).trans rfl
              have hcz53_2 : wc.cell? ⟨gb146, 2, none⟩ = some (.int .u32 a0_2) := (blk_cell BK146.out 2).trans rfl
              have hcz53_3 : wc.cell? ⟨gb146, 3, none⟩ = some (.int .u32 a0_3) := (blk_cell BK146.out 3).trans rfl
              have hfz53_0 := blk_frozen BK146.out 0
              have hfz53_1 := blk_frozen BK146.out 1
              have hfz53_2 := blk_frozen BK146.out 2
              have hfz53_3 := blk_frozen BK146.out 3
              go_wp2_with (first | ((with_reducible refine gate_calleeT (f := 28) rfl rfl ?_); refine goesLT_ (some 54) rfl rfl Try.func28 (by kernel_rfl) rfl #[.agg #[.int .u32 a0_0, .int .u32 a0_1, .int .u32 a0_2, .int .u32 a0_3]] rfl rfl (by (try simp only [List.map_toArray, List.map_cons, List.map_nil]); first | done | rfl | (simp only [List.length_drop, List.length_take]; rfl)) ?_; (with_reducible refine (croftlaw06_RectTells_1.calls a0_0 a0_1 a0_2 a0_3 true _ A49.out).mono ?_); rintro e w54 ⟨rfl, hb⟩; refine ⟨_, rfl, ?_⟩; have n0_ := Aside0.mk (blk_below (g := gb146) (o := .cells #[.int .u32 a0_0, .int .u32 a0_1, .int .u32 a0_2, .int .u32 a0_3] 24 (0, 0)) (by (with_reducible repeat (first | refine blk_drewN ?_ _ | refine blk_drew ?_ | refine blk_alloc ?_ _)); exact BK146.out) hb); have n1_ := Aside0.mk (blk_below (g := gb147) (o := .cells #[.int .u32 a1_0, .int .u32 a1_1, .int .u32 a1_2, .int .u32 a1_3] 24 (0, 0)) (by (with_reducible repeat (first | refine blk_drewN ?_ _ | refine blk_drew ?_ | refine blk_alloc ?_ _)); exact BK147.out) hb); have n2_ := Aside0.mk (blk_below (g := gb153) (o := .cells #[.int .u32 t149, .int .u32 t150, .int .u32 t151, .int .u32 t152] 24 (0, 0)) (by (with_reducible repeat (first | refine blk_drewN ?_ _ | refine blk_drew ?_ | refine blk_alloc ?_ _)); exact BK153.out) hb); have n3_ := Aside0.mk (below_step (by repeat (first | (with_reducible first | exact HB.out | apply below_alloc | apply pw_below_drewN | apply below_drew1 | refine below_set ?_ GE146.out | refine below_set ?_ GE147.out | refine below_set ?_ GE153.out) | exact HB.out)) hb); clear BK146; clear BK147; clear BK153; clear HB; have BK146 := n0_; have BK147 := n1_; have BK153 := n2_; have HB := n3_; clear n0_ n1_ n2_ n3_; (try clear hb); (try clear hb2); (try clear hk); (try clear hi)))
              go_meet
              case rel => exact ⟨_, (false), (by first | rfl | (simp; done) | (simp [*]; done)), (by first | exact H'), ⟨by have := HJ7.out; first | omega | exact Nat.le_refl _⟩, ⟨by (with_reducible repeat (first | refine blk_drewN ?_ _ | refine blk_drew ?_ | refine blk_alloc ?_ _)); exact BK146.out⟩, ⟨by (with_reducible repeat (first | refine blk_drewN ?_ _ | refine blk_drew ?_ | refine blk_alloc ?_ _)); exact BK147.out⟩, ⟨by (with_reducible repeat (first | refine blk_drewN ?_ _ | refine blk_drew ?_ | refine blk_alloc ?_ _)); exact BK153.out⟩, ⟨by repeat (first | (with_reducible first | exact HB.out | apply below_alloc | apply pw_below_drewN | apply below_drew1 | refine below_set ?_ GE146.out | refine below_set ?_ GE147.out | refine below_set ?_ GE153.out) | exact HB.out)⟩⟩
            · replace c50 := Bool.eq_false_iff.mpr c50
              subst c50
              have H1 : ((croftlaw06_RectTells_1.f a1_0 a1_1 a1_2 a1_3).bind fun t162 => (if t162 = true then (croftlaw06_RectTells.j1 kj7 false a0_0 a0_1 a0_2 a0_3 a1_0 a1_1 a1_2 a1_3 t149 t150 t151 t152) else (if a0_0 ≤ a1_2 then (if a1_0 ≤ a0_2 then (if a0_1 ≤ a1_3 then (croftlaw06_RectTells.j1 kj7 (decide (a1_1 ≤ a0_3)) a0_0 a0_1 a0_2 a0_3 a1_0 a1_1 a1_2 a1_3 t149 t150 t151 t152) else (croftlaw06_RectTells.j1 kj7 false a0_0 a0_1 a0_2 a0_3 a1_0 a1_1 a1_2 a1_3 t149 t150 t151 t152)) else (croftlaw06_RectTells.j1 kj7 false a0_0 a0_1 a0_2 a0_3 a1_0 a1_1 a1_2 a1_3 t149 t150 t151 t152)) else (croftlaw06_RectTells.j1 kj7 false a0_0 a0_1 a0_2 a0_3 a1_0 a1_1 a1_2 a1_3 t149 t150 t151 t152)))) = some r := by rw [if_neg (show ¬ (false = true) by decide)] at H; exact H
              clear H
              have H := H1
              clear H1
              replace H := Option.bind_eq_some_iff.mp H
              obtain ⟨t162, A550, H⟩ := H
              replace H : (if t162 = true then (croftlaw06_RectTells.j1 kj7 false a0_0 a0_1 a0_2 a0_3 a1_0 a1_1 a1_2 a1_3 t149 t150 t151 t152) else (if a0_0 ≤ a1_2 then (if a1_0 ≤ a0_2 then (if a0_1 ≤ a1_3 then (croftlaw06_RectTells.j1 kj7 (decide (a1_1 ≤ a0_3)) a0_0 a0_1 a0_2 a0_3 a1_0 a1_1 a1_2 a1_3 t149 t150 t151 t152) else (croftlaw06_RectTells.j1 kj7 false a0_0 a0_1 a0_2 a0_3 a1_0 a1_1 a1_2 a1_3 t149 t150 t151 t152)) else (croftlaw06_RectTells.j1 kj7 false a0_0 a0_1 a0_2 a0_3 a1_0 a1_1 a1_2 a1_3 t149 t150 t151 t152)) else (croftlaw06_RectTells.j1 kj7 false a0_0 a0_1 a0_2 a0_3 a1_0 a1_1 a1_2 a1_3 t149 t150 t151 t152))) = some r := H
              have A55 := Aside0.mk A550
              clear A550
              by_cases c56 : t162 = true
              · subst c56
                have H1 : (croftlaw06_RectTells.j1 kj7 false a0_0 a0_1 a0_2 a0_3 a1_0 a1_1 a1_2 a1_3 t149 t150 t151 t152) = some r := by rw [if_pos rfl] at H; exact H
                clear H
                have H := H1
                clear H1
                have H' := Aside0.mk H
                clear H
                have hnb57 := NB146_147.out
                have hnc57 := NB147_146.out
                have hnb58 := NB146_153.out
                have hnc58 := NB153_146.out
                have hcz59_0 : wc.cell? ⟨gb146, 0, none⟩ = some (.int .u32 a0_0) := (blk_cell BK146.out 0).trans rfl
                have hcz59_1 : wc.cell? ⟨gb146, 1, none⟩ = some (.int .u32 a0_1) := (blk_cell BK146.out 1).trans rfl
                have hcz59_2 : wc.cell? ⟨gb146, 2, none⟩ = some (.int .u32 a0_2) := (blk_cell BK146.out 2).trans rfl
                have hcz59_3 : wc.cell? ⟨gb146, 3, none⟩ = some (.int .u32 a0_3) := (blk_cell BK146.out 3).trans rfl
                have hfz59_0 := blk_frozen BK146.out 0
                have hfz59_1 := blk_frozen BK146.out 1
                have hfz59_2 := blk_frozen BK146.out 2
                have hfz59_3 := blk_frozen BK146.out 3
                go_wp2_with (first | ((with_reducible refine gate_calleeT (f := 28) rfl rfl ?_); refine goesLT_ (some 54) rfl rfl Try.func28 (by kernel_rfl) rfl #[.agg #[.int .u32 a0_0, .int .u32 a0_1, .int .u32 a0_2, .int .u32 a0_3]] rfl rfl (by (try simp only [List.map_toArray, List.map_cons, List.map_nil]); first | done | rfl | (simp only [List.length_drop, List.length_take]; rfl)) ?_; (with_reducible refine (croftlaw06_RectTells_1.calls a0_0 a0_1 a0_2 a0_3 false _ A49.out).mono ?_); rintro e w60 ⟨rfl, hb⟩; refine ⟨_, rfl, ?_⟩; have n0_ := Aside0.mk (blk_below (g := gb146) (o := .cells #[.int .u32 a0_0, .int .u32 a0_1, .int .u32 a0_2, .int .u32 a0_3] 24 (0, 0)) (by (with_reducible repeat (first | refine blk_drewN ?_ _ | refine blk_drew ?_ | refine blk_alloc ?_ _)); exact BK146.out) hb); have n1_ := Aside0.mk (blk_below (g := gb147) (o := .cells #[.int .u32 a1_0, .int .u32 a1_1, .int .u32 a1_2, .int .u32 a1_3] 24 (0, 0)) (by (with_reducible repeat (first | refine blk_drewN ?_ _ | refine blk_drew ?_ | refine blk_alloc ?_ _)); exact BK147.out) hb); have n2_ := Aside0.mk (blk_below (g := gb153) (o := .cells #[.int .u32 t149, .int .u32 t150, .int .u32 t151, .int .u32 t152] 24 (0, 0)) (by (with_reducible repeat (first | refine blk_drewN ?_ _ | refine blk_drew ?_ | refine blk_alloc ?_ _)); exact BK153.out) hb); have n3_ := Aside0.mk (below_step (by repeat (first | (with_reducible first | exact HB.out | apply below_alloc | apply pw_below_drewN | apply below_drew1 | refine below_set ?_ GE146.out | refine below_set ?_ GE147.out | refine below_set ?_ GE153.out) | exact HB.out)) hb); clear BK146; clear BK147; clear BK153; clear HB; have BK146 := n0_; have BK147 := n1_; have BK153 := n2_; have HB := n3_; clear n0_ n1_ n2_ n3_; (try clear hb); (try clear hb2); (try clear hk); (try clear hi); have hnb61 := NB147_153.out; have hnc61 := NB153_147.out; have hcz62_0 : w60.cell? ⟨gb147, 0, none⟩ = some (.int .u32 a1_0) := (blk_cell BK147.out 0).trans rfl; have hcz62_1 : w60.cell? ⟨gb147, 1, none⟩ = some (.int .u32 a1_1) := (blk_cell BK147.out 1).trans rfl; have hcz62_2 : w60.cell? ⟨gb147, 2, none⟩ = some (.int .u32 a1_2) := (blk_cell BK147.out 2).trans rfl; have hcz62_3 : w60.cell? ⟨gb147, 3, none⟩ = some (.int .u32 a1_3) := (blk_cell BK147.out 3).trans rfl; have hfz62_0 := blk_frozen BK147.out 0; have hfz62_1 := blk_frozen BK147.out 1; have hfz62_2 := blk_frozen BK147.out 2; have hfz62_3 := blk_frozen BK147.out 3) | (go_at_call 28; (with_reducible refine (croftlaw06_RectTells_1.calls a1_0 a1_1 a1_2 a1_3 true _ A55.out).mono ?_); rintro e w63 ⟨rfl, hb⟩; have n0_ := Aside0.mk (blk_below (g := gb146) (o := .cells #[.int .u32 a0_0, .int .u32 a0_1, .int .u32 a0_2, .int .u32 a0_3] 24 (0, 0)) (by (with_reducible repeat (first | refine blk_drewN ?_ _ | refine blk_drew ?_ | refine blk_alloc ?_ _)); exact BK146.out) hb); have n1_ := Aside0.mk (blk_below (g := gb147) (o := .cells #[.int .u32 a1_0, .int .u32 a1_1, .int .u32 a1_2, .int .u32 a1_3] 24 (0, 0)) (by (with_reducible repeat (first | refine blk_drewN ?_ _ | refine blk_drew ?_ | refine blk_alloc ?_ _)); exact BK147.out) hb); have n2_ := Aside0.mk (blk_below (g := gb153) (o := .cells #[.int .u32 t149, .int .u32 t150, .int .u32 t151, .int .u32 t152] 24 (0, 0)) (by (with_reducible repeat (first | refine blk_drewN ?_ _ | refine blk_drew ?_ | refine blk_alloc ?_ _)); exact BK153.out) hb); have n3_ := Aside0.mk (below_step (by repeat (first | (with_reducible first | exact HB.out | apply below_alloc | apply pw_below_drewN | apply below_drew1 | refine below_set ?_ GE146.out | refine below_set ?_ GE147.out | refine below_set ?_ GE153.out) | exact HB.out)) hb); clear BK146; clear BK147; clear BK153; clear HB; have BK146 := n0_; have BK147 := n1_; have BK153 := n2_; have HB := n3_; clear n0_ n1_ n2_ n3_; (try clear hb); (try clear hb2); (try clear hk); (try clear hi)))
                go_meet
                case rel => exact ⟨_, (false), (by first | rfl | (simp; done) | (simp [*]; done)), (by first | exact H'), ⟨by have := HJ7.out; first | omega | exact Nat.le_refl _⟩, ⟨by (with_reducible repeat (first | refine blk_drewN ?_ _ | refine blk_drew ?_ | refine blk_alloc ?_ _)); exact BK146.out⟩, ⟨by (with_reducible repeat (first | refine blk_drewN ?_ _ | refine blk_drew ?_ | refine blk_alloc ?_ _)); exact BK147.out⟩, ⟨by (with_reducible repeat (first | refine blk_drewN ?_ _ | refine blk_drew ?_ | refine blk_alloc ?_ _)); exact BK153.out⟩, ⟨by repeat (first | (with_reducible first | exact HB.out | apply below_alloc | apply pw_below_drewN | apply below_drew1 | refine below_set ?_ GE146.out | refine below_set ?_ GE147.out | refine below_set ?_ GE153.out) | exact HB.out)⟩⟩
              · replace c56 := Bool.eq_false_iff.mpr c56
                subst c56
                have H1 : (if a0_0 ≤ a1_2 then (if a1_0 ≤ a0_2 then (if a0_1 ≤ a1_3 then (croftlaw06_RectTells.j1 kj7 (decide (a1_1 ≤ a0_3)) a0_0 a0_1 a0_2 a0_3 a1_0 a1_1 a1_2 a1_3 t149 t150 t151 t152) else (croftlaw06_RectTells.j1 kj7 false a0_0 a0_1 a0_2 a0_3 a1_0 a1_1 a1_2 a1_3 t149 t150 t151 t152)) else (croftlaw06_RectTells.j1 kj7 false a0_0 a0_1 a0_2 a0_3 a1_0 a1_1 a1_2 a1_3 t149 t150 t151 t152)) else (croftlaw06_RectTells.j1 kj7 false a0_0 a0_1 a0_2 a0_3 a1_0 a1_1 a1_2 a1_3 t149 t150 t151 t152)) = some r := by rw [if_neg (show ¬ (false = true) by decide)] at H; exact H
                clear H
                have H := H1
                clear H1
                by_cases c64 : a0_0 ≤ a1_2
                · rw [if_pos c64] at H
                  have c64b0 : decide (a0_0 ≤ a1_2) = true := decide_eq_true c64
                  clear c64
                  (first | rw [c64b0] | (simp only [i64_w, i32_w]; rw [c64b0]) | skip)
                  by_cases c65 : a1_0 ≤ a0_2
                  · rw [if_pos c65] at H
                    have c65b0 : decide (a1_0 ≤ a0_2) = true := decide_eq_true c65
                    clear c65
                    by_cases c66 : a0_1 ≤ a1_3
                    · rw [if_pos c66] at H
                      have c66b0 : decide (a0_1 ≤ a1_3) = true := decide_eq_true c66
                      clear c66
                      have H' := Aside0.mk H
                      clear H
                      have hnb67 := NB146_147.out
                      have hnc67 := NB147_146.out
                      have hnb68 := NB146_153.out
                      have hnc68 := NB153_146.out
                      have hcz69_0 : wc.cell? ⟨gb146, 0, none⟩ = some (.int .u32 a0_0) := (blk_cell BK146.out 0).trans rfl
                      have hcz69_1 : wc.cell? ⟨gb146, 1, none⟩ = some (.int .u32 a0_1) := (blk_cell BK146.out 1).trans rfl
                      have hcz69_2 : wc.cell? ⟨gb146, 2, none⟩ = some (.int .u32 a0_2) := (blk_cell BK146.out 2).trans rfl
                      have hcz69_3 : wc.cell? ⟨gb146, 3, none⟩ = some (.int .u32 a0_3) := (blk_cell BK146.out 3).trans rfl
                      have hfz69_0 := blk_frozen BK146.out 0
                      have hfz69_1 := blk_frozen BK146.out 1
                      have hfz69_2 := blk_frozen BK146.out 2
                      have hfz69_3 := blk_frozen BK146.out 3
                      go_wp2_with (first | ((with_reducible refine gate_calleeT (f := 28) rfl rfl ?_); refine goesLT_ (some 54) rfl rfl Try.func28 (by kernel_rfl) rfl #[.agg #[.int .u32 a0_0, .int .u32 a0_1, .int .u32 a0_2, .int .u32 a0_3]] rfl rfl (by (try simp only [List.map_toArray, List.map_cons, List.map_nil]); first | done | rfl | (simp only [List.length_drop, List.length_take]; rfl)) ?_; (with_reducible refine (croftlaw06_RectTells_1.calls a0_0 a0_1 a0_2 a0_3 false _ A49.out).mono ?_); rintro e w70 ⟨rfl, hb⟩; refine ⟨_, rfl, ?_⟩; have n0_ := Aside0.mk (blk_below (g := gb146) (o := .cells #[.int .u32 a0_0, .int .u32 a0_1, .int .u32 a0_2, .int .u32 a0_3] 24 (0, 0)) (by (with_reducible repeat (first | refine blk_drewN ?_ _ | refine blk_drew ?_ | refine blk_alloc ?_ _)); exact BK146.out) hb); have n1_ := Aside0.mk (blk_below (g := gb147) (o := .cells #[.int .u32 a1_0, .int .u32 a1_1, .int .u32 a1_2, .int .u32 a1_3] 24 (0, 0)) (by (with_reducible repeat (first | refine blk_drewN ?_ _ | refine blk_drew ?_ | refine blk_alloc ?_ _)); exact BK147.out) hb); have n2_ := Aside0.mk (blk_below (g := gb153) (o := .cells #[.int .u32 t149, .int .u32 t150, .int .u32 t151, .int .u32 t152] 24 (0, 0)) (by (with_reducible repeat (first | refine blk_drewN ?_ _ | refine blk_drew ?_ | refine blk_alloc ?_ _)); exact BK153.out) hb); have n3_ := Aside0.mk (below_step (by repeat (first | (with_reducible first | exact HB.out | apply below_alloc | apply pw_below_drewN | apply below_drew1 | refine below_set ?_ GE146.out | refine below_set ?_ GE147.out | refine below_set ?_ GE153.out) | exact HB.out)) hb); clear BK146; clear BK147; clear BK153; clear HB; have BK146 := n0_; have BK147 := n1_; have BK153 := n2_; have HB := n3_; clear n0_ n1_ n2_ n3_; (try clear hb); (try clear hb2); (try clear hk); (try clear hi); have hnb71 := NB147_153.out; have hnc71 := NB153_147.out; have hcz72_0 : w70.cell? ⟨gb147, 0, none⟩ = some (.int .u32 a1_0) := (blk_cell BK147.out 0).trans rfl; have hcz72_1 : w70.cell? ⟨gb147, 1, none⟩ = some (.int .u32 a1_1) := (blk_cell BK147.out 1).trans rfl; have hcz72_2 : w70.cell? ⟨gb147, 2, none⟩ = some (.int .u32 a1_2) := (blk_cell BK147.out 2).trans rfl; have hcz72_3 : w70.cell? ⟨gb147, 3, none⟩ = some (.int .u32 a1_3) := (blk_cell BK147.out 3).trans rfl; have hfz72_0 := blk_frozen BK147.out 0; have hfz72_1 := blk_frozen BK147.out 1; have hfz72_2 := blk_frozen BK147.out 2; have hfz72_3 := blk_frozen BK147.out 3) | (go_at_call 28; (with_reducible refine (croftlaw06_RectTells_1.calls a1_0 a1_1 a1_2 a1_3 false _ A55.out).mono ?_); rintro e w73 ⟨rfl, hb⟩; have n0_ := Aside0.mk (blk_below (g := gb146) (o := .cells #[.int .u32 a0_0, .int .u32 a0_1, .int .u32 a0_2, .int .u32 a0_3] 24 (0, 0)) (by (with_reducible repeat (first | refine blk_drewN ?_ _ | refine blk_drew ?_ | refine blk_alloc ?_ _)); exact BK146.out) hb); have n1_ := Aside0.mk (blk_below (g := gb147) (o := .cells #[.int .u32 a1_0, .int .u32 a1_1, .int .u32 a1_2, .int .u32 a1_3] 24 (0, 0)) (by (with_reducible repeat (first | refine blk_drewN ?_ _ | refine blk_drew ?_ | refine blk_alloc ?_ _)); exact BK147.out) hb); have n2_ := Aside0.mk (blk_below (g := gb153) (o := .cells #[.int .u32 t149, .int .u32 t150, .int .u32 t151, .int .u32 t152] 24 (0, 0)) (by (with_reducible repeat (first | refine blk_drewN ?_ _ | refine blk_drew ?_ | refine blk_alloc ?_ _)); exact BK153.out) hb); have n3_ := Aside0.mk (below_step (by repeat (first | (with_reducible first | exact HB.out | apply below_alloc | apply pw_below_drewN | apply below_drew1 | refine below_set ?_ GE146.out | refine below_set ?_ GE147.out | refine below_set ?_ GE153.out) | exact HB.out)) hb); clear BK146; clear BK147; clear BK153; clear HB; have BK146 := n0_; have BK147 := n1_; have BK153 := n2_; have HB := n3_; clear n0_ n1_ n2_ n3_; (try clear hb); (try clear hb2); (try clear hk); (try clear hi); have hcz74_0 : w73.cell? ⟨gb146, 0, none⟩ = some (.int .u32 a0_0) := (blk_cell BK146.out 0).trans rfl; have hcz74_1 : w73.cell? ⟨gb146, 1, none⟩ = some (.int .u32 a0_1) := (blk_cell BK146.out 1).trans rfl; have hcz74_2 : w73.cell? ⟨gb146, 2, none⟩ = some (.int .u32 a0_2) := (blk_cell BK146.out 2).trans rfl; have hcz74_3 : w73.cell? ⟨gb146, 3, none⟩ = some (.int .u32 a0_3) := (blk_cell BK146.out 3).trans rfl; have hfz74_0 := blk_frozen BK146.out 0; have hfz74_1 := blk_frozen BK146.out 1; have hfz74_2 := blk_frozen BK146.out 2; have hfz74_3 := blk_frozen BK146.out 3; have hcz75_0 : w73.cell? ⟨gb147, 0, none⟩ = some (.int .u32 a1_0) := (blk_cell BK147.out 0).trans rfl; have hcz75_1 : w73.cell? ⟨gb147, 1, none⟩ = some (.int .u32 a1_1) := (blk_cell BK147.out 1).trans rfl; have hcz75_2 : w73.cell? ⟨gb147, 2, none⟩ = some (.int .u32 a1_2) := (blk_cell BK147.out 2).trans rfl; have hcz75_3 : w73.cell? ⟨gb147, 3, none⟩ = some (.int .u32 a1_3) := (blk_cell BK147.out 3).trans rfl; have hfz75_0 := blk_frozen BK147.out 0; have hfz75_1 := blk_frozen BK147.out 1; have hfz75_2 := blk_frozen BK147.out 2; have hfz75_3 := blk_frozen BK147.out 3))
                      go_meet
                      case rel => exact ⟨_, (decide (a1_1 ≤ a0_3)), (by first | rfl | (simp; done) | (simp [*]; done)), (by first | exact H'), ⟨by have := HJ7.out; first | omega | exact Nat.le_refl _⟩, ⟨by (with_reducible repeat (first | refine blk_drewN ?_ _ | refine blk_drew ?_ | refine blk_alloc ?_ _)); exact BK146.out⟩, ⟨by (with_reducible repeat (first | refine blk_drewN ?_ _ | refine blk_drew ?_ | refine blk_alloc ?_ _)); exact BK147.out⟩, ⟨by (with_reducible repeat (first | refine blk_drewN ?_ _ | refine blk_drew ?_ | refine blk_alloc ?_ _)); exact BK153.out⟩, ⟨by repeat (first | (with_reducible first | exact HB.out | apply below_alloc | apply pw_below_drewN | apply below_drew1 | refine below_set ?_ GE146.out | refine below_set ?_ GE147.out | refine below_set ?_ GE153.out) | exact HB.out)⟩⟩
                    · rw [if_neg c66] at H
                      have c66b0 : decide (a0_1 ≤ a1_3) = false := decide_eq_false c66
                      clear c66
                      have H' := Aside0.mk H
                      clear H
                      have hnb76 := NB146_147.out
                      have hnc76 := NB147_146.out
                      have hnb77 := NB146_153.out
                      have hnc77 := NB153_146.out
                      have hcz78_0 : wc.cell? ⟨gb146, 0, none⟩ = some (.int .u32 a0_0) := (blk_cell BK146.out 0).trans rfl
                      have hcz78_1 : wc.cell? ⟨gb146, 1, none⟩ = some (.int .u32 a0_1) := (blk_cell BK146.out 1).trans rfl
                      have hcz78_2 : wc.cell? ⟨gb146, 2, none⟩ = some (.int .u32 a0_2) := (blk_cell BK146.out 2).trans rfl
                      have hcz78_3 : wc.cell? ⟨gb146, 3, none⟩ = some (.int .u32 a0_3) := (blk_cell BK146.out 3).trans rfl
                      have hfz78_0 := blk_frozen BK146.out 0
                      have hfz78_1 := blk_frozen BK146.out 1
                      have hfz78_2 := blk_frozen BK146.out 2
                      have hfz78_3 := blk_frozen BK146.out 3
                      go_wp2_with (first | ((with_reducible refine gate_calleeT (f := 28) rfl rfl ?_); refine goesLT_ (some 54) rfl rfl Try.func28 (by kernel_rfl) rfl #[.agg #[.int .u32 a0_0, .int .u32 a0_1, .int .u32 a0_2, .int .u32 a0_3]] rfl rfl (by (try simp only [List.map_toArray, List.map_cons, List.map_nil]); first | done | rfl | (simp only [List.length_drop, List.length_take]; rfl)) ?_; (with_reducible refine (croftlaw06_RectTells_1.calls a0_0 a0_1 a0_2 a0_3 false _ A49.out).mono ?_); rintro e w79 ⟨rfl, hb⟩; refine ⟨_, rfl, ?_⟩; have n0_ := Aside0.mk (blk_below (g := gb146) (o := .cells #[.int .u32 a0_0, .int .u32 a0_1, .int .u32 a0_2, .int .u32 a0_3] 24 (0, 0)) (by (with_reducible repeat (first | refine blk_drewN ?_ _ | refine blk_drew ?_ | refine blk_alloc ?_ _)); exact BK146.out) hb); have n1_ := Aside0.mk (blk_below (g := gb147) (o := .cells #[.int .u32 a1_0, .int .u32 a1_1, .int .u32 a1_2, .int .u32 a1_3] 24 (0, 0)) (by (with_reducible repeat (first | refine blk_drewN ?_ _ | refine blk_drew ?_ | refine blk_alloc ?_ _)); exact BK147.out) hb); have n2_ := Aside0.mk (blk_below (g := gb153) (o := .cells #[.int .u32 t149, .int .u32 t150, .int .u32 t151, .int .u32 t152] 24 (0, 0)) (by (with_reducible repeat (first | refine blk_drewN ?_ _ | refine blk_drew ?_ | refine blk_alloc ?_ _)); exact BK153.out) hb); have n3_ := Aside0.mk (below_step (by repeat (first | (with_reducible first | exact HB.out | apply below_alloc | apply pw_below_drewN | apply below_drew1 | refine below_set ?_ GE146.out | refine below_set ?_ GE147.out | refine below_set ?_ GE153.out) | exact HB.out)) hb); clear BK146; clear BK147; clear BK153; clear HB; have BK146 := n0_; have BK147 := n1_; have BK153 := n2_; have HB := n3_; clear n0_ n1_ n2_ n3_; (try clear hb); (try clear hb2); (try clear hk); (try clear hi); have hnb80 := NB147_153.out; have hnc80 := NB153_147.out; have hcz81_0 : w79.cell? ⟨gb147, 0, none⟩ = some (.int .u32 a1_0) := (blk_cell BK147.out 0).trans rfl; have hcz81_1 : w79.cell? ⟨gb147, 1, none⟩ = some (.int .u32 a1_1) := (blk_cell BK147.out 1).trans rfl; have hcz81_2 : w79.cell? ⟨gb147, 2, none⟩ = some (.int .u32 a1_2) := (blk_cell BK147.out 2).trans rfl; have hcz81_3 : w79.cell? ⟨gb147, 3, none⟩ = some (.int .u32 a1_3) := (blk_cell BK147.out 3).trans rfl; have hfz81_0 := blk_frozen BK147.out 0; have hfz81_1 := blk_frozen BK147.out 1; have hfz81_2 := blk_frozen BK147.out 2; have hfz81_3 := blk_frozen BK147.out 3) | (go_at_call 28; (with_reducible refine (croftlaw06_RectTells_1.calls a1_0 a1_1 a1_2 a1_3 false _ A55.out).mono ?_); rintro e w82 ⟨rfl, hb⟩; have n0_ := Aside0.mk (blk_below (g := gb146) (o := .cells #[.int .u32 a0_0, .int .u32 a0_1, .int .u32 a0_2, .int .u32 a0_3] 24 (0, 0)) (by (with_reducible repeat (first | refine blk_drewN ?_ _ | refine blk_drew ?_ | refine blk_alloc ?_ _)); exact BK146.out) hb); have n1_ := Aside0.mk (blk_below (g := gb147) (o := .cells #[.int .u32 a1_0, .int .u32 a1_1, .int .u32 a1_2, .int .u32 a1_3] 24 (0, 0)) (by (with_reducible repeat (first | refine blk_drewN ?_ _ | refine blk_drew ?_ | refine blk_alloc ?_ _)); exact BK147.out) hb); have n2_ := Aside0.mk (blk_below (g := gb153) (o := .cells #[.int .u32 t149, .int .u32 t150, .int .u32 t151, .int .u32 t152] 24 (0, 0)) (by (with_reducible repeat (first | refine blk_drewN ?_ _ | refine blk_drew ?_ | refine blk_alloc ?_ _)); exact BK153.out) hb); have n3_ := Aside0.mk (below_step (by repeat (first | (with_reducible first | exact HB.out | apply below_alloc | apply pw_below_drewN | apply below_drew1 | refine below_set ?_ GE146.out | refine below_set ?_ GE147.out | refine below_set ?_ GE153.out) | exact HB.out)) hb); clear BK146; clear BK147; clear BK153; clear HB; have BK146 := n0_; have BK147 := n1_; have BK153 := n2_; have HB := n3_; clear n0_ n1_ n2_ n3_; (try clear hb); (try clear hb2); (try clear hk); (try clear hi); have hcz83_0 : w82.cell? ⟨gb146, 0, none⟩ = some (.int .u32 a0_0) := (blk_cell BK146.out 0).trans rfl; have hcz83_1 : w82.cell? ⟨gb146, 1, none⟩ = some (.int .u32 a0_1) := (blk_cell BK146.out 1).trans rfl; have hcz83_2 : w82.cell? ⟨gb146, 2, none⟩ = some (.int .u32 a0_2) := (blk_cell BK146.out 2).trans rfl; have hcz83_3 : w82.cell? ⟨gb146, 3, none⟩ = some (.int .u32 a0_3) := (blk_cell BK146.out 3).trans rfl; have hfz83_0 := blk_frozen BK146.out 0; have hfz83_1 := blk_frozen BK146.out 1; have hfz83_2 := blk_frozen BK146.out 2; have hfz83_3 := blk_frozen BK146.out 3; have hcz84_0 : w82.cell? ⟨gb147, 0, none⟩ = some (.int .u32 a1_0) := (blk_cell BK147.out 0).trans rfl; have hcz84_1 : w82.cell? ⟨gb147, 1, none⟩ = some (.int .u32 a1_1) := (blk_cell BK147.out 1).trans rfl; have hcz84_2 : w82.cell? ⟨gb147, 2, none⟩ = some (.int .u32 a1_2) := (blk_cell BK147.out 2).trans rfl; have hcz84_3 : w82.cell? ⟨gb147, 3, none⟩ = some (.int .u32 a1_3) := (blk_cell BK147.out 3).trans rfl; have hfz84_0 := blk_frozen BK147.out 0; have hfz84_1 := blk_frozen BK147.out 1; have hfz84_2 := blk_frozen BK147.out 2; have hfz84_3 := blk_frozen BK147.out 3))
                      go_meet
                      case rel => exact ⟨_, (false), (by first | rfl | (simp; done) | (simp [*]; done)), (by first | exact H'), ⟨by have := HJ7.out; first | omega | exact Nat.le_refl _⟩, ⟨by (with_reducible repeat (first | refine blk_drewN ?_ _ | refine blk_drew ?_ | refine blk_alloc ?_ _)); exact BK146.out⟩, ⟨by (with_reducible repeat (first | refine blk_drewN ?_ _ | refine blk_drew ?_ | refine blk_alloc ?_ _)); exact BK147.out⟩, ⟨by (with_reducible repeat (first | refine blk_drewN ?_ _ | refine blk_drew ?_ | refine blk_alloc ?_ _)); exact BK153.out⟩, ⟨by repeat (first | (with_reducible first | exact HB.out | apply below_alloc | apply pw_below_drewN | apply below_drew1 | refine below_set ?_ GE146.out | refine below_set ?_ GE147.out | refine below_set ?_ GE153.out) | exact HB.out)⟩⟩
                  · rw [if_neg c65] at H
                    have c65b0 : decide (a1_0 ≤ a0_2) = false := decide_eq_false c65
                    clear c65
                    have H' := Aside0.mk H
                    clear H
                    have hnb85 := NB146_147.out
                    have hnc85 := NB147_146.out
                    have hnb86 := NB146_153.out
                    have hnc86 := NB153_146.out
                    have hcz87_0 : wc.cell? ⟨gb146, 0, none⟩ = some (.int .u32 a0_0) := (blk_cell BK146.out 0).trans rfl
                    have hcz87_1 : wc.cell? ⟨gb146, 1, none⟩ = some (.int .u32 a0_1) := (blk_cell BK146.out 1).trans rfl
                    have hcz87_2 : wc.cell? ⟨gb146, 2, none⟩ = some (.int .u32 a0_2) := (blk_cell BK146.out 2).trans rfl
                    have hcz87_3 : wc.cell? ⟨gb146, 3, none⟩ = some (.int .u32 a0_3) := (blk_cell BK146.out 3).trans rfl
                    have hfz87_0 := blk_frozen BK146.out 0
                    have hfz87_1 := blk_frozen BK146.out 1
                    have hfz87_2 := blk_frozen BK146.out 2
                    have hfz87_3 := blk_frozen BK146.out 3
                    go_wp2_with (first | ((with_reducible refine gate_calleeT (f := 28) rfl rfl ?_); refine goesLT_ (some 54) rfl rfl Try.func28 (by kernel_rfl) rfl #[.agg #[.int .u32 a0_0, .int .u32 a0_1, .int .u32 a0_2, .int .u32 a0_3]] rfl rfl (by (try simp only [List.map_toArray, List.map_cons, List.map_nil]); first | done | rfl | (simp only [List.length_drop, List.length_take]; rfl)) ?_; (with_reducible refine (croftlaw06_RectTells_1.calls a0_0 a0_1 a0_2 a0_3 false _ A49.out).mono ?_); rintro e w88 ⟨rfl, hb⟩; refine ⟨_, rfl, ?_⟩; have n0_ := Aside0.mk (blk_below (g := gb146) (o := .cells #[.int .u32 a0_0, .int .u32 a0_1, .int .u32 a0_2, .int .u32 a0_3] 24 (0, 0)) (by (with_reducible repeat (first | refine blk_drewN ?_ _ | refine blk_drew ?_ | refine blk_alloc ?_ _)); exact BK146.out) hb); have n1_ := Aside0.mk (blk_below (g := gb147) (o := .cells #[.int .u32 a1_0, .int .u32 a1_1, .int .u32 a1_2, .int .u32 a1_3] 24 (0, 0)) (by (with_reducible repeat (first | refine blk_drewN ?_ _ | refine blk_drew ?_ | refine blk_alloc ?_ _)); exact BK147.out) hb); have n2_ := Aside0.mk (blk_below (g := gb153) (o := .cells #[.int .u32 t149, .int .u32 t150, .int .u32 t151, .int .u32 t152] 24 (0, 0)) (by (with_reducible repeat (first | refine blk_drewN ?_ _ | refine blk_drew ?_ | refine blk_alloc ?_ _)); exact BK153.out) hb); have n3_ := Aside0.mk (below_step (by repeat (first | (with_reducible first | exact HB.out | apply below_alloc | apply pw_below_drewN | apply below_drew1 | refine below_set ?_ GE146.out | refine below_set ?_ GE147.out | refine below_set ?_ GE153.out) | exact HB.out)) hb); clear BK146; clear BK147; clear BK153; clear HB; have BK146 := n0_; have BK147 := n1_; have BK153 := n2_; have HB := n3_; clear n0_ n1_ n2_ n3_; (try clear hb); (try clear hb2); (try clear hk); (try clear hi); have hnb89 := NB147_153.out; have hnc89 := NB153_147.out; have hcz90_0 : w88.cell? ⟨gb147, 0, none⟩ = some (.int .u32 a1_0) := (blk_cell BK147.out 0).trans rfl; have hcz90_1 : w88.cell? ⟨gb147, 1, none⟩ = some (.int .u32 a1_1) := (blk_cell BK147.out 1).trans rfl; have hcz90_2 : w88.cell? ⟨gb147, 2, none⟩ = some (.int .u32 a1_2) := (blk_cell BK147.out 2).trans rfl; have hcz90_3 : w88.cell? ⟨gb147, 3, none⟩ = some (.int .u32 a1_3) := (blk_cell BK147.out 3).trans rfl; have hfz90_0 := blk_frozen BK147.out 0; have hfz90_1 := blk_frozen BK147.out 1; have hfz90_2 := blk_frozen BK147.out 2; have hfz90_3 := blk_frozen BK147.out 3) | (go_at_call 28; (with_reducible refine (croftlaw06_RectTells_1.calls a1_0 a1_1 a1_2 a1_3 false _ A55.out).mono ?_); rintro e w91 ⟨rfl, hb⟩; have n0_ := Aside0.mk (blk_below (g := gb146) (o := .cells #[.int .u32 a0_0, .int .u32 a0_1, .int .u32 a0_2, .int .u32 a0_3] 24 (0, 0)) (by (with_reducible repeat (first | refine blk_drewN ?_ _ | refine blk_drew ?_ | refine blk_alloc ?_ _)); exact BK146.out) hb); have n1_ := Aside0.mk (blk_below (g := gb147) (o := .cells #[.int .u32 a1_0, .int .u32 a1_1, .int .u32 a1_2, .int .u32 a1_3] 24 (0, 0)) (by (with_reducible repeat (first | refine blk_drewN ?_ _ | refine blk_drew ?_ | refine blk_alloc ?_ _)); exact BK147.out) hb); have n2_ := Aside0.mk (blk_below (g := gb153) (o := .cells #[.int .u32 t149, .int .u32 t150, .int .u32 t151, .int .u32 t152] 24 (0, 0)) (by (with_reducible repeat (first | refine blk_drewN ?_ _ | refine blk_drew ?_ | refine blk_alloc ?_ _)); exact BK153.out) hb); have n3_ := Aside0.mk (below_step (by repeat (first | (with_reducible first | exact HB.out | apply below_alloc | apply pw_below_drewN | apply below_drew1 | refine below_set ?_ GE146.out | refine below_set ?_ GE147.out | refine below_set ?_ GE153.out) | exact HB.out)) hb); clear BK146; clear BK147; clear BK153; clear HB; have BK146 := n0_; have BK147 := n1_; have BK153 := n2_; have HB := n3_; clear n0_ n1_ n2_ n3_; (try clear hb); (try clear hb2); (try clear hk); (try clear hi); have hcz92_0 : w91.cell? ⟨gb146, 0, none⟩ = some (.int .u32 a0_0) := (blk_cell BK146.out 0).trans rfl; have hcz92_1 : w91.cell? ⟨gb146, 1, none⟩ = some (.int .u32 a0_1) := (blk_cell BK146.out 1).trans rfl; have hcz92_2 : w91.cell? ⟨gb146, 2, none⟩ = some (.int .u32 a0_2) := (blk_cell BK146.out 2).trans rfl; have hcz92_3 : w91.cell? ⟨gb146, 3, none⟩ = some (.int .u32 a0_3) := (blk_cell BK146.out 3).trans rfl; have hfz92_0 := blk_frozen BK146.out 0; have hfz92_1 := blk_frozen BK146.out 1; have hfz92_2 := blk_frozen BK146.out 2; have hfz92_3 := blk_frozen BK146.out 3; have hcz93_0 : w91.cell? ⟨gb147, 0, none⟩ = some (.int .u32 a1_0) := (blk_cell BK147.out 0).trans rfl; have hcz93_1 : w91.cell? ⟨gb147, 1, none⟩ = some (.int .u32 a1_1) := (blk_cell BK147.out 1).trans rfl; have hcz93_2 : w91.cell? ⟨gb147, 2, none⟩ = some (.int .u32 a1_2) := (blk_cell BK147.out 2).trans rfl; have hcz93_3 : w91.cell? ⟨gb147, 3, none⟩ = some (.int .u32 a1_3) := (blk_cell BK147.out 3).trans rfl; have hfz93_0 := blk_frozen BK147.out 0; have hfz93_1 := blk_frozen BK147.out 1; have hfz93_2 := blk_frozen BK147.out 2; have hfz93_3 := blk_frozen BK147.out 3))
                    go_meet
                    case rel => exact ⟨_, (false), (by first | rfl | (simp; done) | (simp [*]; done)), (by first | exact H'), ⟨by have := HJ7.out; first | omega | exact Nat.le_refl _⟩, ⟨by (with_reducible repeat (first | refine blk_drewN ?_ _ | refine blk_drew ?_ | refine blk_alloc ?_ _)); exact BK146.out⟩, ⟨by (with_reducible repeat (first | refine blk_drewN ?_ _ | refine blk_drew ?_ | refine blk_alloc ?_ _)); exact BK147.out⟩, ⟨by (with_reducible repeat (first | refine blk_drewN ?_ _ | refine blk_drew ?_ | refine blk_alloc ?_ _)); exact BK153.out⟩, ⟨by repeat (first | (with_reducible first | exact HB.out | apply below_alloc | apply pw_below_drewN | apply below_drew1 | refine below_set ?_ GE146.out | refine below_set ?_ GE147.out | refine below_set ?_ GE153.out) | exact HB.out)⟩⟩
                · rw [if_neg c64] at H
                  have c64b0 : decide (a0_0 ≤ a1_2) = false := decide_eq_false c64
                  clear c64
                  (first | rw [c64b0] | (simp only [i64_w, i32_w]; rw [c64b0]) | skip)
                  have H' := Aside0.mk H
                  clear H
                  have hnb94 := NB146_147.out
                  have hnc94 := NB147_146.out
                  have hnb95 := NB146_153.out
                  have hnc95 := NB153_146.out
                  have hcz96_0 : wc.cell? ⟨gb146, 0, none⟩ = some (.int .u32 a0_0) := (blk_cell BK146.out 0).trans rfl
                  have hcz96_1 : wc.cell? ⟨gb146, 1, none⟩ = some (.int .u32 a0_1) := (blk_cell BK146.out 1).trans rfl
                  have hcz96_2 : wc.cell? ⟨gb146, 2, none⟩ = some (.int .u32 a0_2) := (blk_cell BK146.out 2).trans rfl
                  have hcz96_3 : wc.cell? ⟨gb146, 3, none⟩ = some (.int .u32 a0_3) := (blk_cell BK146.out 3).trans rfl
                  have hfz96_0 := blk_frozen BK146.out 0
                  have hfz96_1 := blk_frozen BK146.out 1
                  have hfz96_2 := blk_frozen BK146.out 2
                  have hfz96_3 := blk_frozen BK146.out 3
                  go_wp2_with (first | ((with_reducible refine gate_calleeT (f := 28) rfl rfl ?_); refine goesLT_ (some 54) rfl rfl Try.func28 (by kernel_rfl) rfl #[.agg #[.int .u32 a0_0, .int .u32 a0_1, .int .u32 a0_2, .int .u32 a0_3]] rfl rfl (by (try simp only [List.map_toArray, List.map_cons, List.map_nil]); first | done | rfl | (simp only [List.length_drop, List.length_take]; rfl)) ?_; (with_reducible refine (croftlaw06_RectTells_1.calls a0_0 a0_1 a0_2 a0_3 false _ A49.out).mono ?_); rintro e w97 ⟨rfl, hb⟩; refine ⟨_, rfl, ?_⟩; have n0_ := Aside0.mk (blk_below (g := gb146) (o := .cells #[.int .u32 a0_0, .int .u32 a0_1, .int .u32 a0_2, .int .u32 a0_3] 24 (0, 0)) (by (with_reducible repeat (first | refine blk_drewN ?_ _ | refine blk_drew ?_ | refine blk_alloc ?_ _)); exact BK146.out) hb); have n1_ := Aside0.mk (blk_below (g := gb147) (o := .cells #[.int .u32 a1_0, .int .u32 a1_1, .int .u32 a1_2, .int .u32 a1_3] 24 (0, 0)) (by (with_reducible repeat (first | refine blk_drewN ?_ _ | refine blk_drew ?_ | refine blk_alloc ?_ _)); exact BK147.out) hb); have n2_ := Aside0.mk (blk_below (g := gb153) (o := .cells #[.int .u32 t149, .int .u32 t150, .int .u32 t151, .int .u32 t152] 24 (0, 0)) (by (with_reducible repeat (first | refine blk_drewN ?_ _ | refine blk_drew ?_ | refine blk_alloc ?_ _)); exact BK153.out) hb); have n3_ := Aside0.mk (below_step (by repeat (first | (with_reducible first | exact HB.out | apply below_alloc | apply pw_below_drewN | apply below_drew1 | refine below_set ?_ GE146.out | refine below_set ?_ GE147.out | refine below_set ?_ GE153.out) | exact HB.out)) hb); clear BK146; clear BK147; clear BK153; clear HB; have BK146 := n0_; have BK147 := n1_; have BK153 := n2_; have HB := n3_; clear n0_ n1_ n2_ n3_; (try clear hb); (try clear hb2); (try clear hk); (try clear hi); have hnb98 := NB147_153.out; have hnc98 := NB153_147.out; have hcz99_0 : w97.cell? ⟨gb147, 0, none⟩ = some (.int .u32 a1_0) := (blk_cell BK147.out 0).trans rfl; have hcz99_1 : w97.cell? ⟨gb147, 1, none⟩ = some (.int .u32 a1_1) := (blk_cell BK147.out 1).trans rfl; have hcz99_2 : w97.cell? ⟨gb147, 2, none⟩ = some (.int .u32 a1_2) := (blk_cell BK147.out 2).trans rfl; have hcz99_3 : w97.cell? ⟨gb147, 3, none⟩ = some (.int .u32 a1_3) := (blk_cell BK147.out 3).trans rfl; have hfz99_0 := blk_frozen BK147.out 0; have hfz99_1 := blk_frozen BK147.out 1; have hfz99_2 := blk_frozen BK147.out 2; have hfz99_3 := blk_frozen BK147.out 3) | (go_at_call 28; (with_reducible refine (croftlaw06_RectTells_1.calls a1_0 a1_1 a1_2 a1_3 false _ A55.out).mono ?_); rintro e w100 ⟨rfl, hb⟩; have n0_ := Aside0.mk (blk_below (g := gb146) (o := .cells #[.int .u32 a0_0, .int .u32 a0_1, .int .u32 a0_2, .int .u32 a0_3] 24 (0, 0)) (by (with_reducible repeat (first | refine blk_drewN ?_ _ | refine blk_drew ?_ | refine blk_alloc ?_ _)); exact BK146.out) hb); have n1_ := Aside0.mk (blk_below (g := gb147) (o := .cells #[.int .u32 a1_0, .int .u32 a1_1, .int .u32 a1_2, .int .u32 a1_3] 24 (0, 0)) (by (with_reducible repeat (first | refine blk_drewN ?_ _ | refine blk_drew ?_ | refine blk_alloc ?_ _)); exact BK147.out) hb); have n2_ := Aside0.mk (blk_below (g := gb153) (o := .cells #[.int .u32 t149, .int .u32 t150, .int .u32 t151, .int .u32 t152] 24 (0, 0)) (by (with_reducible repeat (first | refine blk_drewN ?_ _ | refine blk_drew ?_ | refine blk_alloc ?_ _)); exact BK153.out) hb); have n3_ := Aside0.mk (below_step (by repeat (first | (with_reducible first | exact HB.out | apply below_alloc | apply pw_below_drewN | apply below_drew1 | refine below_set ?_ GE146.out | refine below_set ?_ GE147.out | refine below_set ?_ GE153.out) | exact HB.out)) hb); clear BK146; clear BK147; clear BK153; clear HB; have BK146 := n0_; have BK147 := n1_; have BK153 := n2_; have HB := n3_; clear n0_ n1_ n2_ n3_; (try clear hb); (try clear hb2); (try clear hk); (try clear hi); have hcz101_0 : w100.cell? ⟨gb146, 0, none⟩ = some (.int .u32 a0_0) := (blk_cell BK146.out 0).trans rfl; have hcz101_1 : w100.cell? ⟨gb146, 1, none⟩ = some (.int .u32 a0_1) := (blk_cell BK146.out 1).trans rfl; have hcz101_2 : w100.cell? ⟨gb146, 2, none⟩ = some (.int .u32 a0_2) := (blk_cell BK146.out 2).trans rfl; have hcz101_3 : w100.cell? ⟨gb146, 3, none⟩ = some (.int .u32 a0_3) := (blk_cell BK146.out 3).trans rfl; have hfz101_0 := blk_frozen BK146.out 0; have hfz101_1 := blk_frozen BK146.out 1; have hfz101_2 := blk_frozen BK146.out 2; have hfz101_3 := blk_frozen BK146.out 3; have hcz102_0 : w100.cell? ⟨gb147, 0, none⟩ = some (.int .u32 a1_0) := (blk_cell BK147.out 0).trans rfl; have hcz102_1 : w100.cell? ⟨gb147, 1, none⟩ = some (.int .u32 a1_1) := (blk_cell BK147.out 1).trans rfl; have hcz102_2 : w100.cell? ⟨gb147, 2, none⟩ = some (.int .u32 a1_2) := (blk_cell BK147.out 2).trans rfl; have hcz102_3 : w100.cell? ⟨gb147, 3, none⟩ = some (.int .u32 a1_3) := (blk_cell BK147.out 3).trans rfl; have hfz102_0 := blk_frozen BK147.out 0; have hfz102_1 := blk_frozen BK147.out 1; have hfz102_2 := blk_frozen BK147.out 2; have hfz102_3 := blk_frozen BK147.out 3))
                  go_meet
                  case rel => exact ⟨_, (false), (by first | rfl | (simp; done) | (simp [*]; done)), (by first | exact H'), ⟨by have := HJ7.out; first | omega | exact Nat.le_refl _⟩, ⟨by (with_reducible repeat (first | refine blk_drewN ?_ _ | refine blk_drew ?_ | refine blk_alloc ?_ _)); exact BK146.out⟩, ⟨by (with_reducible repeat (first | refine blk_drewN ?_ _ | refine blk_drew ?_ | refine blk_alloc ?_ _)); exact BK147.out⟩, ⟨by (with_reducible repeat (first | refine blk_drewN ?_ _ | refine blk_drew ?_ | refine blk_alloc ?_ _)); exact BK153.out⟩, ⟨by repeat (first | (with_reducible first | exact HB.out | apply below_alloc | apply pw_below_drewN | apply below_drew1 | refine below_set ?_ GE146.out | refine below_set ?_ GE147.out | refine below_set ?_ GE153.out) | exact HB.out)⟩⟩
          case rest =>
            clear HC48
            try clear c2
            try clear p2
            try clear c3
            try clear c4
            try clear c5
            try clear c6
            try clear c7
            try clear c8
            try clear c9
            try clear c27
            try clear c28
            try clear c30
            try clear c31
            try clear c47
            try clear c50
            try clear c51
            try clear c52
            try clear c56
            try clear c57
            try clear c58
            try clear c61
            try clear c64
            try clear c64b0
            try clear c65
            try clear c65b0
            try clear c66
            try clear c66b0
            try clear c67
            try clear c68
            try clear c71
            try clear c76
            try clear c77
            try clear c80
            try clear c85
            try clear c86
            try clear c89
            try clear c94
            try clear c95
            try clear c98
            try clear hcz101_0
            try clear hcz101_1
            try clear hcz101_2
            try clear hcz101_3
            try clear hcz102_0
            try clear hcz102_1
            try clear hcz102_2
            try clear hcz102_3
            try clear hcz53_0
            try clear hcz53_1
            try clear hcz53_2
            try clear hcz53_3
            try clear hcz59_0
            try clear hcz59_1
            try clear hcz59_2
            try clear hcz59_3
            try clear hcz62_0
            try clear hcz62_1
            try clear hcz62_2
            try clear hcz62_3
            try clear hcz69_0
            try clear hcz69_1
            try clear hcz69_2
            try clear hcz69_3
            try clear hcz72_0
            try clear hcz72_1
            try clear hcz72_2
            try clear hcz72_3
            try clear hcz74_0
            try clear hcz74_1
            try clear hcz74_2
            try clear hcz74_3
            try clear hcz75_0
            try clear hcz75_1
            try clear hcz75_2
            try clear hcz75_3
            try clear hcz78_0
            try clear hcz78_1
            try clear hcz78_2
            try clear hcz78_3
            try clear hcz81_0
            try clear hcz81_1
            try clear hcz81_2
            try clear hcz81_3
            try clear hcz83_0
            try clear hcz83_1
            try clear hcz83_2
            try clear hcz83_3
            try clear hcz84_0
            try clear hcz84_1
            try clear hcz84_2
            try clear hcz84_3
            try clear hcz87_0
            try clear hcz87_1
            try clear hcz87_2
            try clear hcz87_3
            try clear hcz90_0
            try clear hcz90_1
            try clear hcz90_2
            try clear hcz90_3
            try clear hcz92_0
            try clear hcz92_1
            try clear hcz92_2
            try clear hcz92_3
            try clear hcz93_0
            try clear hcz93_1
            try clear hcz93_2
            try clear hcz93_3
            try clear hcz96_0
            try clear hcz96_1
            try clear hcz96_2
            try clear hcz96_3
            try clear hcz99_0
            try clear hcz99_1
            try clear hcz99_2
            try clear hcz99_3
            try clear hfz101_0
            try clear hfz101_1
            try clear hfz101_2
            try clear hfz101_3
            try clear hfz102_0
            try clear hfz102_1
            try clear hfz102_2
            try clear hfz102_3
            try clear hfz53_0
            try clear hfz53_1
            try clear hfz53_2
            try clear hfz53_3
            try clear hfz59_0
            try clear hfz59_1
            try clear hfz59_2
            try clear hfz59_3
            try clear hfz62_0
            try clear hfz62_1
            try clear hfz62_2
            try clear hfz62_3
            try clear hfz69_0
            try clear hfz69_1
            try clear hfz69_2
            try clear hfz69_3
            try clear hfz72_0
            try clear hfz72_1
            try clear hfz72_2
            try clear hfz72_3
            try clear hfz74_0
            try clear hfz74_1
            try clear hfz74_2
            try clear hfz74_3
            try clear hfz75_0
            try clear hfz75_1
            try clear hfz75_2
            try clear hfz75_3
            try clear hfz78_0
            try clear hfz78_1
            try clear hfz78_2
            try clear hfz78_3
            try clear hfz81_0
            try clear hfz81_1
            try clear hfz81_2
            try clear hfz81_3
            try clear hfz83_0
            try clear hfz83_1
            try clear hfz83_2
            try clear hfz83_3
            try clear hfz84_0
            try clear hfz84_1
            try clear hfz84_2
            try clear hfz84_3
            try clear hfz87_0
            try clear hfz87_1
            try clear hfz87_2
            try clear hfz87_3
            try clear hfz90_0
            try clear hfz90_1
            try clear hfz90_2
            try clear hfz90_3
            try clear hfz92_0
            try clear hfz92_1
            try clear hfz92_2
            try clear hfz92_3
            try clear hfz93_0
            try clear hfz93_1
            try clear hfz93_2
            try clear hfz93_3
            try clear hfz96_0
            try clear hfz96_1
            try clear hfz96_2
            try clear hfz96_3
            try clear hfz99_0
            try clear hfz99_1
            try clear hfz99_2
            try clear hfz99_3
            try clear p2
            obtain ⟨kq, x11_47, rfl, HA, HJ47, BK146, BK147, BK153, HB⟩ := hcut
            cases kq with
            | zero => exact absurd HA.out (by simp [croftlaw06_RectTells.j1])
            | succ kj47 =>
              have H := HA.out
              clear HA
              simp only [croftlaw06_RectTells.j1] at H
              have HC103 := Aside0.mk H
              clear H
              go_upto_region 8 with (fail)
              go_cut [12] (fun v12 wc => ∃ (kq : Nat) (x12_102 : Bool), v12 = .bool x12_102 ∧ Aside0 (croftlaw06_RectTells.j2 kq x11_47 x12_102 a0_0 a0_1 a0_2 a0_3 a1_0 a1_1 a1_2 a1_3 t149 t150 t151 t152 = some r) ∧ Aside0 (kq ≤ kj47) ∧ Aside0 (wc.heap[gb146]? = some (.cells #[.int .u32 a0_0, .int .u32 a0_1, .int .u32 a0_2, .int .u32 a0_3] 24 (0, 0))) ∧ Aside0 (wc.heap[gb147]? = some (.cells #[.int .u32 a1_0, .int .u32 a1_1, .int .u32 a1_2, .int .u32 a1_3] 24 (0, 0))) ∧ Aside0 (wc.heap[gb153]? = some (.cells #[.int .u32 t149, .int .u32 t150, .int .u32 t151, .int .u32 t152] 24 (0, 0))) ∧ Aside0 (Below w.heap.size w wc))
              case first =>
                have H := HC103.out
                clear HC103
                replace H := Option.bind_eq_some_iff.mp H
                obtain ⟨t163, A1040, H⟩ := H
                replace H : (if t163 = true then (croftlaw06_RectTells.j2 kj47 x11_47 true a0_0 a0_1 a0_2 a0_3 a1_0 a1_1 a1_2 a1_3 t149 t150 t151 t152) else ((croftlaw06_RectTells_1.f a1_0 a1_1 a1_2 a1_3).bind fun t164 => (if t164 = true then (croftlaw06_RectTells.j2 kj47 x11_47 false a0_0 a0_1 a0_2 a0_3 a1_0 a1_1 a1_2 a1_3 t149 t150 t151 t152) else (if a0_0 ≥ a1_0 then (if a0_2 ≤ a1_2 then (if a0_1 ≥ a1_1 then (croftlaw06_RectTells.j2 kj47 x11_47 (decide (a0_3 ≤ a1_3)) a0_0 a0_1 a0_2 a0_3 a1_0 a1_1 a1_2 a1_3 t149 t150 t151 t152) else (croftlaw06_RectTells.j2 kj47 x11_47 false a0_0 a0_1 a0_2 a0_3 a1_0 a1_1 a1_2 a1_3 t149 t150 t151 t152)) else (croftlaw06_RectTells.j2 kj47 x11_47 false a0_0 a0_1 a0_2 a0_3 a1_0 a1_1 a1_2 a1_3 t149 t150 t151 t152)) else (croftlaw06_RectTells.j2 kj47 x11_47 false a0_0 a0_1 a0_2 a0_3 a1_0 a1_1 a1_2 a1_3 t149 t150 t151 t152))))) = some r := H
                have A104 := Aside0.mk A1040
                clear A1040
                by_cases c105 : t163 = true
                · subst c105
                  have H1 : (croftlaw06_RectTells.j2 kj47 x11_47 true a0_0 a0_1 a0_2 a0_3 a1_0 a1_1 a1_2 a1_3 t149 t150 t151 t152) = some r := by rw [if_pos rfl] at H; exact H
                  clear H
                  have H := H1
                  clear H1
                  have H' := Aside0.mk H
                  clear H
                  have hnb106 := NB146_147.out
                  have hnc106 := NB147_146.out
                  have hnb107 := NB146_153.out
                  have hnc107 := NB153_146.out
                  have hcz108_0 : wc.cell? ⟨gb146, 0, none⟩ = some (.int .u32 a0_0) := (blk_cell BK146.out 0).trans rfl
                  have hcz108_1 : wc.cell? ⟨gb146, 1, none⟩ = some (.int .u32 a0_1) := (blk_cell BK146.out 1).trans rfl
                  have hcz108_2 : wc.cell? ⟨gb146, 2, none⟩ = some (.int .u32 a0_2) := (blk_cell BK146.out 2).trans rfl
                  have hcz108_3 : wc.cell? ⟨gb146, 3, none⟩ = some (.int .u32 a0_3) := (blk_cell BK146.out 3).trans rfl
                  have hfz108_0 := blk_frozen BK146.out 0
                  have hfz108_1 := blk_frozen BK146.out 1
                  have hfz108_2 := blk_frozen BK146.out 2
                  have hfz108_3 := blk_frozen BK146.out 3
                  go_wp2_with (first | ((with_reducible refine gate_calleeT (f := 28) rfl rfl ?_); refine goesLT_ (some 92) rfl rfl Try.func28 (by kernel_rfl) rfl #[.agg #[.int .u32 a0_0, .int .u32 a0_1, .int .u32 a0_2, .int .u32 a0_3]] rfl rfl (by (try simp only [List.map_toArray, List.map_cons, List.map_nil]); first | done | rfl | (simp only [List.length_drop, List.length_take]; rfl)) ?_; (with_reducible refine (croftlaw06_RectTells_1.calls a0_0 a0_1 a0_2 a0_3 true _ A104.out).mono ?_); rintro e w109 ⟨rfl, hb⟩; refine ⟨_, rfl, ?_⟩; have n0_ := Aside0.mk (blk_below (g := gb146) (o := .cells #[.int .u32 a0_0, .int .u32 a0_1, .int .u32 a0_2, .int .u32 a0_3] 24 (0, 0)) (by (with_reducible repeat (first | refine blk_drewN ?_ _ | refine blk_drew ?_ | refine blk_alloc ?_ _)); exact BK146.out) hb); have n1_ := Aside0.mk (blk_below (g := gb147) (o := .cells #[.int .u32 a1_0, .int .u32 a1_1, .int .u32 a1_2, .int .u32 a1_3] 24 (0, 0)) (by (with_reducible repeat (first | refine blk_drewN ?_ _ | refine blk_drew ?_ | refine blk_alloc ?_ _)); exact BK147.out) hb); have n2_ := Aside0.mk (blk_below (g := gb153) (o := .cells #[.int .u32 t149, .int .u32 t150, .int .u32 t151, .int .u32 t152] 24 (0, 0)) (by (with_reducible repeat (first | refine blk_drewN ?_ _ | refine blk_drew ?_ | refine blk_alloc ?_ _)); exact BK153.out) hb); have n3_ := Aside0.mk (below_step (by repeat (first | (with_reducible first | exact HB.out | apply below_alloc | apply pw_below_drewN | apply below_drew1 | refine below_set ?_ GE146.out | refine below_set ?_ GE147.out | refine below_set ?_ GE153.out) | exact HB.out)) hb); clear BK146; clear BK147; clear BK153; clear HB; have BK146 := n0_; have BK147 := n1_; have BK153 := n2_; have HB := n3_; clear n0_ n1_ n2_ n3_; (try clear hb); (try clear hb2); (try clear hk); (try clear hi)))
                  go_meet
                  case rel => exact ⟨_, (true), (by first | rfl | (simp; done) | (simp [*]; done)), (by first | exact H'), ⟨by have := HJ7.out; have := HJ47.out; first | omega | exact Nat.le_refl _⟩, ⟨by (with_reducible repeat (first | refine blk_drewN ?_ _ | refine blk_drew ?_ | refine blk_alloc ?_ _)); exact BK146.out⟩, ⟨by (with_reducible repeat (first | refine blk_drewN ?_ _ | refine blk_drew ?_ | refine blk_alloc ?_ _)); exact BK147.out⟩, ⟨by (with_reducible repeat (first | refine blk_drewN ?_ _ | refine blk_drew ?_ | refine blk_alloc ?_ _)); exact BK153.out⟩, ⟨by repeat (first | (with_reducible first | exact HB.out | apply below_alloc | apply pw_below_drewN | apply below_drew1 | refine below_set ?_ GE146.out | refine below_set ?_ GE147.out | refine below_set ?_ GE153.out) | exact HB.out)⟩⟩
                · replace c105 := Bool.eq_false_iff.mpr c105
                  subst c105
                  have H1 : ((croftlaw06_RectTells_1.f a1_0 a1_1 a1_2 a1_3).bind fun t164 => (if t164 = true then (croftlaw06_RectTells.j2 kj47 x11_47 false a0_0 a0_1 a0_2 a0_3 a1_0 a1_1 a1_2 a1_3 t149 t150 t151 t152) else (if a0_0 ≥ a1_0 then (if a0_2 ≤ a1_2 then (if a0_1 ≥ a1_1 then (croftlaw06_RectTells.j2 kj47 x11_47 (decide (a0_3 ≤ a1_3)) a0_0 a0_1 a0_2 a0_3 a1_0 a1_1 a1_2 a1_3 t149 t150 t151 t152) else (croftlaw06_RectTells.j2 kj47 x11_47 false a0_0 a0_1 a0_2 a0_3 a1_0 a1_1 a1_2 a1_3 t149 t150 t151 t152)) else (croftlaw06_RectTells.j2 kj47 x11_47 false a0_0 a0_1 a0_2 a0_3 a1_0 a1_1 a1_2 a1_3 t149 t150 t151 t152)) else (croftlaw06_RectTells.j2 kj47 x11_47 false a0_0 a0_1 a0_2 a0_3 a1_0 a1_1 a1_2 a1_3 t149 t150 t151 t152)))) = some r := by rw [if_neg (show ¬ (false = true) by decide)] at H; exact H
                  clear H
                  have H := H1
                  clear H1
                  replace H := Option.bind_eq_some_iff.mp H
                  obtain ⟨t164, A1100, H⟩ := H
                  replace H : (if t164 = true then (croftlaw06_RectTells.j2 kj47 x11_47 false a0_0 a0_1 a0_2 a0_3 a1_0 a1_1 a1_2 a1_3 t149 t150 t151 t152) else (if a0_0 ≥ a1_0 then (if a0_2 ≤ a1_2 then (if a0_1 ≥ a1_1 then (croftlaw06_RectTells.j2 kj47 x11_47 (decide (a0_3 ≤ a1_3)) a0_0 a0_1 a0_2 a0_3 a1_0 a1_1 a1_2 a1_3 t149 t150 t151 t152) else (croftlaw06_RectTells.j2 kj47 x11_47 false a0_0 a0_1 a0_2 a0_3 a1_0 a1_1 a1_2 a1_3 t149 t150 t151 t152)) else (croftlaw06_RectTells.j2 kj47 x11_47 false a0_0 a0_1 a0_2 a0_3 a1_0 a1_1 a1_2 a1_3 t149 t150 t151 t152)) else (croftlaw06_RectTells.j2 kj47 x11_47 false a0_0 a0_1 a0_2 a0_3 a1_0 a1_1 a1_2 a1_3 t149 t150 t151 t152))) = some r := H
                  have A110 := Aside0.mk A1100
                  clear A1100
                  by_cases c111 : t164 = true
                  · subst c111
                    have H1 : (croftlaw06_RectTells.j2 kj47 x11_47 false a0_0 a0_1 a0_2 a0_3 a1_0 a1_1 a1_2 a1_3 t149 t150 t151 t152) = some r := by rw [if_pos rfl] at H; exact H
                    clear H
                    have H := H1
                    clear H1
                    have H' := Aside0.mk H
                    clear H
                    have hnb112 := NB146_147.out
                    have hnc112 := NB147_146.out
                    have hnb113 := NB146_153.out
                    have hnc113 := NB153_146.out
                    have hcz114_0 : wc.cell? ⟨gb146, 0, none⟩ = some (.int .u32 a0_0) := (blk_cell BK146.out 0).trans rfl
                    have hcz114_1 : wc.cell? ⟨gb146, 1, none⟩ = some (.int .u32 a0_1) := (blk_cell BK146.out 1).trans rfl
                    have hcz114_2 : wc.cell? ⟨gb146, 2, none⟩ = some (.int .u32 a0_2) := (blk_cell BK146.out 2).trans rfl
                    have hcz114_3 : wc.cell? ⟨gb146, 3, none⟩ = some (.int .u32 a0_3) := (blk_cell BK146.out 3).trans rfl
                    have hfz114_0 := blk_frozen BK146.out 0
                    have hfz114_1 := blk_frozen BK146.out 1
                    have hfz114_2 := blk_frozen BK146.out 2
                    have hfz114_3 := blk_frozen BK146.out 3
                    go_wp2_with (first | ((with_reducible refine gate_calleeT (f := 28) rfl rfl ?_); refine goesLT_ (some 92) rfl rfl Try.func28 (by kernel_rfl) rfl #[.agg #[.int .u32 a0_0, .int .u32 a0_1, .int .u32 a0_2, .int .u32 a0_3]] rfl rfl (by (try simp only [List.map_toArray, List.map_cons, List.map_nil]); first | done | rfl | (simp only [List.length_drop, List.length_take]; rfl)) ?_; (with_reducible refine (croftlaw06_RectTells_1.calls a0_0 a0_1 a0_2 a0_3 false _ A104.out).mono ?_); rintro e w115 ⟨rfl, hb⟩; refine ⟨_, rfl, ?_⟩; have n0_ := Aside0.mk (blk_below (g := gb146) (o := .cells #[.int .u32 a0_0, .int .u32 a0_1, .int .u32 a0_2, .int .u32 a0_3] 24 (0, 0)) (by (with_reducible repeat (first | refine blk_drewN ?_ _ | refine blk_drew ?_ | refine blk_alloc ?_ _)); exact BK146.out) hb); have n1_ := Aside0.mk (blk_below (g := gb147) (o := .cells #[.int .u32 a1_0, .int .u32 a1_1, .int .u32 a1_2, .int .u32 a1_3] 24 (0, 0)) (by (with_reducible repeat (first | refine blk_drewN ?_ _ | refine blk_drew ?_ | refine blk_alloc ?_ _)); exact BK147.out) hb); have n2_ := Aside0.mk (blk_below (g := gb153) (o := .cells #[.int .u32 t149, .int .u32 t150, .int .u32 t151, .int .u32 t152] 24 (0, 0)) (by (with_reducible repeat (first | refine blk_drewN ?_ _ | refine blk_drew ?_ | refine blk_alloc ?_ _)); exact BK153.out) hb); have n3_ := Aside0.mk (below_step (by repeat (first | (with_reducible first | exact HB.out | apply below_alloc | apply pw_below_drewN | apply below_drew1 | refine below_set ?_ GE146.out | refine below_set ?_ GE147.out | refine below_set ?_ GE153.out) | exact HB.out)) hb); clear BK146; clear BK147; clear BK153; clear HB; have BK146 := n0_; have BK147 := n1_; have BK153 := n2_; have HB := n3_; clear n0_ n1_ n2_ n3_; (try clear hb); (try clear hb2); (try clear hk); (try clear hi); have hnb116 := NB147_153.out; have hnc116 := NB153_147.out; have hcz117_0 : w115.cell? ⟨gb147, 0, none⟩ = some (.int .u32 a1_0) := (blk_cell BK147.out 0).trans rfl; have hcz117_1 : w115.cell? ⟨gb147, 1, none⟩ = some (.int .u32 a1_1) := (blk_cell BK147.out 1).trans rfl; have hcz117_2 : w115.cell? ⟨gb147, 2, none⟩ = some (.int .u32 a1_2) := (blk_cell BK147.out 2).trans rfl; have hcz117_3 : w115.cell? ⟨gb147, 3, none⟩ = some (.int .u32 a1_3) := (blk_cell BK147.out 3).trans rfl; have hfz117_0 := blk_frozen BK147.out 0; have hfz117_1 := blk_frozen BK147.out 1; have hfz117_2 := blk_frozen BK147.out 2; have hfz117_3 := blk_frozen BK147.out 3) | (go_at_call 28; (with_reducible refine (croftlaw06_RectTells_1.calls a1_0 a1_1 a1_2 a1_3 true _ A110.out).mono ?_); rintro e w118 ⟨rfl, hb⟩; have n0_ := Aside0.mk (blk_below (g := gb146) (o := .cells #[.int .u32 a0_0, .int .u32 a0_1, .int .u32 a0_2, .int .u32 a0_3] 24 (0, 0)) (by (with_reducible repeat (first | refine blk_drewN ?_ _ | refine blk_drew ?_ | refine blk_alloc ?_ _)); exact BK146.out) hb); have n1_ := Aside0.mk (blk_below (g := gb147) (o := .cells #[.int .u32 a1_0, .int .u32 a1_1, .int .u32 a1_2, .int .u32 a1_3] 24 (0, 0)) (by (with_reducible repeat (first | refine blk_drewN ?_ _ | refine blk_drew ?_ | refine blk_alloc ?_ _)); exact BK147.out) hb); have n2_ := Aside0.mk (blk_below (g := gb153) (o := .cells #[.int .u32 t149, .int .u32 t150, .int .u32 t151, .int .u32 t152] 24 (0, 0)) (by (with_reducible repeat (first | refine blk_drewN ?_ _ | refine blk_drew ?_ | refine blk_alloc ?_ _)); exact BK153.out) hb); have n3_ := Aside0.mk (below_step (by repeat (first | (with_reducible first | exact HB.out | apply below_alloc | apply pw_below_drewN | apply below_drew1 | refine below_set ?_ GE146.out | refine below_set ?_ GE147.out | refine below_set ?_ GE153.out) | exact HB.out)) hb); clear BK146; clear BK147; clear BK153; clear HB; have BK146 := n0_; have BK147 := n1_; have BK153 := n2_; have HB := n3_; clear n0_ n1_ n2_ n3_; (try clear hb); (try clear hb2); (try clear hk); (try clear hi)))
                    go_meet
                    case rel => exact ⟨_, (false), (by first | rfl | (simp; done) | (simp [*]; done)), (by first | exact H'), ⟨by have := HJ7.out; have := HJ47.out; first | omega | exact Nat.le_refl _⟩, ⟨by (with_reducible repeat (first | refine blk_drewN ?_ _ | refine blk_drew ?_ | refine blk_alloc ?_ _)); exact BK146.out⟩, ⟨by (with_reducible repeat (first | refine blk_drewN ?_ _ | refine blk_drew ?_ | refine blk_alloc ?_ _)); exact BK147.out⟩, ⟨by (with_reducible repeat (first | refine blk_drewN ?_ _ | refine blk_drew ?_ | refine blk_alloc ?_ _)); exact BK153.out⟩, ⟨by repeat (first | (with_reducible first | exact HB.out | apply below_alloc | apply pw_below_drewN | apply below_drew1 | refine below_set ?_ GE146.out | refine below_set ?_ GE147.out | refine below_set ?_ GE153.out) | exact HB.out)⟩⟩
                  · replace c111 := Bool.eq_false_iff.mpr c111
                    subst c111
                    have H1 : (if a0_0 ≥ a1_0 then (if a0_2 ≤ a1_2 then (if a0_1 ≥ a1_1 then (croftlaw06_RectTells.j2 kj47 x11_47 (decide (a0_3 ≤ a1_3)) a0_0 a0_1 a0_2 a0_3 a1_0 a1_1 a1_2 a1_3 t149 t150 t151 t152) else (croftlaw06_RectTells.j2 kj47 x11_47 false a0_0 a0_1 a0_2 a0_3 a1_0 a1_1 a1_2 a1_3 t149 t150 t151 t152)) else (croftlaw06_RectTells.j2 kj47 x11_47 false a0_0 a0_1 a0_2 a0_3 a1_0 a1_1 a1_2 a1_3 t149 t150 t151 t152)) else (croftlaw06_RectTells.j2 kj47 x11_47 false a0_0 a0_1 a0_2 a0_3 a1_0 a1_1 a1_2 a1_3 t149 t150 t151 t152)) = some r := by rw [if_neg (show ¬ (false = true) by decide)] at H; exact H
                    clear H
                    have H := H1
                    clear H1
                    by_cases c119 : a0_0 ≥ a1_0
                    · rw [if_pos c119] at H
                      have c119b0 : decide (a1_0 ≤ a0_0) = true := decide_eq_true c119
                      clear c119
                      (first | rw [c119b0] | (simp only [i64_w, i32_w]; rw [c119b0]) | skip)
                      by_cases c120 : a0_2 ≤ a1_2
                      · rw [if_pos c120] at H
                        have c120b0 : decide (a0_2 ≤ a1_2) = true := decide_eq_true c120
                        clear c120
                        by_cases c121 : a0_1 ≥ a1_1
                        · rw [if_pos c121] at H
                          have c121b0 : decide (a1_1 ≤ a0_1) = true := decide_eq_true c121
                          clear c121
                          have H' := Aside0.mk H
                          clear H
                          have hnb122 := NB146_147.out
                          have hnc122 := NB147_146.out
                          have hnb123 := NB146_153.out
                          have hnc123 := NB153_146.out
                          have hcz124_0 : wc.cell? ⟨gb146, 0, none⟩ = some (.int .u32 a0_0) := (blk_cell BK146.out 0).trans rfl
                          have hcz124_1 : wc.cell? ⟨gb146, 1, none⟩ = some (.int .u32 a0_1) := (blk_cell BK146.out 1).trans rfl
                          have hcz124_2 : wc.cell? ⟨gb146, 2, none⟩ = some (.int .u32 a0_2) := (blk_cell BK146.out 2).trans rfl
                          have hcz124_3 : wc.cell? ⟨gb146, 3, none⟩ = some (.int .u32 a0_3) := (blk_cell BK146.out 3).trans rfl
                          have hfz124_0 := blk_frozen BK146.out 0
                          have hfz124_1 := blk_frozen BK146.out 1
                          have hfz124_2 := blk_frozen BK146.out 2
                          have hfz124_3 := blk_frozen BK146.out 3
                          go_wp2_with (first | ((with_reducible refine gate_calleeT (f := 28) rfl rfl ?_); refine goesLT_ (some 92) rfl rfl Try.func28 (by kernel_rfl) rfl #[.agg #[.int .u32 a0_0, .int .u32 a0_1, .int .u32 a0_2, .int .u32 a0_3]] rfl rfl (by (try simp only [List.map_toArray, List.map_cons, List.map_nil]); first | done | rfl | (simp only [List.length_drop, List.length_take]; rfl)) ?_; (with_reducible refine (croftlaw06_RectTells_1.calls a0_0 a0_1 a0_2 a0_3 false _ A104.out).mono ?_); rintro e w125 ⟨rfl, hb⟩; refine ⟨_, rfl, ?_⟩; have n0_ := Aside0.mk (blk_below (g := gb146) (o := .cells #[.int .u32 a0_0, .int .u32 a0_1, .int .u32 a0_2, .int .u32 a0_3] 24 (0, 0)) (by (with_reducible repeat (first | refine blk_drewN ?_ _ | refine blk_drew ?_ | refine blk_alloc ?_ _)); exact BK146.out) hb); have n1_ := Aside0.mk (blk_below (g := gb147) (o := .cells #[.int .u32 a1_0, .int .u32 a1_1, .int .u32 a1_2, .int .u32 a1_3] 24 (0, 0)) (by (with_reducible repeat (first | refine blk_drewN ?_ _ | refine blk_drew ?_ | refine blk_alloc ?_ _)); exact BK147.out) hb); have n2_ := Aside0.mk (blk_below (g := gb153) (o := .cells #[.int .u32 t149, .int .u32 t150, .int .u32 t151, .int .u32 t152] 24 (0, 0)) (by (with_reducible repeat (first | refine blk_drewN ?_ _ | refine blk_drew ?_ | refine blk_alloc ?_ _)); exact BK153.out) hb); have n3_ := Aside0.mk (below_step (by repeat (first | (with_reducible first | exact HB.out | apply below_alloc | apply pw_below_drewN | apply below_drew1 | refine below_set ?_ GE146.out | refine below_set ?_ GE147.out | refine below_set ?_ GE153.out) | exact HB.out)) hb); clear BK146; clear BK147; clear BK153; clear HB; have BK146 := n0_; have BK147 := n1_; have BK153 := n2_; have HB := n3_; clear n0_ n1_ n2_ n3_; (try clear hb); (try clear hb2); (try clear hk); (try clear hi); have hnb126 := NB147_153.out; have hnc126 := NB153_147.out; have hcz127_0 : w125.cell? ⟨gb147, 0, none⟩ = some (.int .u32 a1_0) := (blk_cell BK147.out 0).trans rfl; have hcz127_1 : w125.cell? ⟨gb147, 1, none⟩ = some (.int .u32 a1_1) := (blk_cell BK147.out 1).trans rfl; have hcz127_2 : w125.cell? ⟨gb147, 2, none⟩ = some (.int .u32 a1_2) := (blk_cell BK147.out 2).trans rfl; have hcz127_3 : w125.cell? ⟨gb147, 3, none⟩ = some (.int .u32 a1_3) := (blk_cell BK147.out 3).trans rfl; have hfz127_0 := blk_frozen BK147.out 0; have hfz127_1 := blk_frozen BK147.out 1; have hfz127_2 := blk_frozen BK147.out 2; have hfz127_3 := blk_frozen BK147.out 3) | (go_at_call 28; (with_reducible refine (croftlaw06_RectTells_1.calls a1_0 a1_1 a1_2 a1_3 false _ A110.out).mono ?_); rintro e w128 ⟨rfl, hb⟩; have n0_ := Aside0.mk (blk_below (g := gb146) (o := .cells #[.int .u32 a0_0, .int .u32 a0_1, .int .u32 a0_2, .int .u32 a0_3] 24 (0, 0)) (by (with_reducible repeat (first | refine blk_drewN ?_ _ | refine blk_drew ?_ | refine blk_alloc ?_ _)); exact BK146.out) hb); have n1_ := Aside0.mk (blk_below (g := gb147) (o := .cells #[.int .u32 a1_0, .int .u32 a1_1, .int .u32 a1_2, .int .u32 a1_3] 24 (0, 0)) (by (with_reducible repeat (first | refine blk_drewN ?_ _ | refine blk_drew ?_ | refine blk_alloc ?_ _)); exact BK147.out) hb); have n2_ := Aside0.mk (blk_below (g := gb153) (o := .cells #[.int .u32 t149, .int .u32 t150, .int .u32 t151, .int .u32 t152] 24 (0, 0)) (by (with_reducible repeat (first | refine blk_drewN ?_ _ | refine blk_drew ?_ | refine blk_alloc ?_ _)); exact BK153.out) hb); have n3_ := Aside0.mk (below_step (by repeat (first | (with_reducible first | exact HB.out | apply below_alloc | apply pw_below_drewN | apply below_drew1 | refine below_set ?_ GE146.out | refine below_set ?_ GE147.out | refine below_set ?_ GE153.out) | exact HB.out)) hb); clear BK146; clear BK147; clear BK153; clear HB; have BK146 := n0_; have BK147 := n1_; have BK153 := n2_; have HB := n3_; clear n0_ n1_ n2_ n3_; (try clear hb); (try clear hb2); (try clear hk); (try clear hi); have hcz129_0 : w128.cell? ⟨gb146, 0, none⟩ = some (.int .u32 a0_0) := (blk_cell BK146.out 0).trans rfl; have hcz129_1 : w128.cell? ⟨gb146, 1, none⟩ = some (.int .u32 a0_1) := (blk_cell BK146.out 1).trans rfl; have hcz129_2 : w128.cell? ⟨gb146, 2, none⟩ = some (.int .u32 a0_2) := (blk_cell BK146.out 2).trans rfl; have hcz129_3 : w128.cell? ⟨gb146, 3, none⟩ = some (.int .u32 a0_3) := (blk_cell BK146.out 3).trans rfl; have hfz129_0 := blk_frozen BK146.out 0; have hfz129_1 := blk_frozen BK146.out 1; have hfz129_2 := blk_frozen BK146.out 2; have hfz129_3 := blk_frozen BK146.out 3; have hcz130_0 : w128.cell? ⟨gb147, 0, none⟩ = some (.int .u32 a1_0) := (blk_cell BK147.out 0).trans rfl; have hcz130_1 : w128.cell? ⟨gb147, 1, none⟩ = some (.int .u32 a1_1) := (blk_cell BK147.out 1).trans rfl; have hcz130_2 : w128.cell? ⟨gb147, 2, none⟩ = some (.int .u32 a1_2) := (blk_cell BK147.out 2).trans rfl; have hcz130_3 : w128.cell? ⟨gb147, 3, none⟩ = some (.int .u32 a1_3) := (blk_cell BK147.out 3).trans rfl; have hfz130_0 := blk_frozen BK147.out 0; have hfz130_1 := blk_frozen BK147.out 1; have hfz130_2 := blk_frozen BK147.out 2; have hfz130_3 := blk_frozen BK147.out 3))
                          go_meet
                          case rel => exact ⟨_, (decide (a0_3 ≤ a1_3)), (by first | rfl | (simp; done) | (simp [*]; done)), (by first | exact H'), ⟨by have := HJ7.out; have := HJ47.out; first | omega | exact Nat.le_refl _⟩, ⟨by (with_reducible repeat (first | refine blk_drewN ?_ _ | refine blk_drew ?_ | refine blk_alloc ?_ _)); exact BK146.out⟩, ⟨by (with_reducible repeat (first | refine blk_drewN ?_ _ | refine blk_drew ?_ | refine blk_alloc ?_ _)); exact BK147.out⟩, ⟨by (with_reducible repeat (first | refine blk_drewN ?_ _ | refine blk_drew ?_ | refine blk_alloc ?_ _)); exact BK153.out⟩, ⟨by repeat (first | (with_reducible first | exact HB.out | apply below_alloc | apply pw_below_drewN | apply below_drew1 | refine below_set ?_ GE146.out | refine below_set ?_ GE147.out | refine below_set ?_ GE153.out) | exact HB.out)⟩⟩
                        · rw [if_neg c121] at H
                          have c121b0 : decide (a1_1 ≤ a0_1) = false := decide_eq_false c121
                          clear c121
                          have H' := Aside0.mk H
                          clear H
                          have hnb131 := NB146_147.out
                          have hnc131 := NB147_146.out
                          have hnb132 := NB146_153.out
                          have hnc132 := NB153_146.out
                          have hcz133_0 : wc.cell? ⟨gb146, 0, none⟩ = some (.int .u32 a0_0) := (blk_cell BK146.out 0).trans rfl
                          have hcz133_1 : wc.cell? ⟨gb146, 1, none⟩ = some (.int .u32 a0_1) := (blk_cell BK146.out 1).trans rfl
                          have hcz133_2 : wc.cell? ⟨gb146, 2, none⟩ = some (.int .u32 a0_2) := (blk_cell BK146.out 2).trans rfl
                          have hcz133_3 : wc.cell? ⟨gb146, 3, none⟩ = some (.int .u32 a0_3) := (blk_cell BK146.out 3).trans rfl
                          have hfz133_0 := blk_frozen BK146.out 0
                          have hfz133_1 := blk_frozen BK146.out 1
                          have hfz133_2 := blk_frozen BK146.out 2
                          have hfz133_3 := blk_frozen BK146.out 3
                          go_wp2_with (first | ((with_reducible refine gate_calleeT (f := 28) rfl rfl ?_); refine goesLT_ (some 92) rfl rfl Try.func28 (by kernel_rfl) rfl #[.agg #[.int .u32 a0_0, .int .u32 a0_1, .int .u32 a0_2, .int .u32 a0_3]] rfl rfl (by (try simp only [List.map_toArray, List.map_cons, List.map_nil]); first | done | rfl | (simp only [List.length_drop, List.length_take]; rfl)) ?_; (with_reducible refine (croftlaw06_RectTells_1.calls a0_0 a0_1 a0_2 a0_3 false _ A104.out).mono ?_); rintro e w134 ⟨rfl, hb⟩; refine ⟨_, rfl, ?_⟩; have n0_ := Aside0.mk (blk_below (g := gb146) (o := .cells #[.int .u32 a0_0, .int .u32 a0_1, .int .u32 a0_2, .int .u32 a0_3] 24 (0, 0)) (by (with_reducible repeat (first | refine blk_drewN ?_ _ | refine blk_drew ?_ | refine blk_alloc ?_ _)); exact BK146.out) hb); have n1_ := Aside0.mk (blk_below (g := gb147) (o := .cells #[.int .u32 a1_0, .int .u32 a1_1, .int .u32 a1_2, .int .u32 a1_3] 24 (0, 0)) (by (with_reducible repeat (first | refine blk_drewN ?_ _ | refine blk_drew ?_ | refine blk_alloc ?_ _)); exact BK147.out) hb); have n2_ := Aside0.mk (blk_below (g := gb153) (o := .cells #[.int .u32 t149, .int .u32 t150, .int .u32 t151, .int .u32 t152] 24 (0, 0)) (by (with_reducible repeat (first | refine blk_drewN ?_ _ | refine blk_drew ?_ | refine blk_alloc ?_ _)); exact BK153.out) hb); have n3_ := Aside0.mk (below_step (by repeat (first | (with_reducible first | exact HB.out | apply below_alloc | apply pw_below_drewN | apply below_drew1 | refine below_set ?_ GE146.out | refine below_set ?_ GE147.out | refine below_set ?_ GE153.out) | exact HB.out)) hb); clear BK146; clear BK147; clear BK153; clear HB; have BK146 := n0_; have BK147 := n1_; have BK153 := n2_; have HB := n3_; clear n0_ n1_ n2_ n3_; (try clear hb); (try clear hb2); (try clear hk); (try clear hi); have hnb135 := NB147_153.out; have hnc135 := NB153_147.out; have hcz136_0 : w134.cell? ⟨gb147, 0, none⟩ = some (.int .u32 a1_0) := (blk_cell BK147.out 0).trans rfl; have hcz136_1 : w134.cell? ⟨gb147, 1, none⟩ = some (.int .u32 a1_1) := (blk_cell BK147.out 1).trans rfl; have hcz136_2 : w134.cell? ⟨gb147, 2, none⟩ = some (.int .u32 a1_2) := (blk_cell BK147.out 2).trans rfl; have hcz136_3 : w134.cell? ⟨gb147, 3, none⟩ = some (.int .u32 a1_3) := (blk_cell BK147.out 3).trans rfl; have hfz136_0 := blk_frozen BK147.out 0; have hfz136_1 := blk_frozen BK147.out 1; have hfz136_2 := blk_frozen BK147.out 2; have hfz136_3 := blk_frozen BK147.out 3) | (go_at_call 28; (with_reducible refine (croftlaw06_RectTells_1.calls a1_0 a1_1 a1_2 a1_3 false _ A110.out).mono ?_); rintro e w137 ⟨rfl, hb⟩; have n0_ := Aside0.mk (blk_below (g := gb146) (o := .cells #[.int .u32 a0_0, .int .u32 a0_1, .int .u32 a0_2, .int .u32 a0_3] 24 (0, 0)) (by (with_reducible repeat (first | refine blk_drewN ?_ _ | refine blk_drew ?_ | refine blk_alloc ?_ _)); exact BK146.out) hb); have n1_ := Aside0.mk (blk_below (g := gb147) (o := .cells #[.int .u32 a1_0, .int .u32 a1_1, .int .u32 a1_2, .int .u32 a1_3] 24 (0, 0)) (by (with_reducible repeat (first | refine blk_drewN ?_ _ | refine blk_drew ?_ | refine blk_alloc ?_ _)); exact BK147.out) hb); have n2_ := Aside0.mk (blk_below (g := gb153) (o := .cells #[.int .u32 t149, .int .u32 t150, .int .u32 t151, .int .u32 t152] 24 (0, 0)) (by (with_reducible repeat (first | refine blk_drewN ?_ _ | refine blk_drew ?_ | refine blk_alloc ?_ _)); exact BK153.out) hb); have n3_ := Aside0.mk (below_step (by repeat (first | (with_reducible first | exact HB.out | apply below_alloc | apply pw_below_drewN | apply below_drew1 | refine below_set ?_ GE146.out | refine below_set ?_ GE147.out | refine below_set ?_ GE153.out) | exact HB.out)) hb); clear BK146; clear BK147; clear BK153; clear HB; have BK146 := n0_; have BK147 := n1_; have BK153 := n2_; have HB := n3_; clear n0_ n1_ n2_ n3_; (try clear hb); (try clear hb2); (try clear hk); (try clear hi); have hcz138_0 : w137.cell? ⟨gb146, 0, none⟩ = some (.int .u32 a0_0) := (blk_cell BK146.out 0).trans rfl; have hcz138_1 : w137.cell? ⟨gb146, 1, none⟩ = some (.int .u32 a0_1) := (blk_cell BK146.out 1).trans rfl; have hcz138_2 : w137.cell? ⟨gb146, 2, none⟩ = some (.int .u32 a0_2) := (blk_cell BK146.out 2).trans rfl; have hcz138_3 : w137.cell? ⟨gb146, 3, none⟩ = some (.int .u32 a0_3) := (blk_cell BK146.out 3).trans rfl; have hfz138_0 := blk_frozen BK146.out 0; have hfz138_1 := blk_frozen BK146.out 1; have hfz138_2 := blk_frozen BK146.out 2; have hfz138_3 := blk_frozen BK146.out 3; have hcz139_0 : w137.cell? ⟨gb147, 0, none⟩ = some (.int .u32 a1_0) := (blk_cell BK147.out 0).trans rfl; have hcz139_1 : w137.cell? ⟨gb147, 1, none⟩ = some (.int .u32 a1_1) := (blk_cell BK147.out 1).trans rfl; have hcz139_2 : w137.cell? ⟨gb147, 2, none⟩ = some (.int .u32 a1_2) := (blk_cell BK147.out 2).trans rfl; have hcz139_3 : w137.cell? ⟨gb147, 3, none⟩ = some (.int .u32 a1_3) := (blk_cell BK147.out 3).trans rfl; have hfz139_0 := blk_frozen BK147.out 0; have hfz139_1 := blk_frozen BK147.out 1; have hfz139_2 := blk_frozen BK147.out 2; have hfz139_3 := blk_frozen BK147.out 3))
                          go_meet
                          case rel => exact ⟨_, (false), (by first | rfl | (simp; done) | (simp [*]; done)), (by first | exact H'), ⟨by have := HJ7.out; have := HJ47.out; first | omega | exact Nat.le_refl _⟩, ⟨by (with_reducible repeat (first | refine blk_drewN ?_ _ | refine blk_drew ?_ | refine blk_alloc ?_ _)); exact BK146.out⟩, ⟨by (with_reducible repeat (first | refine blk_drewN ?_ _ | refine blk_drew ?_ | refine blk_alloc ?_ _)); exact BK147.out⟩, ⟨by (with_reducible repeat (first | refine blk_drewN ?_ _ | refine blk_drew ?_ | refine blk_alloc ?_ _)); exact BK153.out⟩, ⟨by repeat (first | (with_reducible first | exact HB.out | apply below_alloc | apply pw_below_drewN | apply below_drew1 | refine below_set ?_ GE146.out | refine below_set ?_ GE147.out | refine below_set ?_ GE153.out) | exact HB.out)⟩⟩
                      · rw [if_neg c120] at H
                        have c120b0 : decide (a0_2 ≤ a1_2) = false := decide_eq_false c120
                        clear c120
                        have H' := Aside0.mk H
                        clear H
                        have hnb140 := NB146_147.out
                        have hnc140 := NB147_146.out
                        have hnb141 := NB146_153.out
                        have hnc141 := NB153_146.out
                        have hcz142_0 : wc.cell? ⟨gb146, 0, none⟩ = some (.int .u32 a0_0) := (blk_cell BK146.out 0).trans rfl
                        have hcz142_1 : wc.cell? ⟨gb146, 1, none⟩ = some (.int .u32 a0_1) := (blk_cell BK146.out 1).trans rfl
                        have hcz142_2 : wc.cell? ⟨gb146, 2, none⟩ = some (.int .u32 a0_2) := (blk_cell BK146.out 2).trans rfl
                        have hcz142_3 : wc.cell? ⟨gb146, 3, none⟩ = some (.int .u32 a0_3) := (blk_cell BK146.out 3).trans rfl
                        have hfz142_0 := blk_frozen BK146.out 0
                        have hfz142_1 := blk_frozen BK146.out 1
                        have hfz142_2 := blk_frozen BK146.out 2
                        have hfz142_3 := blk_frozen BK146.out 3
                        go_wp2_with (first | ((with_reducible refine gate_calleeT (f := 28) rfl rfl ?_); refine goesLT_ (some 92) rfl rfl Try.func28 (by kernel_rfl) rfl #[.agg #[.int .u32 a0_0, .int .u32 a0_1, .int .u32 a0_2, .int .u32 a0_3]] rfl rfl (by (try simp only [List.map_toArray, List.map_cons, List.map_nil]); first | done | rfl | (simp only [List.length_drop, List.length_take]; rfl)) ?_; (with_reducible refine (croftlaw06_RectTells_1.calls a0_0 a0_1 a0_2 a0_3 false _ A104.out).mono ?_); rintro e w143 ⟨rfl, hb⟩; refine ⟨_, rfl, ?_⟩; have n0_ := Aside0.mk (blk_below (g := gb146) (o := .cells #[.int .u32 a0_0, .int .u32 a0_1, .int .u32 a0_2, .int .u32 a0_3] 24 (0, 0)) (by (with_reducible repeat (first | refine blk_drewN ?_ _ | refine blk_drew ?_ | refine blk_alloc ?_ _)); exact BK146.out) hb); have n1_ := Aside0.mk (blk_below (g := gb147) (o := .cells #[.int .u32 a1_0, .int .u32 a1_1, .int .u32 a1_2, .int .u32 a1_3] 24 (0, 0)) (by (with_reducible repeat (first | refine blk_drewN ?_ _ | refine blk_drew ?_ | refine blk_alloc ?_ _)); exact BK147.out) hb); have n2_ := Aside0.mk (blk_below (g := gb153) (o := .cells #[.int .u32 t149, .int .u32 t150, .int .u32 t151, .int .u32 t152] 24 (0, 0)) (by (with_reducible repeat (first | refine blk_drewN ?_ _ | refine blk_drew ?_ | refine blk_alloc ?_ _)); exact BK153.out) hb); have n3_ := Aside0.mk (below_step (by repeat (first | (with_reducible first | exact HB.out | apply below_alloc | apply pw_below_drewN | apply below_drew1 | refine below_set ?_ GE146.out | refine below_set ?_ GE147.out | refine below_set ?_ GE153.out) | exact HB.out)) hb); clear BK146; clear BK147; clear BK153; clear HB; have BK146 := n0_; have BK147 := n1_; have BK153 := n2_; have HB := n3_; clear n0_ n1_ n2_ n3_; (try clear hb); (try clear hb2); (try clear hk); (try clear hi); have hnb144 := NB147_153.out; have hnc144 := NB153_147.out; have hcz145_0 : w143.cell? ⟨gb147, 0, none⟩ = some (.int .u32 a1_0) := (blk_cell BK147.out 0).trans rfl; have hcz145_1 : w143.cell? ⟨gb147, 1, none⟩ = some (.int .u32 a1_1) := (blk_cell BK147.out 1).trans rfl; have hcz145_2 : w143.cell? ⟨gb147, 2, none⟩ = some (.int .u32 a1_2) := (blk_cell BK147.out 2).trans rfl; have hcz145_3 : w143.cell? ⟨gb147, 3, none⟩ = some (.int .u32 a1_3) := (blk_cell BK147.out 3).trans rfl; have hfz145_0 := blk_frozen BK147.out 0; have hfz145_1 := blk_frozen BK147.out 1; have hfz145_2 := blk_frozen BK147.out 2; have hfz145_3 := blk_frozen BK147.out 3) | (go_at_call 28; (with_reducible refine (croftlaw06_RectTells_1.calls a1_0 a1_1 a1_2 a1_3 false _ A110.out).mono ?_); rintro e w146 ⟨rfl, hb⟩; have n0_ := Aside0.mk (blk_below (g := gb146) (o := .cells #[.int .u32 a0_0, .int .u32 a0_1, .int .u32 a0_2, .int .u32 a0_3] 24 (0, 0)) (by (with_reducible repeat (first | refine blk_drewN ?_ _ | refine blk_drew ?_ | refine blk_alloc ?_ _)); exact BK146.out) hb); have n1_ := Aside0.mk (blk_below (g := gb147) (o := .cells #[.int .u32 a1_0, .int .u32 a1_1, .int .u32 a1_2, .int .u32 a1_3] 24 (0, 0)) (by (with_reducible repeat (first | refine blk_drewN ?_ _ | refine blk_drew ?_ | refine blk_alloc ?_ _)); exact BK147.out) hb); have n2_ := Aside0.mk (blk_below (g := gb153) (o := .cells #[.int .u32 t149, .int .u32 t150, .int .u32 t151, .int .u32 t152] 24 (0, 0)) (by (with_reducible repeat (first | refine blk_drewN ?_ _ | refine blk_drew ?_ | refine blk_alloc ?_ _)); exact BK153.out) hb); have n3_ := Aside0.mk (below_step (by repeat (first | (with_reducible first | exact HB.out | apply below_alloc | apply pw_below_drewN | apply below_drew1 | refine below_set ?_ GE146.out | refine below_set ?_ GE147.out | refine below_set ?_ GE153.out) | exact HB.out)) hb); clear BK146; clear BK147; clear BK153; clear HB; have BK146 := n0_; have BK147 := n1_; have BK153 := n2_; have HB := n3_; clear n0_ n1_ n2_ n3_; (try clear hb); (try clear hb2); (try clear hk); (try clear hi); have hcz147_0 : w146.cell? ⟨gb146, 0, none⟩ = some (.int .u32 a0_0) := (blk_cell BK146.out 0).trans rfl; have hcz147_1 : w146.cell? ⟨gb146, 1, none⟩ = some (.int .u32 a0_1) := (blk_cell BK146.out 1).trans rfl; have hcz147_2 : w146.cell? ⟨gb146, 2, none⟩ = some (.int .u32 a0_2) := (blk_cell BK146.out 2).trans rfl; have hcz147_3 : w146.cell? ⟨gb146, 3, none⟩ = some (.int .u32 a0_3) := (blk_cell BK146.out 3).trans rfl; have hfz147_0 := blk_frozen BK146.out 0; have hfz147_1 := blk_frozen BK146.out 1; have hfz147_2 := blk_frozen BK146.out 2; have hfz147_3 := blk_frozen BK146.out 3; have hcz148_0 : w146.cell? ⟨gb147, 0, none⟩ = some (.int .u32 a1_0) := (blk_cell BK147.out 0).trans rfl; have hcz148_1 : w146.cell? ⟨gb147, 1, none⟩ = some (.int .u32 a1_1) := (blk_cell BK147.out 1).trans rfl; have hcz148_2 : w146.cell? ⟨gb147, 2, none⟩ = some (.int .u32 a1_2) := (blk_cell BK147.out 2).trans rfl; have hcz148_3 : w146.cell? ⟨gb147, 3, none⟩ = some (.int .u32 a1_3) := (blk_cell BK147.out 3).trans rfl; have hfz148_0 := blk_frozen BK147.out 0; have hfz148_1 := blk_frozen BK147.out 1; have hfz148_2 := blk_frozen BK147.out 2; have hfz148_3 := blk_frozen BK147.out 3))
                        go_meet
                        case rel => exact ⟨_, (false), (by first | rfl | (simp; done) | (simp [*]; done)), (by first | exact H'), ⟨by have := HJ7.out; have := HJ47.out; first | omega | exact Nat.le_refl _⟩, ⟨by (with_reducible repeat (first | refine blk_drewN ?_ _ | refine blk_drew ?_ | refine blk_alloc ?_ _)); exact BK146.out⟩, ⟨by (with_reducible repeat (first | refine blk_drewN ?_ _ | refine blk_drew ?_ | refine blk_alloc ?_ _)); exact BK147.out⟩, ⟨by (with_reducible repeat (first | refine blk_drewN ?_ _ | refine blk_drew ?_ | refine blk_alloc ?_ _)); exact BK153.out⟩, ⟨by repeat (first | (with_reducible first | exact HB.out | apply below_alloc | apply pw_below_drewN | apply below_drew1 | refine below_set ?_ GE146.out | refine below_set ?_ GE147.out | refine below_set ?_ GE153.out) | exact HB.out)⟩⟩
                    · rw [if_neg c119] at H
                      have c119b0 : decide (a1_0 ≤ a0_0) = false := decide_eq_false c119
                      clear c119
                      (first | rw [c119b0] | (simp only [i64_w, i32_w]; rw [c119b0]) | skip)
                      have H' := Aside0.mk H
                      clear H
                      have hnb149 := NB146_147.out
                      have hnc149 := NB147_146.out
                      have hnb150 := NB146_153.out
                      have hnc150 := NB153_146.out
                      have hcz151_0 : wc.cell? ⟨gb146, 0, none⟩ = some (.int .u32 a0_0) := (blk_cell BK146.out 0).trans rfl
                      have hcz151_1 : wc.cell? ⟨gb146, 1, none⟩ = some (.int .u32 a0_1) := (blk_cell BK146.out 1).trans rfl
                      have hcz151_2 : wc.cell? ⟨gb146, 2, none⟩ = some (.int .u32 a0_2) := (blk_cell BK146.out 2).trans rfl
                      have hcz151_3 : wc.cell? ⟨gb146, 3, none⟩ = some (.int .u32 a0_3) := (blk_cell BK146.out 3).trans rfl
                      have hfz151_0 := blk_frozen BK146.out 0
                      have hfz151_1 := blk_frozen BK146.out 1
                      have hfz151_2 := blk_frozen BK146.out 2
                      have hfz151_3 := blk_frozen BK146.out 3
                      go_wp2_with (first | ((with_reducible refine gate_calleeT (f := 28) rfl rfl ?_); refine goesLT_ (some 92) rfl rfl Try.func28 (by kernel_rfl) rfl #[.agg #[.int .u32 a0_0, .int .u32 a0_1, .int .u32 a0_2, .int .u32 a0_3]] rfl rfl (by (try simp only [List.map_toArray, List.map_cons, List.map_nil]); first | done | rfl | (simp only [List.length_drop, List.length_take]; rfl)) ?_; (with_reducible refine (croftlaw06_RectTells_1.calls a0_0 a0_1 a0_2 a0_3 false _ A104.out).mono ?_); rintro e w152 ⟨rfl, hb⟩; refine ⟨_, rfl, ?_⟩; have n0_ := Aside0.mk (blk_below (g := gb146) (o := .cells #[.int .u32 a0_0, .int .u32 a0_1, .int .u32 a0_2, .int .u32 a0_3] 24 (0, 0)) (by (with_reducible repeat (first | refine blk_drewN ?_ _ | refine blk_drew ?_ | refine blk_alloc ?_ _)); exact BK146.out) hb); have n1_ := Aside0.mk (blk_below (g := gb147) (o := .cells #[.int .u32 a1_0, .int .u32 a1_1, .int .u32 a1_2, .int .u32 a1_3] 24 (0, 0)) (by (with_reducible repeat (first | refine blk_drewN ?_ _ | refine blk_drew ?_ | refine blk_alloc ?_ _)); exact BK147.out) hb); have n2_ := Aside0.mk (blk_below (g := gb153) (o := .cells #[.int .u32 t149, .int .u32 t150, .int .u32 t151, .int .u32 t152] 24 (0, 0)) (by (with_reducible repeat (first | refine blk_drewN ?_ _ | refine blk_drew ?_ | refine blk_alloc ?_ _)); exact BK153.out) hb); have n3_ := Aside0.mk (below_step (by repeat (first | (with_reducible first | exact HB.out | apply below_alloc | apply pw_below_drewN | apply below_drew1 | refine below_set ?_ GE146.out | refine below_set ?_ GE147.out | refine below_set ?_ GE153.out) | exact HB.out)) hb); clear BK146; clear BK147; clear BK153; clear HB; have BK146 := n0_; have BK147 := n1_; have BK153 := n2_; have HB := n3_; clear n0_ n1_ n2_ n3_; (try clear hb); (try clear hb2); (try clear hk); (try clear hi); have hnb153 := NB147_153.out; have hnc153 := NB153_147.out; have hcz154_0 : w152.cell? ⟨gb147, 0, none⟩ = some (.int .u32 a1_0) := (blk_cell BK147.out 0).trans rfl; have hcz154_1 : w152.cell? ⟨gb147, 1, none⟩ = some (.int .u32 a1_1) := (blk_cell BK147.out 1).trans rfl; have hcz154_2 : w152.cell? ⟨gb147, 2, none⟩ = some (.int .u32 a1_2) := (blk_cell BK147.out 2).trans rfl; have hcz154_3 : w152.cell? ⟨gb147, 3, none⟩ = some (.int .u32 a1_3) := (blk_cell BK147.out 3).trans rfl; have hfz154_0 := blk_frozen BK147.out 0; have hfz154_1 := blk_frozen BK147.out 1; have hfz154_2 := blk_frozen BK147.out 2; have hfz154_3 := blk_frozen BK147.out 3) | (go_at_call 28; (with_reducible refine (croftlaw06_RectTells_1.calls a1_0 a1_1 a1_2 a1_3 false _ A110.out).mono ?_); rintro e w155 ⟨rfl, hb⟩; have n0_ := Aside0.mk (blk_below (g := gb146) (o := .cells #[.int .u32 a0_0, .int .u32 a0_1, .int .u32 a0_2, .int .u32 a0_3] 24 (0, 0)) (by (with_reducible repeat (first | refine blk_drewN ?_ _ | refine blk_drew ?_ | refine blk_alloc ?_ _)); exact BK146.out) hb); have n1_ := Aside0.mk (blk_below (g := gb147) (o := .cells #[.int .u32 a1_0, .int .u32 a1_1, .int .u32 a1_2, .int .u32 a1_3] 24 (0, 0)) (by (with_reducible repeat (first | refine blk_drewN ?_ _ | refine blk_drew ?_ | refine blk_alloc ?_ _)); exact BK147.out) hb); have n2_ := Aside0.mk (blk_below (g := gb153) (o := .cells #[.int .u32 t149, .int .u32 t150, .int .u32 t151, .int .u32 t152] 24 (0, 0)) (by (with_reducible repeat (first | refine blk_drewN ?_ _ | refine blk_drew ?_ | refine blk_alloc ?_ _)); exact BK153.out) hb); have n3_ := Aside0.mk (below_step (by repeat (first | (with_reducible first | exact HB.out | apply below_alloc | apply pw_below_drewN | apply below_drew1 | refine below_set ?_ GE146.out | refine below_set ?_ GE147.out | refine below_set ?_ GE153.out) | exact HB.out)) hb); clear BK146; clear BK147; clear BK153; clear HB; have BK146 := n0_; have BK147 := n1_; have BK153 := n2_; have HB := n3_; clear n0_ n1_ n2_ n3_; (try clear hb); (try clear hb2); (try clear hk); (try clear hi); have hcz156_0 : w155.cell? ⟨gb146, 0, none⟩ = some (.int .u32 a0_0) := (blk_cell BK146.out 0).trans rfl; have hcz156_1 : w155.cell? ⟨gb146, 1, none⟩ = some (.int .u32 a0_1) := (blk_cell BK146.out 1).trans rfl; have hcz156_2 : w155.cell? ⟨gb146, 2, none⟩ = some (.int .u32 a0_2) := (blk_cell BK146.out 2).trans rfl; have hcz156_3 : w155.cell? ⟨gb146, 3, none⟩ = some (.int .u32 a0_3) := (blk_cell BK146.out 3).trans rfl; have hfz156_0 := blk_frozen BK146.out 0; have hfz156_1 := blk_frozen BK146.out 1; have hfz156_2 := blk_frozen BK146.out 2; have hfz156_3 := blk_frozen BK146.out 3; have hcz157_0 : w155.cell? ⟨gb147, 0, none⟩ = some (.int .u32 a1_0) := (blk_cell BK147.out 0).trans rfl; have hcz157_1 : w155.cell? ⟨gb147, 1, none⟩ = some (.int .u32 a1_1) := (blk_cell BK147.out 1).trans rfl; have hcz157_2 : w155.cell? ⟨gb147, 2, none⟩ = some (.int .u32 a1_2) := (blk_cell BK147.out 2).trans rfl; have hcz157_3 : w155.cell? ⟨gb147, 3, none⟩ = some (.int .u32 a1_3) := (blk_cell BK147.out 3).trans rfl; have hfz157_0 := blk_frozen BK147.out 0; have hfz157_1 := blk_frozen BK147.out 1; have hfz157_2 := blk_frozen BK147.out 2; have hfz157_3 := blk_frozen BK147.out 3))
                      go_meet
                      case rel => exact ⟨_, (false), (by first | rfl | (simp; done) | (simp [*]; done)), (by first | exact H'), ⟨by have := HJ7.out; have := HJ47.out; first | omega | exact Nat.le_refl _⟩, ⟨by (with_reducible repeat (first | refine blk_drewN ?_ _ | refine blk_drew ?_ | refine blk_alloc ?_ _)); exact BK146.out⟩, ⟨by (with_reducible repeat (first | refine blk_drewN ?_ _ | refine blk_drew ?_ | refine blk_alloc ?_ _)); exact BK147.out⟩, ⟨by (with_reducible repeat (first | refine blk_drewN ?_ _ | refine blk_drew ?_ | refine blk_alloc ?_ _)); exact BK153.out⟩, ⟨by repeat (first | (with_reducible first | exact HB.out | apply below_alloc | apply pw_below_drewN | apply below_drew1 | refine below_set ?_ GE146.out | refine below_set ?_ GE147.out | refine below_set ?_ GE153.out) | exact HB.out)⟩⟩
              case rest =>
                clear HC103
                try clear c1
                try clear c2
                try clear p2
                try clear c3
                try clear c4
                try clear c5
                try clear c6
                try clear c7
                try clear c8
                try clear c9
                try clear c10
                try clear c11
                try clear c12
                try clear c13
                try clear c14
                try clear c15
                try clear c27
                try clear c28
                try clear c30
                try clear c31
                try clear c47
                try clear c50
                try clear c51
                try clear c52
                try clear c56
                try clear c57
                try clear c58
                try clear c61
                try clear c64
                try clear c64b0
                try clear c65
                try clear c65b0
                try clear c66
                try clear c66b0
                try clear c67
                try clear c68
                try clear c71
                try clear c76
                try clear c77
                try clear c80
                try clear c85
                try clear c86
                try clear c89
                try clear c94
                try clear c95
                try clear c98
                try clear c105
                try clear c106
                try clear c107
                try clear c111
                try clear c112
                try clear c113
                try clear c116
                try clear c119
                try clear c119b0
                try clear c120
                try clear c120b0
                try clear c121
                try clear c121b0
                try clear c122
                try clear c123
                try clear c126
                try clear c131
                try clear c132
                try clear c135
                try clear c140
                try clear c141
                try clear c144
                try clear c149
                try clear c150
                try clear c153
                try clear hcz101_0
                try clear hcz101_1
                try clear hcz101_2
                try clear hcz101_3
                try clear hcz102_0
                try clear hcz102_1
                try clear hcz102_2
                try clear hcz102_3
                try clear hcz108_0
                try clear hcz108_1
                try clear hcz108_2
                try clear hcz108_3
                try clear hcz114_0
                try clear hcz114_1
                try clear hcz114_2
                try clear hcz114_3
                try clear hcz117_0
                try clear hcz117_1
                try clear hcz117_2
                try clear hcz117_3
                try clear hcz124_0
                try clear hcz124_1
                try clear hcz124_2
                try clear hcz124_3
                try clear hcz127_0
                try clear hcz127_1
                try clear hcz127_2
                try clear hcz127_3
                try clear hcz129_0
                try clear hcz129_1
                try clear hcz129_2
                try clear hcz129_3
                try clear hcz130_0
                try clear hcz130_1
                try clear hcz130_2
                try clear hcz130_3
                try clear hcz133_0
                try clear hcz133_1
                try clear hcz133_2
                try clear hcz133_3
                try clear hcz136_0
                try clear hcz136_1
                try clear hcz136_2
                try clear hcz136_3
                try clear hcz138_0
                try clear hcz138_1
                try clear hcz138_2
                try clear hcz138_3
                try clear hcz139_0
                try clear hcz139_1
                try clear hcz139_2
                try clear hcz139_3
                try clear hcz142_0
                try clear hcz142_1
                try clear hcz142_2
                try clear hcz142_3
                try clear hcz145_0
                try clear hcz145_1
                try clear hcz145_2
                try clear hcz145_3
                try clear hcz147_0
                try clear hcz147_1
                try clear hcz147_2
                try clear hcz147_3
                try clear hcz148_0
                try clear hcz148_1
                try clear hcz148_2
                try clear hcz148_3
                try clear hcz151_0
                try clear hcz151_1
                try clear hcz151_2
                try clear hcz151_3
                try clear hcz154_0
                try clear hcz154_1
                try clear hcz154_2
                try clear hcz154_3
                try clear hcz156_0
                try clear hcz156_1
                try clear hcz156_2
                try clear hcz156_3
                try clear hcz157_0
                try clear hcz157_1
                try clear hcz157_2
                try clear hcz157_3
                try clear hcz53_0
                try clear hcz53_1
                try clear hcz53_2
                try clear hcz53_3
                try clear hcz59_0
                try clear hcz59_1
                try clear hcz59_2
                try clear hcz59_3
                try clear hcz62_0
                try clear hcz62_1
                try clear hcz62_2
                try clear hcz62_3
                try clear hcz69_0
                try clear hcz69_1
                try clear hcz69_2
                try clear hcz69_3
                try clear hcz72_0
                try clear hcz72_1
                try clear hcz72_2
                try clear hcz72_3
                try clear hcz74_0
                try clear hcz74_1
                try clear hcz74_2
                try clear hcz74_3
                try clear hcz75_0
                try clear hcz75_1
                try clear hcz75_2
                try clear hcz75_3
                try clear hcz78_0
                try clear hcz78_1
                try clear hcz78_2
                try clear hcz78_3
                try clear hcz81_0
                try clear hcz81_1
                try clear hcz81_2
                try clear hcz81_3
                try clear hcz83_0
                try clear hcz83_1
                try clear hcz83_2
                try clear hcz83_3
                try clear hcz84_0
                try clear hcz84_1
                try clear hcz84_2
                try clear hcz84_3
                try clear hcz87_0
                try clear hcz87_1
                try clear hcz87_2
                try clear hcz87_3
                try clear hcz90_0
                try clear hcz90_1
                try clear hcz90_2
                try clear hcz90_3
                try clear hcz92_0
                try clear hcz92_1
                try clear hcz92_2
                try clear hcz92_3
                try clear hcz93_0
                try clear hcz93_1
                try clear hcz93_2
                try clear hcz93_3
                try clear hcz96_0
                try clear hcz96_1
                try clear hcz96_2
                try clear hcz96_3
                try clear hcz99_0
                try clear hcz99_1
                try clear hcz99_2
                try clear hcz99_3
                try clear hfz101_0
                try clear hfz101_1
                try clear hfz101_2
                try clear hfz101_3
                try clear hfz102_0
                try clear hfz102_1
                try clear hfz102_2
                try clear hfz102_3
                try clear hfz108_0
                try clear hfz108_1
                try clear hfz108_2
                try clear hfz108_3
                try clear hfz114_0
                try clear hfz114_1
                try clear hfz114_2
                try clear hfz114_3
                try clear hfz117_0
                try clear hfz117_1
                try clear hfz117_2
                try clear hfz117_3
                try clear hfz124_0
                try clear hfz124_1
                try clear hfz124_2
                try clear hfz124_3
                try clear hfz127_0
                try clear hfz127_1
                try clear hfz127_2
                try clear hfz127_3
                try clear hfz129_0
                try clear hfz129_1
                try clear hfz129_2
                try clear hfz129_3
                try clear hfz130_0
                try clear hfz130_1
                try clear hfz130_2
                try clear hfz130_3
                try clear hfz133_0
                try clear hfz133_1
                try clear hfz133_2
                try clear hfz133_3
                try clear hfz136_0
                try clear hfz136_1
                try clear hfz136_2
                try clear hfz136_3
                try clear hfz138_0
                try clear hfz138_1
                try clear hfz138_2
                try clear hfz138_3
                try clear hfz139_0
                try clear hfz139_1
                try clear hfz139_2
                try clear hfz139_3
                try clear hfz142_0
                try clear hfz142_1
                try clear hfz142_2
                try clear hfz142_3
                try clear hfz145_0
                try clear hfz145_1
                try clear hfz145_2
                try clear hfz145_3
                try clear hfz147_0
                try clear hfz147_1
                try clear hfz147_2
                try clear hfz147_3
                try clear hfz148_0
                try clear hfz148_1
                try clear hfz148_2
                try clear hfz148_3
                try clear hfz151_0
                try clear hfz151_1
                try clear hfz151_2
                try clear hfz151_3
                try clear hfz154_0
                try clear hfz154_1
                try clear hfz154_2
                try clear hfz154_3
                try clear hfz156_0
                try clear hfz156_1
                try clear hfz156_2
                try clear hfz156_3
                try clear hfz157_0
                try clear hfz157_1
                try clear hfz157_2
                try clear hfz157_3
                try clear hfz53_0
                try clear hfz53_1
                try clear hfz53_2
                try clear hfz53_3
                try clear hfz59_0
                try clear hfz59_1
                try clear hfz59_2
                try clear hfz59_3
                try clear hfz62_0
                try clear hfz62_1
                try clear hfz62_2
                try clear hfz62_3
                try clear hfz69_0
                try clear hfz69_1
                try clear hfz69_2
                try clear hfz69_3
                try clear hfz72_0
                try clear hfz72_1
                try clear hfz72_2
                try clear hfz72_3
                try clear hfz74_0
                try clear hfz74_1
                try clear hfz74_2
                try clear hfz74_3
                try clear hfz75_0
                try clear hfz75_1
                try clear hfz75_2
                try clear hfz75_3
                try clear hfz78_0
                try clear hfz78_1
                try clear hfz78_2
                try clear hfz78_3
                try clear hfz81_0
                try clear hfz81_1
                try clear hfz81_2
                try clear hfz81_3
                try clear hfz83_0
                try clear hfz83_1
                try clear hfz83_2
                try clear hfz83_3
                try clear hfz84_0
                try clear hfz84_1
                try clear hfz84_2
                try clear hfz84_3
                try clear hfz87_0
                try clear hfz87_1
                try clear hfz87_2
                try clear hfz87_3
                try clear hfz90_0
                try clear hfz90_1
                try clear hfz90_2
                try clear hfz90_3
                try clear hfz92_0
                try clear hfz92_1
                try clear hfz92_2
                try clear hfz92_3
                try clear hfz93_0
                try clear hfz93_1
                try clear hfz93_2
                try clear hfz93_3
                try clear hfz96_0
                try clear hfz96_1
                try clear hfz96_2
                try clear hfz96_3
                try clear hfz99_0
                try clear hfz99_1
                try clear hfz99_2
                try clear hfz99_3
                try clear p2
                obtain ⟨kq, x12_102, rfl, HA, HJ102, BK146, BK147, BK153, HB⟩ := hcut
                cases kq with
                | zero => exact absurd HA.out (by simp [croftlaw06_RectTells.j2])
                | succ kj102 =>
                  have H := HA.out
                  clear HA
                  simp only [croftlaw06_RectTells.j2] at H
                  replace H := Option.bind_eq_some_iff.mp H
                  obtain ⟨t165, A1580, H⟩ := H
                  replace H : (if (t165 == x11_47) = true then ((rect_Within.f a0_0 a0_1 a0_2 a0_3 a1_0 a1_1 a1_2 a1_3).bind fun t166 => (if (t166 == x12_102) = true then (if x11_47 = true then (some true) else (some (t149 == 1 && (t150 == 1 && (t151 == 0 && (t152 == 0)))))) else (some false))) else (some false)) = some r := H
                  have A158 := Aside0.mk A1580
                  clear A1580
                  by_cases c159 : (t165 == x11_47) = true
                  · rw [if_pos c159] at H
                    have c159b0 : (t165 == x11_47) = true := c159
                    (try (have c159b1 : decide (t165 = x11_47) = true := by simpa using c159))
                    (try (have c159b2 : (t165 == x11_47) = true := by simpa using c159))
                    clear c159
                    replace H := Option.bind_eq_some_iff.mp H
                    obtain ⟨t166, A1600, H⟩ := H
                    replace H : (if (t166 == x12_102) = true then (if x11_47 = true then (some true) else (some (t149 == 1 && (t150 == 1 && (t151 == 0 && (t152 == 0)))))) else (some false)) = some r := H
                    have A160 := Aside0.mk A1600
                    clear A1600
                    by_cases c161 : (t166 == x12_102) = true
                    · rw [if_pos c161] at H
                      have c161b0 : (t166 == x12_102) = true := c161
                      (try (have c161b1 : decide (t166 = x12_102) = true := by simpa using c161))
                      (try (have c161b2 : (t166 == x12_102) = true := by simpa using c161))
                      clear c161
                      by_cases c162 : x11_47 = true
                      · subst c162
                        have H1 : (some true) = some r := by rw [if_pos rfl] at H; exact H
                        clear H
                        have H := H1
                        clear H1
                        obtain rfl := Option.some.inj H
                        simp only [Option.some.injEq, Prod.mk.injEq] at H
                        obtain ⟨rfl⟩ := H
                        have hnb163 := NB146_147.out
                        have hnc163 := NB147_146.out
                        have hnb164 := NB146_153.out
                        have hnc164 := NB153_146.out
                        have hcz165_0 : wc.cell? ⟨gb146, 0, none⟩ = some (.int .u32 a0_0) := (blk_cell BK146.out 0).trans rfl
                        have hcz165_1 : wc.cell? ⟨gb146, 1, none⟩ = some (.int .u32 a0_1) := (blk_cell BK146.out 1).trans rfl
                        have hcz165_2 : wc.cell? ⟨gb146, 2, none⟩ = some (.int .u32 a0_2) := (blk_cell BK146.out 2).trans rfl
                        have hcz165_3 : wc.cell? ⟨gb146, 3, none⟩ = some (.int .u32 a0_3) := (blk_cell BK146.out 3).trans rfl
                        have hfz165_0 := blk_frozen BK146.out 0
                        have hfz165_1 := blk_frozen BK146.out 1
                        have hfz165_2 := blk_frozen BK146.out 2
                        have hfz165_3 := blk_frozen BK146.out 3
                        have hnb166 := NB147_153.out
                        have hnc166 := NB153_147.out
                        have hcz167_0 : wc.cell? ⟨gb147, 0, none⟩ = some (.int .u32 a1_0) := (blk_cell BK147.out 0).trans rfl
                        have hcz167_1 : wc.cell? ⟨gb147, 1, none⟩ = some (.int .u32 a1_1) := (blk_cell BK147.out 1).trans rfl
                        have hcz167_2 : wc.cell? ⟨gb147, 2, none⟩ = some (.int .u32 a1_2) := (blk_cell BK147.out 2).trans rfl
                        have hcz167_3 : wc.cell? ⟨gb147, 3, none⟩ = some (.int .u32 a1_3) := (blk_cell BK147.out 3).trans rfl
                        have hfz167_0 := blk_frozen BK147.out 0
                        have hfz167_1 := blk_frozen BK147.out 1
                        have hfz167_2 := blk_frozen BK147.out 2
                        have hfz167_3 := blk_frozen BK147.out 3
                        go_wp2_with (first | ((with_reducible refine gate_callee (f := 32) rfl ?_); refine goesL_ (some 129) rfl rfl Try.func32 (by kernel_rfl) rfl #[.agg #[.int .u32 a0_0, .int .u32 a0_1, .int .u32 a0_2, .int .u32 a0_3], .agg #[.int .u32 a1_0, .int .u32 a1_1, .int .u32 a1_2, .int .u32 a1_3]] rfl (by (try simp only [List.map_toArray, List.map_cons, List.map_nil]); first | done | rfl | (simp only [List.length_drop, List.length_take]; rfl)) ?_; (with_reducible refine (rect_Meets.calls a0_0 a0_1 a0_2 a0_3 a1_0 a1_1 a1_2 a1_3 t165 _ A158.out).mono ?_); rintro e w168 ⟨rfl, hb⟩; refine ⟨_, rfl, ?_⟩; have n0_ := Aside0.mk (blk_below (g := gb146) (o := .cells #[.int .u32 a0_0, .int .u32 a0_1, .int .u32 a0_2, .int .u32 a0_3] 24 (0, 0)) (by (with_reducible repeat (first | refine blk_drewN ?_ _ | refine blk_drew ?_ | refine blk_alloc ?_ _)); exact BK146.out) hb); have n1_ := Aside0.mk (blk_below (g := gb147) (o := .cells #[.int .u32 a1_0, .int .u32 a1_1, .int .u32 a1_2, .int .u32 a1_3] 24 (0, 0)) (by (with_reducible repeat (first | refine blk_drewN ?_ _ | refine blk_drew ?_ | refine blk_alloc ?_ _)); exact BK147.out) hb); have n2_ := Aside0.mk (blk_below (g := gb153) (o := .cells #[.int .u32 t149, .int .u32 t150, .int .u32 t151, .int .u32 t152] 24 (0, 0)) (by (with_reducible repeat (first | refine blk_drewN ?_ _ | refine blk_drew ?_ | refine blk_alloc ?_ _)); exact BK153.out) hb); have n3_ := Aside0.mk (below_step (by repeat (first | (with_reducible first | exact HB.out | apply below_alloc | apply pw_below_drewN | apply below_drew1 | refine below_set ?_ GE146.out | refine below_set ?_ GE147.out | refine below_set ?_ GE153.out) | exact HB.out)) hb); clear BK146; clear BK147; clear BK153; clear HB; have BK146 := n0_; have BK147 := n1_; have BK153 := n2_; have HB := n3_; clear n0_ n1_ n2_ n3_; (try clear hb); (try clear hb2); (try clear hk); (try clear hi); have hcz169_0 : w168.cell? ⟨gb146, 0, none⟩ = some (.int .u32 a0_0) := (blk_cell BK146.out 0).trans rfl; have hcz169_1 : w168.cell? ⟨gb146, 1, none⟩ = some (.int .u32 a0_1) := (blk_cell BK146.out 1).trans rfl; have hcz169_2 : w168.cell? ⟨gb146, 2, none⟩ = some (.int .u32 a0_2) := (blk_cell BK146.out 2).trans rfl; have hcz169_3 : w168.cell? ⟨gb146, 3, none⟩ = some (.int .u32 a0_3) := (blk_cell BK146.out 3).trans rfl; have hfz169_0 := blk_frozen BK146.out 0; have hfz169_1 := blk_frozen BK146.out 1; have hfz169_2 := blk_frozen BK146.out 2; have hfz169_3 := blk_frozen BK146.out 3; have hcz170_0 : w168.cell? ⟨gb147, 0, none⟩ = some (.int .u32 a1_0) := (blk_cell BK147.out 0).trans rfl; have hcz170_1 : w168.cell? ⟨gb147, 1, none⟩ = some (.int .u32 a1_1) := (blk_cell BK147.out 1).trans rfl; have hcz170_2 : w168.cell? ⟨gb147, 2, none⟩ = some (.int .u32 a1_2) := (blk_cell BK147.out 2).trans rfl; have hcz170_3 : w168.cell? ⟨gb147, 3, none⟩ = some (.int .u32 a1_3) := (blk_cell BK147.out 3).trans rfl; have hfz170_0 := blk_frozen BK147.out 0; have hfz170_1 := blk_frozen BK147.out 1; have hfz170_2 := blk_frozen BK147.out 2; have hfz170_3 := blk_frozen BK147.out 3) | (go_at_call 33; (with_reducible refine (rect_Within.calls a0_0 a0_1 a0_2 a0_3 a1_0 a1_1 a1_2 a1_3 t166 _ A160.out).mono ?_); rintro e w171 ⟨rfl, hb⟩; have n0_ := Aside0.mk (blk_below (g := gb146) (o := .cells #[.int .u32 a0_0, .int .u32 a0_1, .int .u32 a0_2, .int .u32 a0_3] 24 (0, 0)) (by (with_reducible repeat (first | refine blk_drewN ?_ _ | refine blk_drew ?_ | refine blk_alloc ?_ _)); exact BK146.out) hb); have n1_ := Aside0.mk (blk_below (g := gb147) (o := .cells #[.int .u32 a1_0, .int .u32 a1_1, .int .u32 a1_2, .int .u32 a1_3] 24 (0, 0)) (by (with_reducible repeat (first | refine blk_drewN ?_ _ | refine blk_drew ?_ | refine blk_alloc ?_ _)); exact BK147.out) hb); have n2_ := Aside0.mk (blk_below (g := gb153) (o := .cells #[.int .u32 t149, .int .u32 t150, .int .u32 t151, .int .u32 t152] 24 (0, 0)) (by (with_reducible repeat (first | refine blk_drewN ?_ _ | refine blk_drew ?_ | refine blk_alloc ?_ _)); exact BK153.out) hb); have n3_ := Aside0.mk (below_step (by repeat (first | (with_reducible first | exact HB.out | apply below_alloc | apply pw_below_drewN | apply below_drew1 | refine below_set ?_ GE146.out | refine below_set ?_ GE147.out | refine below_set ?_ GE153.out) | exact HB.out)) hb); clear BK146; clear BK147; clear BK153; clear HB; have BK146 := n0_; have BK147 := n1_; have BK153 := n2_; have HB := n3_; clear n0_ n1_ n2_ n3_; (try clear hb); (try clear hb2); (try clear hk); (try clear hi)))
                        go_ret
                        exact ⟨by first | rfl | (simp [errW_none, errW_some] <;> rfl) | (simp [*, errW_none, errW_some] <;> rfl), by repeat (first | (with_reducible first | exact HB.out | apply below_alloc | apply pw_below_drewN | apply below_drew1 | refine below_set ?_ GE146.out | refine below_set ?_ GE147.out | refine below_set ?_ GE153.out) | exact HB.out)⟩
                      · replace c162 := Bool.eq_false_iff.mpr c162
                        subst c162
                        have H1 : (some (t149 == 1 && (t150 == 1 && (t151 == 0 && (t152 == 0))))) = some r := by rw [if_neg (show ¬ (false = true) by decide)] at H; exact H
                        clear H
                        have H := H1
                        clear H1
                        obtain rfl := Option.some.inj H
                        simp only [Option.some.injEq, Prod.mk.injEq] at H
                        obtain ⟨rfl⟩ := H
                        have hnb172 := NB146_147.out
                        have hnc172 := NB147_146.out
                        have hnb173 := NB146_153.out
                        have hnc173 := NB153_146.out
                        have hcz174_0 : wc.cell? ⟨gb146, 0, none⟩ = some (.int .u32 a0_0) := (blk_cell BK146.out 0).trans rfl
                        have hcz174_1 : wc.cell? ⟨gb146, 1, none⟩ = some (.int .u32 a0_1) := (blk_cell BK146.out 1).trans rfl
                        have hcz174_2 : wc.cell? ⟨gb146, 2, none⟩ = some (.int .u32 a0_2) := (blk_cell BK146.out 2).trans rfl
                        have hcz174_3 : wc.cell? ⟨gb146, 3, none⟩ = some (.int .u32 a0_3) := (blk_cell BK146.out 3).trans rfl
                        have hfz174_0 := blk_frozen BK146.out 0
                        have hfz174_1 := blk_frozen BK146.out 1
                        have hfz174_2 := blk_frozen BK146.out 2
                        have hfz174_3 := blk_frozen BK146.out 3
                        have hnb175 := NB147_153.out
                        have hnc175 := NB153_147.out
                        have hcz176_0 : wc.cell? ⟨gb147, 0, none⟩ = some (.int .u32 a1_0) := (blk_cell BK147.out 0).trans rfl
                        have hcz176_1 : wc.cell? ⟨gb147, 1, none⟩ = some (.int .u32 a1_1) := (blk_cell BK147.out 1).trans rfl
                        have hcz176_2 : wc.cell? ⟨gb147, 2, none⟩ = some (.int .u32 a1_2) := (blk_cell BK147.out 2).trans rfl
                        have hcz176_3 : wc.cell? ⟨gb147, 3, none⟩ = some (.int .u32 a1_3) := (blk_cell BK147.out 3).trans rfl
                        have hfz176_0 := blk_frozen BK147.out 0
                        have hfz176_1 := blk_frozen BK147.out 1
                        have hfz176_2 := blk_frozen BK147.out 2
                        have hfz176_3 := blk_frozen BK147.out 3
                        go_wp2_with (first | ((with_reducible refine gate_callee (f := 32) rfl ?_); refine goesL_ (some 129) rfl rfl Try.func32 (by kernel_rfl) rfl #[.agg #[.int .u32 a0_0, .int .u32 a0_1, .int .u32 a0_2, .int .u32 a0_3], .agg #[.int .u32 a1_0, .int .u32 a1_1, .int .u32 a1_2, .int .u32 a1_3]] rfl (by (try simp only [List.map_toArray, List.map_cons, List.map_nil]); first | done | rfl | (simp only [List.length_drop, List.length_take]; rfl)) ?_; (with_reducible refine (rect_Meets.calls a0_0 a0_1 a0_2 a0_3 a1_0 a1_1 a1_2 a1_3 t165 _ A158.out).mono ?_); rintro e w177 ⟨rfl, hb⟩; refine ⟨_, rfl, ?_⟩; have n0_ := Aside0.mk (blk_below (g := gb146) (o := .cells #[.int .u32 a0_0, .int .u32 a0_1, .int .u32 a0_2, .int .u32 a0_3] 24 (0, 0)) (by (with_reducible repeat (first | refine blk_drewN ?_ _ | refine blk_drew ?_ | refine blk_alloc ?_ _)); exact BK146.out) hb); have n1_ := Aside0.mk (blk_below (g := gb147) (o := .cells #[.int .u32 a1_0, .int .u32 a1_1, .int .u32 a1_2, .int .u32 a1_3] 24 (0, 0)) (by (with_reducible repeat (first | refine blk_drewN ?_ _ | refine blk_drew ?_ | refine blk_alloc ?_ _)); exact BK147.out) hb); have n2_ := Aside0.mk (blk_below (g := gb153) (o := .cells #[.int .u32 t149, .int .u32 t150, .int .u32 t151, .int .u32 t152] 24 (0, 0)) (by (with_reducible repeat (first | refine blk_drewN ?_ _ | refine blk_drew ?_ | refine blk_alloc ?_ _)); exact BK153.out) hb); have n3_ := Aside0.mk (below_step (by repeat (first | (with_reducible first | exact HB.out | apply below_alloc | apply pw_below_drewN | apply below_drew1 | refine below_set ?_ GE146.out | refine below_set ?_ GE147.out | refine below_set ?_ GE153.out) | exact HB.out)) hb); clear BK146; clear BK147; clear BK153; clear HB; have BK146 := n0_; have BK147 := n1_; have BK153 := n2_; have HB := n3_; clear n0_ n1_ n2_ n3_; (try clear hb); (try clear hb2); (try clear hk); (try clear hi); have hcz178_0 : w177.cell? ⟨gb146, 0, none⟩ = some (.int .u32 a0_0) := (blk_cell BK146.out 0).trans rfl; have hcz178_1 : w177.cell? ⟨gb146, 1, none⟩ = some (.int .u32 a0_1) := (blk_cell BK146.out 1).trans rfl; have hcz178_2 : w177.cell? ⟨gb146, 2, none⟩ = some (.int .u32 a0_2) := (blk_cell BK146.out 2).trans rfl; have hcz178_3 : w177.cell? ⟨gb146, 3, none⟩ = some (.int .u32 a0_3) := (blk_cell BK146.out 3).trans rfl; have hfz178_0 := blk_frozen BK146.out 0; have hfz178_1 := blk_frozen BK146.out 1; have hfz178_2 := blk_frozen BK146.out 2; have hfz178_3 := blk_frozen BK146.out 3; have hcz179_0 : w177.cell? ⟨gb147, 0, none⟩ = some (.int .u32 a1_0) := (blk_cell BK147.out 0).trans rfl; have hcz179_1 : w177.cell? ⟨gb147, 1, none⟩ = some (.int .u32 a1_1) := (blk_cell BK147.out 1).trans rfl; have hcz179_2 : w177.cell? ⟨gb147, 2, none⟩ = some (.int .u32 a1_2) := (blk_cell BK147.out 2).trans rfl; have hcz179_3 : w177.cell? ⟨gb147, 3, none⟩ = some (.int .u32 a1_3) := (blk_cell BK147.out 3).trans rfl; have hfz179_0 := blk_frozen BK147.out 0; have hfz179_1 := blk_frozen BK147.out 1; have hfz179_2 := blk_frozen BK147.out 2; have hfz179_3 := blk_frozen BK147.out 3) | (go_at_call 33; (with_reducible refine (rect_Within.calls a0_0 a0_1 a0_2 a0_3 a1_0 a1_1 a1_2 a1_3 t166 _ A160.out).mono ?_); rintro e w180 ⟨rfl, hb⟩; have n0_ := Aside0.mk (blk_below (g := gb146) (o := .cells #[.int .u32 a0_0, .int .u32 a0_1, .int .u32 a0_2, .int .u32 a0_3] 24 (0, 0)) (by (with_reducible repeat (first | refine blk_drewN ?_ _ | refine blk_drew ?_ | refine blk_alloc ?_ _)); exact BK146.out) hb); have n1_ := Aside0.mk (blk_below (g := gb147) (o := .cells #[.int .u32 a1_0, .int .u32 a1_1, .int .u32 a1_2, .int .u32 a1_3] 24 (0, 0)) (by (with_reducible repeat (first | refine blk_drewN ?_ _ | refine blk_drew ?_ | refine blk_alloc ?_ _)); exact BK147.out) hb); have n2_ := Aside0.mk (blk_below (g := gb153) (o := .cells #[.int .u32 t149, .int .u32 t150, .int .u32 t151, .int .u32 t152] 24 (0, 0)) (by (with_reducible repeat (first | refine blk_drewN ?_ _ | refine blk_drew ?_ | refine blk_alloc ?_ _)); exact BK153.out) hb); have n3_ := Aside0.mk (below_step (by repeat (first | (with_reducible first | exact HB.out | apply below_alloc | apply pw_below_drewN | apply below_drew1 | refine below_set ?_ GE146.out | refine below_set ?_ GE147.out | refine below_set ?_ GE153.out) | exact HB.out)) hb); clear BK146; clear BK147; clear BK153; clear HB; have BK146 := n0_; have BK147 := n1_; have BK153 := n2_; have HB := n3_; clear n0_ n1_ n2_ n3_; (try clear hb); (try clear hb2); (try clear hk); (try clear hi); have hcz181_0 : w180.cell? ⟨gb153, 0, none⟩ = some (.int .u32 t149) := (blk_cell BK153.out 0).trans rfl; have hcz181_1 : w180.cell? ⟨gb153, 1, none⟩ = some (.int .u32 t150) := (blk_cell BK153.out 1).trans rfl; have hcz181_2 : w180.cell? ⟨gb153, 2, none⟩ = some (.int .u32 t151) := (blk_cell BK153.out 2).trans rfl; have hcz181_3 : w180.cell? ⟨gb153, 3, none⟩ = some (.int .u32 t152) := (blk_cell BK153.out 3).trans rfl; have hfz181_0 := blk_frozen BK153.out 0; have hfz181_1 := blk_frozen BK153.out 1; have hfz181_2 := blk_frozen BK153.out 2; have hfz181_3 := blk_frozen BK153.out 3))
                        go_ret
                        exact ⟨by first | rfl | (simp [errW_none, errW_some] <;> rfl) | (simp [*, errW_none, errW_some] <;> rfl), by repeat (first | (with_reducible first | exact HB.out | apply below_alloc | apply pw_below_drewN | apply below_drew1 | refine below_set ?_ GE146.out | refine below_set ?_ GE147.out | refine below_set ?_ GE153.out) | exact HB.out)⟩
                    · rw [if_neg c161] at H
                      have c161b0 : (t166 == x12_102) = false := by simpa using c161
                      (try (have c161b1 : decide (t166 = x12_102) = false := by simpa using c161))
                      (try (have c161b2 : (t166 == x12_102) = false := by simpa using c161))
                      (try (have c161b3 : ¬ (t166 = x12_102) := by simpa using c161))
                      clear c161
                      obtain rfl := Option.some.inj H
                      exact absurd HT.out (by simp)
                  · rw [if_neg c159] at H
                    have c159b0 : (t165 == x11_47) = false := by simpa using c159
                    (try (have c159b1 : decide (t165 = x11_47) = false := by simpa using c159))
                    (try (have c159b2 : (t165 == x11_47) = false := by simpa using c159))
                    (try (have c159b3 : ¬ (t165 = x11_47) := by simpa using c159))
                    clear c159
                    obtain rfl := Option.some.inj H
                    exact absurd HT.out (by simp)
  · replace c6 := Bool.eq_false_iff.mpr c6
    subst c6
    have H1 : (some false) = some r := by rw [if_neg (show ¬ (false = true) by decide)] at H; exact H
    clear H
    have H := H1
    clear H1
    obtain rfl := Option.some.inj H
    exact absurd HT.out (by simp)

/-- THE ONE PURE STATEMENT of croftlaw06_RectTells. -/
def croftlaw06_RectTells.Pure : Prop := ∀ (a0_0 : Int) (a0_1 : Int) (a0_2 : Int) (a0_3 : Int) (a1_0 : Int) (a1_1 : Int) (a1_2 : Int) (a1_3 : Int) (a2 : Int) (a3 : Int), (Lit.int .u32 a0_0).wf = true → (Lit.int .u32 a0_1).wf = true → (Lit.int .u32 a0_2).wf = true → (Lit.int .u32 a0_3).wf = true → (Lit.int .u32 a1_0).wf = true → (Lit.int .u32 a1_1).wf = true → (Lit.int .u32 a1_2).wf = true → (Lit.int .u32 a1_3).wf = true → (Lit.int .u32 a2).wf = true → (Lit.int .u32 a3).wf = true → ∃ k, croftlaw06_RectTells.f k a0_0 a0_1 a0_2 a0_3 a1_0 a1_1 a1_2 a1_3 a2 a3 = some true

end Go.Proofs.Ytjlkkipickeebaa.PR
