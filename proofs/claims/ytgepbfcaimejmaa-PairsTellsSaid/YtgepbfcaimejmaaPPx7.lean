-- Printed by a program of this session (wip/tools), out of the translation: Lean checks it.
import Derived.Test.YtgepbfcaimejmaaPPx0
import Derived.Test.YtgepbfcaimejmaaPPx1
import Derived.Test.YtgepbfcaimejmaaPPx4
import Derived.Test.YtgepbfcaimejmaaPPx5
import Derived.Test.YtgepbfcaimejmaaPPx6
import Derived.Test.YtgepbfcaimejmaaFnval
namespace Go.Proofs.Ytgepbfcaimejmaa.PP
open Go.RowKit Go.Proofs.YtgepbfcaimejmaaW.PrintWords Go.Proofs.YtgepbfcaimejmaaW.PrintLast Go.Proofs.YtgepbfcaimejmaaW.PrintMore
attribute [local go_sem] max2_int min2_int max_two min_two max_three min_three max_four min_four   -- for this text's walks alone
set_option linter.unusedVariables false
set_option linter.unusedSimpArgs false

attribute [local go_sem high] eqA24
/-! ### croftlaw36_PairsTells: function 5 -/
mutual
def croftlaw36_PairsTells.j0 : Nat → List (S24) → Option (Bool)
  | 0, _ => none
  | k + 1, x0 => croftlaw36_PairsTells.l0 k x0 ([] : List Int) 0 0 false 0 0 0 0 (⟨#[]⟩ : ByteArray) 0 0 0 (⟨#[]⟩ : ByteArray)
def croftlaw36_PairsTells.l0 : Nat → List (S24) → List Int → Int → Int → Bool → Int → Int → Int → Int → ByteArray → Int → Int → Int → ByteArray → Option (Bool)
  | 0, _, _, _, _, _, _, _, _, _, _, _, _, _, _ => none
  | k + 1, x0, x3, x6, x7, x8, x9, x208000, x208001, x208002, x208003, x209000, x209001, x209002, x209003 => if x9 < (x0.length : Int) then (croftlaw36_PairsTells.l1 k x0 x3 x6 x7 x8 x9 (-1) 0 0 0 x208000 x208001 x208002 x208003 x209000 x209001 x209002 x209003) else ((pairs_Closest.f k x0).bind fun bt222 => ((pairs_Nearest.f k x0).bind fun t233 => ((croftplain_Ints.f k t233 x3).bind fun t236 => (if t236 = true then (if (bt222.1 == x208000 && (bt222.2.1 == x208001 && (bt222.2.2.1 == x208002 && (bt222.2.2.2.1.toList == x208003.toList)))) = true then (if (bt222.2.2.2.2.1 == x209000 && (bt222.2.2.2.2.2.1 == x209001 && (bt222.2.2.2.2.2.2.1 == x209002 && (bt222.2.2.2.2.2.2.2.1.toList == x209003.toList)))) = true then (some (bt222.2.2.2.2.2.2.2.2 == x8)) else (some false)) else (some false)) else (some false)))))
def croftlaw36_PairsTells.l1 : Nat → List (S24) → List Int → Int → Int → Bool → Int → Int → Int → Int → Int → Int → Int → Int → ByteArray → Int → Int → Int → ByteArray → Option (Bool)
  | 0, _, _, _, _, _, _, _, _, _, _, _, _, _, _, _, _, _, _ => none
  | k + 1, x0, x3, x6, x7, x8, x9, x10, x11, x12, x13, x208000, x208001, x208002, x208003, x209000, x209001, x209002, x209003 => if x13 < (x0.length : Int) then (if 0 ≤ x9 then (if x9 < (x0.length : Int) then (if 0 ≤ x13 then ((croftref03_Between.f ((rd_T24 x0 x9).f1) ((rd_T24 x0 x9).f2) ((rd_T24 x0 x13).f1) ((rd_T24 x0 x13).f2)).bind fun bt216 => (if x13 = x9 then (croftlaw36_PairsTells.j3 k x0 x3 x6 x7 x8 x9 x10 x11 x12 x13 bt216.1 bt216.2 false x208000 x208001 x208002 x208003 x209000 x209001 x209002 x209003) else (if x10 < 0 then (croftlaw36_PairsTells.j3 k x0 x3 x6 x7 x8 x9 x10 x11 x12 x13 bt216.1 bt216.2 true x208000 x208001 x208002 x208003 x209000 x209001 x209002 x209003) else ((croftref03_Less.f bt216.1 bt216.2 x11 x12).bind fun t218 => (croftlaw36_PairsTells.j3 k x0 x3 x6 x7 x8 x9 x10 x11 x12 x13 bt216.1 bt216.2 t218 x208000 x208001 x208002 x208003 x209000 x209001 x209002 x209003))))) else (none)) else (none)) else (none)) else (if x3.length < 17592186044416 then (croftlaw36_PairsTells.l0 k x0 (x3 ++ [x10]) x6 x7 x8 (wrap64 (x9 + 1)) x208000 x208001 x208002 x208003 x209000 x209001 x209002 x209003) else (none))
def croftlaw36_PairsTells.j3 : Nat → List (S24) → List Int → Int → Int → Bool → Int → Int → Int → Int → Int → Int → Int → Bool → Int → Int → Int → ByteArray → Int → Int → Int → ByteArray → Option (Bool)
  | 0, _, _, _, _, _, _, _, _, _, _, _, _, _, _, _, _, _, _, _, _, _ => none
  | k + 1, x0, x3, x6, x7, x8, x9, x10, x11, x12, x13, x14, x15, x75, x208000, x208001, x208002, x208003, x209000, x209001, x209002, x209003 => if x75 = true then (croftlaw36_PairsTells.j4 k x0 x3 x6 x7 x8 x9 x13 x14 x15 x13 x14 x15 x208000 x208001 x208002 x208003 x209000 x209001 x209002 x209003) else (croftlaw36_PairsTells.j4 k x0 x3 x6 x7 x8 x9 x10 x11 x12 x13 x14 x15 x208000 x208001 x208002 x208003 x209000 x209001 x209002 x209003)
def croftlaw36_PairsTells.j4 : Nat → List (S24) → List Int → Int → Int → Bool → Int → Int → Int → Int → Int → Int → Int → Int → Int → Int → ByteArray → Int → Int → Int → ByteArray → Option (Bool)
  | 0, _, _, _, _, _, _, _, _, _, _, _, _, _, _, _, _, _, _, _, _ => none
  | k + 1, x0, x3, x6, x7, x8, x9, x10, x11, x12, x13, x14, x15, x208000, x208001, x208002, x208003, x209000, x209001, x209002, x209003 => if x13 > x9 then (if x8 = true then ((croftref03_Less.f x14 x15 x6 x7).bind fun t219 => (croftlaw36_PairsTells.j5 k x0 x3 x6 x7 x8 x9 x10 x11 x12 x13 x14 x15 t219 x208000 x208001 x208002 x208003 x209000 x209001 x209002 x209003)) else (croftlaw36_PairsTells.j5 k x0 x3 x6 x7 x8 x9 x10 x11 x12 x13 x14 x15 true x208000 x208001 x208002 x208003 x209000 x209001 x209002 x209003)) else (croftlaw36_PairsTells.j5 k x0 x3 x6 x7 x8 x9 x10 x11 x12 x13 x14 x15 false x208000 x208001 x208002 x208003 x209000 x209001 x209002 x209003)
def croftlaw36_PairsTells.j5 : Nat → List (S24) → List Int → Int → Int → Bool → Int → Int → Int → Int → Int → Int → Int → Bool → Int → Int → Int → ByteArray → Int → Int → Int → ByteArray → Option (Bool)
  | 0, _, _, _, _, _, _, _, _, _, _, _, _, _, _, _, _, _, _, _, _, _ => none
  | k + 1, x0, x3, x6, x7, x8, x9, x10, x11, x12, x13, x14, x15, x92, x208000, x208001, x208002, x208003, x209000, x209001, x209002, x209003 => if x92 = true then (if 0 ≤ x9 then (if x9 < (x0.length : Int) then (if 0 ≤ x13 then (if x13 < (x0.length : Int) then (croftlaw36_PairsTells.l1 k x0 x3 x14 x15 true x9 x10 x11 x12 (wrap64 (x13 + 1)) ((rd_T24 x0 x9).f0) ((rd_T24 x0 x9).f1) ((rd_T24 x0 x9).f2) ((rd_T24 x0 x9).f3) ((rd_T24 x0 x13).f0) ((rd_T24 x0 x13).f1) ((rd_T24 x0 x13).f2) ((rd_T24 x0 x13).f3)) else (none)) else (none)) else (none)) else (none)) else (croftlaw36_PairsTells.l1 k x0 x3 x6 x7 x8 x9 x10 x11 x12 (wrap64 (x13 + 1)) x208000 x208001 x208002 x208003 x209000 x209001 x209002 x209003)
end
def croftlaw36_PairsTells.f (k : Nat) (l0 : List (S24)) : Option (Bool) := (croftlaw36_alive.f k).bind fun t201 => (if t201 = true then (if (l0.length : Int) > 25 then (if 25 ≤ (l0.length : Int) then (croftlaw36_PairsTells.j0 k (l0.take 25)) else (none)) else (croftlaw36_PairsTells.j0 k l0)) else (some false))
theorem croftlaw36_PairsTells.mono_l : ∀ k, (∀ y0, LeO (croftlaw36_PairsTells.j0 k y0) (croftlaw36_PairsTells.j0 (k + 1) y0)) ∧ (∀ y0 y1 y2 y3 y4 y5 y6 y7 y8 y9 y10 y11 y12 y13, LeO (croftlaw36_PairsTells.l0 k y0 y1 y2 y3 y4 y5 y6 y7 y8 y9 y10 y11 y12 y13) (croftlaw36_PairsTells.l0 (k + 1) y0 y1 y2 y3 y4 y5 y6 y7 y8 y9 y10 y11 y12 y13)) ∧ (∀ y0 y1 y2 y3 y4 y5 y6 y7 y8 y9 y10 y11 y12 y13 y14 y15 y16 y17, LeO (croftlaw36_PairsTells.l1 k y0 y1 y2 y3 y4 y5 y6 y7 y8 y9 y10 y11 y12 y13 y14 y15 y16 y17) (croftlaw36_PairsTells.l1 (k + 1) y0 y1 y2 y3 y4 y5 y6 y7 y8 y9 y10 y11 y12 y13 y14 y15 y16 y17)) ∧ (∀ y0 y1 y2 y3 y4 y5 y6 y7 y8 y9 y10 y11 y12 y13 y14 y15 y16 y17 y18 y19 y20, LeO (croftlaw36_PairsTells.j3 k y0 y1 y2 y3 y4 y5 y6 y7 y8 y9 y10 y11 y12 y13 y14 y15 y16 y17 y18 y19 y20) (croftlaw36_PairsTells.j3 (k + 1) y0 y1 y2 y3 y4 y5 y6 y7 y8 y9 y10 y11 y12 y13 y14 y15 y16 y17 y18 y19 y20)) ∧ (∀ y0 y1 y2 y3 y4 y5 y6 y7 y8 y9 y10 y11 y12 y13 y14 y15 y16 y17 y18 y19, LeO (croftlaw36_PairsTells.j4 k y0 y1 y2 y3 y4 y5 y6 y7 y8 y9 y10 y11 y12 y13 y14 y15 y16 y17 y18 y19) (croftlaw36_PairsTells.j4 (k + 1) y0 y1 y2 y3 y4 y5 y6 y7 y8 y9 y10 y11 y12 y13 y14 y15 y16 y17 y18 y19)) ∧ (∀ y0 y1 y2 y3 y4 y5 y6 y7 y8 y9 y10 y11 y12 y13 y14 y15 y16 y17 y18 y19 y20, LeO (croftlaw36_PairsTells.j5 k y0 y1 y2 y3 y4 y5 y6 y7 y8 y9 y10 y11 y12 y13 y14 y15 y16 y17 y18 y19 y20) (croftlaw36_PairsTells.j5 (k + 1) y0 y1 y2 y3 y4 y5 y6 y7 y8 y9 y10 y11 y12 y13 y14 y15 y16 y17 y18 y19 y20))
  | 0 => ⟨fun _ r h => by simp [croftlaw36_PairsTells.j0] at h, fun _ _ _ _ _ _ _ _ _ _ _ _ _ _ r h => by simp [croftlaw36_PairsTells.l0] at h, fun _ _ _ _ _ _ _ _ _ _ _ _ _ _ _ _ _ _ r h => by simp [croftlaw36_PairsTells.l1] at h, fun _ _ _ _ _ _ _ _ _ _ _ _ _ _ _ _ _ _ _ _ _ r h => by simp [croftlaw36_PairsTells.j3] at h, fun _ _ _ _ _ _ _ _ _ _ _ _ _ _ _ _ _ _ _ _ r h => by simp [croftlaw36_PairsTells.j4] at h, fun _ _ _ _ _ _ _ _ _ _ _ _ _ _ _ _ _ _ _ _ _ r h => by simp [croftlaw36_PairsTells.j5] at h⟩
  | k + 1 => by
    obtain ⟨ih0, ih1, ih2, ih3, ih4, ih5⟩ := croftlaw36_PairsTells.mono_l k
    refine ⟨?_, ?_, ?_, ?_, ?_, ?_⟩
    · intro y0
      unfold croftlaw36_PairsTells.j0
      repeat' first
      | (with_reducible exact ih0 _)
      | (with_reducible exact ih1 _ _ _ _ _ _ _ _ _ _ _ _ _ _)
      | (with_reducible exact ih2 _ _ _ _ _ _ _ _ _ _ _ _ _ _ _ _ _ _)
      | (with_reducible exact ih3 _ _ _ _ _ _ _ _ _ _ _ _ _ _ _ _ _ _ _ _ _)
      | (with_reducible exact ih4 _ _ _ _ _ _ _ _ _ _ _ _ _ _ _ _ _ _ _ _)
      | (with_reducible exact ih5 _ _ _ _ _ _ _ _ _ _ _ _ _ _ _ _ _ _ _ _ _)
      | (with_reducible exact croftlaw36_alive.mono _)
      | (with_reducible exact croftplain_Ints.mono _ _ _)
      | (with_reducible exact pairs_Closest.mono _ _)
      | (with_reducible exact pairs_Nearest.mono _ _)
      | (with_reducible exact LeO.refl _)
      | (with_reducible exact LeO.none _)
      | (with_reducible refine LeO.ite ?_ ?_)
      | (with_reducible refine LeO.bind ?_ (fun _ => ?_))
      | exact ih0 _
      | exact ih1 _ _ _ _ _ _ _ _ _ _ _ _ _ _
      | exact ih2 _ _ _ _ _ _ _ _ _ _ _ _ _ _ _ _ _ _
      | exact ih3 _ _ _ _ _ _ _ _ _ _ _ _ _ _ _ _ _ _ _ _ _
      | exact ih4 _ _ _ _ _ _ _ _ _ _ _ _ _ _ _ _ _ _ _ _
      | exact ih5 _ _ _ _ _ _ _ _ _ _ _ _ _ _ _ _ _ _ _ _ _
      | exact croftlaw36_alive.mono _
      | exact croftplain_Ints.mono _ _ _
      | exact pairs_Closest.mono _ _
      | exact pairs_Nearest.mono _ _
      | exact LeO.none _
      | refine LeO.ite ?_ ?_
      | refine LeO.bind ?_ (fun _ => ?_)
    · intro y0 y1 y2 y3 y4 y5 y6 y7 y8 y9 y10 y11 y12 y13
      unfold croftlaw36_PairsTells.l0
      repeat' first
      | (with_reducible exact ih0 _)
      | (with_reducible exact ih1 _ _ _ _ _ _ _ _ _ _ _ _ _ _)
      | (with_reducible exact ih2 _ _ _ _ _ _ _ _ _ _ _ _ _ _ _ _ _ _)
      | (with_reducible exact ih3 _ _ _ _ _ _ _ _ _ _ _ _ _ _ _ _ _ _ _ _ _)
      | (with_reducible exact ih4 _ _ _ _ _ _ _ _ _ _ _ _ _ _ _ _ _ _ _ _)
      | (with_reducible exact ih5 _ _ _ _ _ _ _ _ _ _ _ _ _ _ _ _ _ _ _ _ _)
      | (with_reducible exact croftlaw36_alive.mono _)
      | (with_reducible exact croftplain_Ints.mono _ _ _)
      | (with_reducible exact pairs_Closest.mono _ _)
      | (with_reducible exact pairs_Nearest.mono _ _)
      | (with_reducible exact LeO.refl _)
      | (with_reducible exact LeO.none _)
      | (with_reducible refine LeO.ite ?_ ?_)
      | (with_reducible refine LeO.bind ?_ (fun _ => ?_))
      | exact ih0 _
      | exact ih1 _ _ _ _ _ _ _ _ _ _ _ _ _ _
      | exact ih2 _ _ _ _ _ _ _ _ _ _ _ _ _ _ _ _ _ _
      | exact ih3 _ _ _ _ _ _ _ _ _ _ _ _ _ _ _ _ _ _ _ _ _
      | exact ih4 _ _ _ _ _ _ _ _ _ _ _ _ _ _ _ _ _ _ _ _
      | exact ih5 _ _ _ _ _ _ _ _ _ _ _ _ _ _ _ _ _ _ _ _ _
      | exact croftlaw36_alive.mono _
      | exact croftplain_Ints.mono _ _ _
      | exact pairs_Closest.mono _ _
      | exact pairs_Nearest.mono _ _
      | exact LeO.none _
      | refine LeO.ite ?_ ?_
      | refine LeO.bind ?_ (fun _ => ?_)
    · intro y0 y1 y2 y3 y4 y5 y6 y7 y8 y9 y10 y11 y12 y13 y14 y15 y16 y17
      unfold croftlaw36_PairsTells.l1
      repeat' first
      | (with_reducible exact ih0 _)
      | (with_reducible exact ih1 _ _ _ _ _ _ _ _ _ _ _ _ _ _)
      | (with_reducible exact ih2 _ _ _ _ _ _ _ _ _ _ _ _ _ _ _ _ _ _)
      | (with_reducible exact ih3 _ _ _ _ _ _ _ _ _ _ _ _ _ _ _ _ _ _ _ _ _)
      | (with_reducible exact ih4 _ _ _ _ _ _ _ _ _ _ _ _ _ _ _ _ _ _ _ _)
      | (with_reducible exact ih5 _ _ _ _ _ _ _ _ _ _ _ _ _ _ _ _ _ _ _ _ _)
      | (with_reducible exact croftlaw36_alive.mono _)
      | (with_reducible exact croftplain_Ints.mono _ _ _)
      | (with_reducible exact pairs_Closest.mono _ _)
      | (with_reducible exact pairs_Nearest.mono _ _)
      | (with_reducible exact LeO.refl _)
      | (with_reducible exact LeO.none _)
      | (with_reducible refine LeO.ite ?_ ?_)
      | (with_reducible refine LeO.bind ?_ (fun _ => ?_))
      | exact ih0 _
      | exact ih1 _ _ _ _ _ _ _ _ _ _ _ _ _ _
      | exact ih2 _ _ _ _ _ _ _ _ _ _ _ _ _ _ _ _ _ _
      | exact ih3 _ _ _ _ _ _ _ _ _ _ _ _ _ _ _ _ _ _ _ _ _
      | exact ih4 _ _ _ _ _ _ _ _ _ _ _ _ _ _ _ _ _ _ _ _
      | exact ih5 _ _ _ _ _ _ _ _ _ _ _ _ _ _ _ _ _ _ _ _ _
      | exact croftlaw36_alive.mono _
      | exact croftplain_Ints.mono _ _ _
      | exact pairs_Closest.mono _ _
      | exact pairs_Nearest.mono _ _
      | exact LeO.none _
      | refine LeO.ite ?_ ?_
      | refine LeO.bind ?_ (fun _ => ?_)
    · intro y0 y1 y2 y3 y4 y5 y6 y7 y8 y9 y10 y11 y12 y13 y14 y15 y16 y17 y18 y19 y20
      unfold croftlaw36_PairsTells.j3
      repeat' first
      | (with_reducible exact ih0 _)
      | (with_reducible exact ih1 _ _ _ _ _ _ _ _ _ _ _ _ _ _)
      | (with_reducible exact ih2 _ _ _ _ _ _ _ _ _ _ _ _ _ _ _ _ _ _)
      | (with_reducible exact ih3 _ _ _ _ _ _ _ _ _ _ _ _ _ _ _ _ _ _ _ _ _)
      | (with_reducible exact ih4 _ _ _ _ _ _ _ _ _ _ _ _ _ _ _ _ _ _ _ _)
      | (with_reducible exact ih5 _ _ _ _ _ _ _ _ _ _ _ _ _ _ _ _ _ _ _ _ _)
      | (with_reducible exact croftlaw36_alive.mono _)
      | (with_reducible exact croftplain_Ints.mono _ _ _)
      | (with_reducible exact pairs_Closest.mono _ _)
      | (with_reducible exact pairs_Nearest.mono _ _)
      | (with_reducible exact LeO.refl _)
      | (with_reducible exact LeO.none _)
      | (with_reducible refine LeO.ite ?_ ?_)
      | (with_reducible refine LeO.bind ?_ (fun _ => ?_))
      | exact ih0 _
      | exact ih1 _ _ _ _ _ _ _ _ _ _ _ _ _ _
      | exact ih2 _ _ _ _ _ _ _ _ _ _ _ _ _ _ _ _ _ _
      | exact ih3 _ _ _ _ _ _ _ _ _ _ _ _ _ _ _ _ _ _ _ _ _
      | exact ih4 _ _ _ _ _ _ _ _ _ _ _ _ _ _ _ _ _ _ _ _
      | exact ih5 _ _ _ _ _ _ _ _ _ _ _ _ _ _ _ _ _ _ _ _ _
      | exact croftlaw36_alive.mono _
      | exact croftplain_Ints.mono _ _ _
      | exact pairs_Closest.mono _ _
      | exact pairs_Nearest.mono _ _
      | exact LeO.none _
      | refine LeO.ite ?_ ?_
      | refine LeO.bind ?_ (fun _ => ?_)
    · intro y0 y1 y2 y3 y4 y5 y6 y7 y8 y9 y10 y11 y12 y13 y14 y15 y16 y17 y18 y19
      unfold croftlaw36_PairsTells.j4
      repeat' first
      | (with_reducible exact ih0 _)
      | (with_reducible exact ih1 _ _ _ _ _ _ _ _ _ _ _ _ _ _)
      | (with_reducible exact ih2 _ _ _ _ _ _ _ _ _ _ _ _ _ _ _ _ _ _)
      | (with_reducible exact ih3 _ _ _ _ _ _ _ _ _ _ _ _ _ _ _ _ _ _ _ _ _)
      | (with_reducible exact ih4 _ _ _ _ _ _ _ _ _ _ _ _ _ _ _ _ _ _ _ _)
      | (with_reducible exact ih5 _ _ _ _ _ _ _ _ _ _ _ _ _ _ _ _ _ _ _ _ _)
      | (with_reducible exact croftlaw36_alive.mono _)
      | (with_reducible exact croftplain_Ints.mono _ _ _)
      | (with_reducible exact pairs_Closest.mono _ _)
      | (with_reducible exact pairs_Nearest.mono _ _)
      | (with_reducible exact LeO.refl _)
      | (with_reducible exact LeO.none _)
      | (with_reducible refine LeO.ite ?_ ?_)
      | (with_reducible refine LeO.bind ?_ (fun _ => ?_))
      | exact ih0 _
      | exact ih1 _ _ _ _ _ _ _ _ _ _ _ _ _ _
      | exact ih2 _ _ _ _ _ _ _ _ _ _ _ _ _ _ _ _ _ _
      | exact ih3 _ _ _ _ _ _ _ _ _ _ _ _ _ _ _ _ _ _ _ _ _
      | exact ih4 _ _ _ _ _ _ _ _ _ _ _ _ _ _ _ _ _ _ _ _
      | exact ih5 _ _ _ _ _ _ _ _ _ _ _ _ _ _ _ _ _ _ _ _ _
      | exact croftlaw36_alive.mono _
      | exact croftplain_Ints.mono _ _ _
      | exact pairs_Closest.mono _ _
      | exact pairs_Nearest.mono _ _
      | exact LeO.none _
      | refine LeO.ite ?_ ?_
      | refine LeO.bind ?_ (fun _ => ?_)
    · intro y0 y1 y2 y3 y4 y5 y6 y7 y8 y9 y10 y11 y12 y13 y14 y15 y16 y17 y18 y19 y20
      unfold croftlaw36_PairsTells.j5
      repeat' first
      | (with_reducible exact ih0 _)
      | (with_reducible exact ih1 _ _ _ _ _ _ _ _ _ _ _ _ _ _)
      | (with_reducible exact ih2 _ _ _ _ _ _ _ _ _ _ _ _ _ _ _ _ _ _)
      | (with_reducible exact ih3 _ _ _ _ _ _ _ _ _ _ _ _ _ _ _ _ _ _ _ _ _)
      | (with_reducible exact ih4 _ _ _ _ _ _ _ _ _ _ _ _ _ _ _ _ _ _ _ _)
      | (with_reducible exact ih5 _ _ _ _ _ _ _ _ _ _ _ _ _ _ _ _ _ _ _ _ _)
      | (with_reducible exact croftlaw36_alive.mono _)
      | (with_reducible exact croftplain_Ints.mono _ _ _)
      | (with_reducible exact pairs_Closest.mono _ _)
      | (with_reducible exact pairs_Nearest.mono _ _)
      | (with_reducible exact LeO.refl _)
      | (with_reducible exact LeO.none _)
      | (with_reducible refine LeO.ite ?_ ?_)
      | (with_reducible refine LeO.bind ?_ (fun _ => ?_))
      | exact ih0 _
      | exact ih1 _ _ _ _ _ _ _ _ _ _ _ _ _ _
      | exact ih2 _ _ _ _ _ _ _ _ _ _ _ _ _ _ _ _ _ _
      | exact ih3 _ _ _ _ _ _ _ _ _ _ _ _ _ _ _ _ _ _ _ _ _
      | exact ih4 _ _ _ _ _ _ _ _ _ _ _ _ _ _ _ _ _ _ _ _
      | exact ih5 _ _ _ _ _ _ _ _ _ _ _ _ _ _ _ _ _ _ _ _ _
      | exact croftlaw36_alive.mono _
      | exact croftplain_Ints.mono _ _ _
      | exact pairs_Closest.mono _ _
      | exact pairs_Nearest.mono _ _
      | exact LeO.none _
      | refine LeO.ite ?_ ?_
      | refine LeO.bind ?_ (fun _ => ?_)
theorem croftlaw36_PairsTells.mono : ∀ a0 k, LeO (croftlaw36_PairsTells.f k a0) (croftlaw36_PairsTells.f (k + 1) a0) := by
  intro a0 k
  obtain ⟨ih0, ih1, ih2, ih3, ih4, ih5⟩ := croftlaw36_PairsTells.mono_l k
  unfold croftlaw36_PairsTells.f
  repeat' first
      | (with_reducible exact ih0 _)
      | (with_reducible exact ih1 _ _ _ _ _ _ _ _ _ _ _ _ _ _)
      | (with_reducible exact ih2 _ _ _ _ _ _ _ _ _ _ _ _ _ _ _ _ _ _)
      | (with_reducible exact ih3 _ _ _ _ _ _ _ _ _ _ _ _ _ _ _ _ _ _ _ _ _)
      | (with_reducible exact ih4 _ _ _ _ _ _ _ _ _ _ _ _ _ _ _ _ _ _ _ _)
      | (with_reducible exact ih5 _ _ _ _ _ _ _ _ _ _ _ _ _ _ _ _ _ _ _ _ _)
      | (with_reducible exact croftlaw36_alive.mono _)
      | (with_reducible exact croftplain_Ints.mono _ _ _)
      | (with_reducible exact pairs_Closest.mono _ _)
      | (with_reducible exact pairs_Nearest.mono _ _)
      | (with_reducible exact LeO.refl _)
      | (with_reducible exact LeO.none _)
      | (with_reducible refine LeO.ite ?_ ?_)
      | (with_reducible refine LeO.bind ?_ (fun _ => ?_))
      | exact ih0 _
      | exact ih1 _ _ _ _ _ _ _ _ _ _ _ _ _ _
      | exact ih2 _ _ _ _ _ _ _ _ _ _ _ _ _ _ _ _ _ _
      | exact ih3 _ _ _ _ _ _ _ _ _ _ _ _ _ _ _ _ _ _ _ _ _
      | exact ih4 _ _ _ _ _ _ _ _ _ _ _ _ _ _ _ _ _ _ _ _
      | exact ih5 _ _ _ _ _ _ _ _ _ _ _ _ _ _ _ _ _ _ _ _ _
      | exact croftlaw36_alive.mono _
      | exact croftplain_Ints.mono _ _ _
      | exact pairs_Closest.mono _ _
      | exact pairs_Nearest.mono _ _
      | exact LeO.none _
      | refine LeO.ite ?_ ?_
      | refine LeO.bind ?_ (fun _ => ?_)
def croftlaw36_PairsTells.T17 : Bool × List (List Nat × List Nat) := (true, [([], []), ([], []), ([0, 1], [0, 1]), ([2], [2]), ([3], [3]), ([], []), ([], []), ([5, 6], [5, 6]), ([7], [7]), ([8], [8]), ([], []), ([], []), ([10, 11], [10, 11]), ([12], [12]), ([13], [13]), ([], []), ([], []), ([15, 16], [15, 16]), ([17], [17]), ([18], [18]), ([4, 9, 14, 19], [4, 9, 14, 19]), ([20], [20]), ([21], [21]), ([21], [21]), ([22, 20, 0, 1, 2, 3, 4, 5, 6, 7, 8, 9, 10, 11, 12, 13, 14, 15, 16, 17, 18, 19, 20, 21, 22], [22]), ([23, 24, 0, 1, 2, 3, 4, 5, 6, 7, 8, 9, 10, 11, 12, 13, 14, 15, 16, 17, 18, 19, 20, 21, 22, 23, 24], [23])])
def croftlaw36_PairsTells.B17 : List Nat := [0, 0, 3, 7, 15, 0, 0, 96, 224, 480, 0, 0, 3072, 7168, 15360, 0, 0, 98304, 229376, 491520, 1048575, 2097151, 4194303, 4194303, 8388607, 33554431]
theorem croftlaw36_PairsTells.tab17 : rtab .any (opsOf Try.f5 17) = croftlaw36_PairsTells.T17 := by kernel_rfl
theorem croftlaw36_PairsTells.bits17 : waitsOk croftlaw36_PairsTells.T17.2 croftlaw36_PairsTells.B17 = true := by kernel_rfl
def croftlaw36_PairsTells.T21 : Bool × List (List Nat × List Nat) := (true, [([], []), ([], []), ([0, 1], [0, 1]), ([2], [2]), ([], []), ([], []), ([4, 5], [4, 5]), ([6], [6]), ([], []), ([], []), ([3, 0, 1, 2, 3], [3]), ([7, 10, 0, 1, 2, 3, 4, 5, 6, 7, 10], [7]), ([8, 11, 0, 1, 2, 3, 4, 5, 6, 7, 8, 10, 11], [8]), ([9, 12, 0, 1, 2, 3, 4, 5, 6, 7, 8, 9, 10, 11, 12], [9]), ([13, 0, 1, 2, 3, 4, 5, 6, 7, 8, 9, 10, 11, 12, 13], [])])
def croftlaw36_PairsTells.B21 : List Nat := [0, 0, 3, 7, 0, 0, 48, 112, 0, 0, 15, 1279, 3583, 8191, 16383]
theorem croftlaw36_PairsTells.tab21 : rtab .any (opsOf Try.f5 21) = croftlaw36_PairsTells.T21 := by kernel_rfl
theorem croftlaw36_PairsTells.bits21 : waitsOk croftlaw36_PairsTells.T21.2 croftlaw36_PairsTells.B21 = true := by kernel_rfl
theorem four_far {W : World} {g : Nat} {p : Addr} {u : Value} (a b c d : Value) (h : W.cell? p = some u) (hne : p.block ≠ g) :
    ((((W.setCell ⟨g, 0, none⟩ a).setCell ⟨g, 1, none⟩ b).setCell ⟨g, 2, none⟩ c).setCell ⟨g, 3, none⟩ d).cell? p = some u :=
  (cell_far (p := ⟨g, 3, none⟩) hne _).trans ((cell_far (p := ⟨g, 2, none⟩) hne _).trans ((cell_far (p := ⟨g, 1, none⟩) hne _).trans ((cell_far (p := ⟨g, 0, none⟩) hne _).trans h)))
set_option maxHeartbeats 8000000 in
set_option maxRecDepth 100000 in
theorem croftlaw36_PairsTells.calls (k : Nat) (P0_ : Nat → Prop) (A0 : Option Addr) (c0 : Nat) (l0 : List (S24)) (r : Bool) (w : World) (hs0 : Kd.V k24 24 w w.heap.size (fun k_ => P0_ k_) (.slice A0 l0.length c0) l0) (hT : r = true) (h : croftlaw36_PairsTells.f k l0 = some r) :
    Calls Try.prog 5 #[.slice A0 l0.length c0] w fun e w' => e = .returned (.bool r) ∧ Below w.heap.size w w' := by
  have hu24 := Try.underlying24
  have HT := Aside0.mk hT
  clear hT
  have HO0 := Aside0.mk (show Kd.V k24 24 w w.heap.size (fun k_ => (P0_ k_ ∨ w.heap.size ≤ k_)) (.slice A0 l0.length c0) l0 from Kd.V_mono hs0 (fun k_ hk => .inl hk))
  have HB := Aside0.mk (Below.refl w.heap.size w)
  have H : ((croftlaw36_alive.f k).bind fun t201 => (if t201 = true then (if (l0.length : Int) > 25 then (if 25 ≤ (l0.length : Int) then (croftlaw36_PairsTells.j0 k (l0.take 25)) else (none)) else (croftlaw36_PairsTells.j0 k l0)) else (some false))) = some r := h
  clear h
  replace H := Option.bind_eq_some_iff.mp H
  obtain ⟨t201, A20, H⟩ := H
  replace H : (if t201 = true then (if (l0.length : Int) > 25 then (if 25 ≤ (l0.length : Int) then (croftlaw36_PairsTells.j0 k (l0.take 25)) else (none)) else (croftlaw36_PairsTells.j0 k l0)) else (some false)) = some r := H
  have A2 := Aside0.mk A20
  clear A20
  by_cases c3 : t201 = true
  · subst c3
    have H1 : (if (l0.length : Int) > 25 then (if 25 ≤ (l0.length : Int) then (croftlaw36_PairsTells.j0 k (l0.take 25)) else (none)) else (croftlaw36_PairsTells.j0 k l0)) = some r := by rw [if_pos rfl] at H; exact H
    clear H
    have H := H1
    clear H1
    have HC4 := Aside0.mk H
    clear H
    go_enter Try.func5, Try.ntmps5
    go_upto_if 23 with (first | ((with_reducible refine gate_callee (f := 19) rfl ?_); refine goesL_ (some 19) rfl rfl Try.func19 (by kernel_rfl) rfl #[] rfl (by (try simp only [List.map_toArray, List.map_cons, List.map_nil]); first | done | rfl | (simp only [List.length_drop, List.length_take]; rfl)) ?_; (with_reducible refine (croftlaw36_alive.calls k  true _ A2.out).mono ?_); rintro e w5 ⟨rfl, hb⟩; refine ⟨_, rfl, ?_⟩; have n0_ := Aside0.mk (Kd.V_below (by (with_reducible repeat (first | apply Kd.V_alloc | apply Kd.V_drewN | apply Kd.V_drew)); exact HO0.out) hb); have n1_ := Aside0.mk (below_step (by repeat (first | (with_reducible first | exact HB.out | apply below_alloc | apply pw_below_drewN | apply below_drew1) | exact HB.out)) hb); clear HO0; clear HB; have HO0 := n0_; have HB := n1_; clear n0_ n1_; (try clear hb); (try clear hb2); (try clear hk); (try clear hi)))
    (try simp only [Act.put, List.setIfInBounds_toArray, List.set_cons_zero, List.set_cons_succ])
    go_cut [0] (fun v0 wc => ∃ (kq : Nat) (x0_3 : List (S24)), Aside0 (croftlaw36_PairsTells.j0 kq x0_3 = some r) ∧ Aside0 (kq ≤ k) ∧ Aside0 (Kd.V k24 24 wc w.heap.size (fun k_ => (P0_ k_ ∨ w.heap.size ≤ k_)) v0 x0_3) ∧ Aside0 (Below w.heap.size w wc))
    case first =>
      have H := HC4.out
      clear HC4
      by_cases c6 : (l0.length : Int) > 25
      · rw [if_pos c6] at H
        have c6b0 : decide (25 < (l0.length : Int)) = true := decide_eq_true c6
        have c6b1 : decide (25 < l0.length) = true := decide_eq_true (by omega)
        clear c6
        (first | rw [c6b0] | (simp only [i64_w, i32_w]; rw [c6b0]) | skip)
        by_cases c7 : 25 ≤ (l0.length : Int)
        · rw [if_pos c7] at H
          have c7b0 := eq_true c7
          have c7b1 : decide (25 ≤ (l0.length : Int)) = true := decide_eq_true c7
          clear c7
          obtain ⟨y202, hy202⟩ : ∃ y_ : List (S24), y_ = (l0.take 25) := ⟨_, rfl⟩
          replace H : (croftlaw36_PairsTells.j0 k y202) = some r := by first | (rw [hy202]; with_reducible exact H) | (have H2_ := (Option.bind_some _ _).symm.trans H; rw [hy202]; with_reducible exact H2_) | (have H2_ := (Option.bind_some _ _).symm.trans H; with_reducible exact H2_) | with_reducible exact H | (rw [hy202]; exact H) | exact H
          have Ny202 := Aside0.mk hy202
          clear hy202
          have H' := Aside0.mk H
          clear H
          have q8 : (25 : Int) ≤ ((l0.length : Int) : Int) := of_decide_eq_true (by first | (with_reducible assumption) | assumption)
          obtain ⟨i08, hi08, _, hsz8, _⟩ := info_parts info24
          have hroom8 : l0.length ≤ c0 := (Kd.V_reads' HO0.out).2.1
          have hC8 : Kd.F k24 _ _ A0 l0.length l0 := (Kd.V_at (base := w.heap.size) HO0.out).2.2
          have hcut8 := cut_to (P := Try.prog) 27 24 .i64 Try.underlying27 hi08 A0 l0.length c0 25 (by omega) q8 hroom8
          have hr8 := Kd.F_take (m := 25) hC8 (by omega)
          have hy8 : y202.length = (25 : Int).toNat := (by rw [Ny202.out, List.length_take]; omega)
          rw [← Ny202.out] at hr8
          rw [← hy8] at hcut8
          have HO206 := Aside0.mk (show Kd.V k24 24 _ w.heap.size _ (.slice A0 y202.length c0) y202 from Kd.V_mk (by omega) hr8)
          have HC206 := Aside0.mk (show y202.length ≤ c0 from by omega)
          clear hr8 hC8 hroom8 hi08 hsz8
          have KY8 := Aside0.mk hy8
          clear hy8
          replace q8 := eq_true q8
          go_wp2
          go_meet
          case rel => exact ⟨_, (y202), H', ⟨by first | omega | exact Nat.le_refl _⟩, ⟨by (with_reducible repeat (first | apply Kd.V_alloc | apply Kd.V_drewN | apply Kd.V_drew)); exact HO206.out⟩, ⟨by repeat (first | (with_reducible first | exact HB.out | apply below_alloc | apply pw_below_drewN | apply below_drew1) | exact HB.out)⟩⟩
        · rw [if_neg c7] at H
          exact absurd H (by simp)
      · rw [if_neg c6] at H
        have c6b0 : decide (25 < (l0.length : Int)) = false := decide_eq_false c6
        have c6b1 : decide (25 < l0.length) = false := decide_eq_false (by omega)
        clear c6
        (first | rw [c6b0] | (simp only [i64_w, i32_w]; rw [c6b0]) | skip)
        have H' := Aside0.mk H
        clear H
        go_wp2
        go_meet
        case rel => exact ⟨_, (l0), H', ⟨by first | omega | exact Nat.le_refl _⟩, ⟨by (with_reducible repeat (first | apply Kd.V_alloc | apply Kd.V_drewN | apply Kd.V_drew)); exact HO0.out⟩, ⟨by repeat (first | (with_reducible first | exact HB.out | apply below_alloc | apply pw_below_drewN | apply below_drew1) | exact HB.out)⟩⟩
    case rest =>
      clear HC4
      try clear c1
      try clear p2
      try clear c3
      try clear c5
      try clear c6
      try clear c6b0
      try clear c6b1
      try clear c7
      try clear c7b0
      try clear c7b1
      try clear q8
      try clear q8
      obtain ⟨kq, x0_3, HA, HJ3, HO_0, HB⟩ := hcut
      cases kq with
      | zero => exact absurd HA.out (by simp [croftlaw36_PairsTells.j0])
      | succ kj3 =>
        have H := HA.out
        clear HA
        simp only [croftlaw36_PairsTells.j0] at H
        have H' := Aside0.mk H
        clear H
        go_wp2_with (first | ((with_reducible refine gate_dst (N := 4) rfl ?_); refine box_event ?hg (N := 4) ?hd (cs := #[.int .i64 0, .int .u32 0, .int .u32 0, .string (⟨#[]⟩ : ByteArray)]) (t := 24) ?hr ?_; (case hd => rfl); (case hg => rfl); (case hr => first | (go_simp; done) | (go_simp; rfl)); intro gb207 hg w9 hbox hb; have n0_ := Aside0.mk (Kd.V_below (Kd.V_elderB (by (with_reducible repeat (first | apply Kd.V_alloc | apply Kd.V_drewN | apply Kd.V_drew)); exact HO_0.out) gb207 (Nat.le_of_eq hg.symm)) hb); have n1_ := Aside0.mk (below_step (by repeat (first | (with_reducible first | exact HB.out | apply below_alloc | apply pw_below_drewN | apply below_drew1) | exact HB.out)) hb); have n2_ := Aside0.mk (hbox); have n3_ := Aside0.mk ((by rw [hg]; exact (below_size (by repeat (first | (with_reducible first | exact HB.out | apply below_alloc | apply pw_below_drewN | apply below_drew1) | exact HB.out))) : w.heap.size ≤ gb207)); have n4_ := Aside0.mk ((by rw [hg]; exact (below_size (by repeat (first | (with_reducible first | exact HB.out | apply below_alloc | apply pw_below_drewN | apply below_drew1) | exact HB.out))) : w.heap.size ≤ gb207)); clear HO_0; clear HB; have HO_0 := n0_; have HB := n1_; have BK207 := n2_; have GW207 := n3_; have GE207 := n4_; clear n0_ n1_ n2_ n3_ n4_; clear hb hbox hg) | ((with_reducible refine gate_dst (N := 5) rfl ?_); refine box_event ?hg (N := 5) ?hd (cs := #[.int .i64 0, .int .u32 0, .int .u32 0, .string (⟨#[]⟩ : ByteArray)]) (t := 24) ?hr ?_; (case hd => rfl); (case hg => rfl); (case hr => first | (go_simp; done) | (go_simp; rfl)); intro gb208 hg w10 hbox hb; have n0_ := Aside0.mk (Kd.V_below (Kd.V_elderB (by (with_reducible repeat (first | apply Kd.V_alloc | apply Kd.V_drewN | apply Kd.V_drew)); exact HO_0.out) gb208 (Nat.le_of_eq hg.symm)) hb); have n1_ := Aside0.mk (blk_below (g := gb207) (o := .cells #[.int .i64 0, .int .u32 0, .int .u32 0, .string (⟨#[]⟩ : ByteArray)] 24 (0, 0)) (by (with_reducible repeat (first | refine blk_drewN ?_ _ | refine blk_drew ?_ | refine blk_alloc ?_ _)); exact BK207.out) hb); have n2_ := Aside0.mk (below_step (by repeat (first | (with_reducible first | exact HB.out | apply below_alloc | apply pw_below_drewN | apply below_drew1 | refine below_set ?_ GE207.out) | exact HB.out)) hb); have n3_ := Aside0.mk (hbox); have n4_ := Aside0.mk ((by rw [hg]; exact (below_size (by repeat (first | (with_reducible first | exact HB.out | apply below_alloc | apply pw_below_drewN | apply below_drew1 | refine below_set ?_ GE207.out) | exact HB.out))) : w.heap.size ≤ gb208)); have n5_ := Aside0.mk ((by rw [hg]; exact (below_size (by repeat (first | (with_reducible first | exact HB.out | apply below_alloc | apply pw_below_drewN | apply below_drew1 | refine below_set ?_ GE207.out) | exact HB.out))) : w.heap.size ≤ gb208)); have n6_ := Aside0.mk ((by rw [hg]; exact Nat.ne_of_lt (blk_lt (g := gb207) (o := .cells #[.int .i64 0, .int .u32 0, .int .u32 0, .string (⟨#[]⟩ : ByteArray)] 24 (0, 0)) (by (with_reducible repeat (first | refine blk_drewN ?_ _ | refine blk_drew ?_ | refine blk_alloc ?_ _)); exact BK207.out)) : gb207 ≠ gb208)); have n7_ := Aside0.mk ((by rw [hg]; exact Nat.ne_of_gt (blk_lt (g := gb207) (o := .cells #[.int .i64 0, .int .u32 0, .int .u32 0, .string (⟨#[]⟩ : ByteArray)] 24 (0, 0)) (by (with_reducible repeat (first | refine blk_drewN ?_ _ | refine blk_drew ?_ | refine blk_alloc ?_ _)); exact BK207.out)) : gb208 ≠ gb207)); clear HO_0; clear BK207; clear HB; have HO_0 := n0_; have BK207 := n1_; have HB := n2_; have BK208 := n3_; have GW208 := n4_; have GE208 := n5_; have NB207_208 := n6_; have NB208_207 := n7_; clear n0_ n1_ n2_ n3_ n4_ n5_ n6_ n7_; clear hb hbox hg))
        go_loopg [3, 6, 7, 8, 9] kj3 (fun kq v3 v6 v7 v8 v9 w' => ∃ (x3_2 : List Int) (x6_2 : Int) (x7_2 : Int) (x8_2 : Bool) (x9_2 : Int) (x208000_2 : Int) (x208001_2 : Int) (x208002_2 : Int) (x208003_2 : ByteArray) (x209000_2 : Int) (x209001_2 : Int) (x209002_2 : Int) (x209003_2 : ByteArray), v6 = .int .u64 x6_2 ∧ v7 = .int .u64 x7_2 ∧ v8 = .bool x8_2 ∧ v9 = .int .i64 x9_2 ∧ Aside0 (croftlaw36_PairsTells.l0 kq x0_3 x3_2 x6_2 x7_2 x8_2 x9_2 x208000_2 x208001_2 x208002_2 x208003_2 x209000_2 x209001_2 x209002_2 x209003_2 = some r) ∧ Aside0 (kq ≤ kj3) ∧ Aside0 (Kd.V k24 24 w' w.heap.size (fun k_ => (P0_ k_ ∨ w.heap.size ≤ k_) ∧ some k_ ≠ (v3 : Value).ownBlock ∧ k_ ≠ gb207 ∧ k_ ≠ gb208) u0 x0_3) ∧ Aside0 (Kd.R (Kd.int .i64) 3 w' w.heap.size (fun k_ => (w.heap.size ≤ k_)) v3 x3_2) ∧ Aside0 (w'.heap[gb207]? = some (.cells #[.int .i64 x208000_2, .int .u32 x208001_2, .int .u32 x208002_2, .string x208003_2] 24 (0, 0))) ∧ Aside0 (w'.heap[gb208]? = some (.cells #[.int .i64 x209000_2, .int .u32 x209001_2, .int .u32 x209002_2, .string x209003_2] 24 (0, 0))) ∧ Aside0 (Below w.heap.size w w'))
        case atStart => exact ⟨(([] : List Int)), (0), (0), (false), (0), (0), (0), (0), ((⟨#[]⟩ : ByteArray)), (0), (0), (0), ((⟨#[]⟩ : ByteArray)), (by first | rfl | (simp; done) | (simp [*]; done)), (by first | rfl | (simp; done) | (simp [*]; done)), (by first | rfl | (simp; done) | (simp [*]; done)), (by first | rfl | (simp; done) | (simp [*]; done)), H', ⟨Nat.le_refl _⟩, ⟨by (with_reducible repeat (first | apply Kd.V_alloc | apply Kd.V_drewN | apply Kd.V_drew)); exact Kd.V_mono HO_0.out (fun _ hk => ⟨hk.1.1, ⟨(by simp [Value.ownBlock]), ⟨hk.1.2, hk.2⟩⟩⟩)⟩, ⟨by first | exact Kd.R_nil _ _ _ _ _ | exact Kd.N_nil _ _ _ _ _ | exact Kd.V_nil _ _ _ _ _ | exact Kd.Q_nil _ _ _ _ _ | exact Kd.S_nil _ _ _ _ _⟩, ⟨by (with_reducible repeat (first | refine blk_drewN ?_ _ | refine blk_drew ?_ | refine blk_alloc ?_ _)); exact BK207.out⟩, ⟨by (with_reducible repeat (first | refine blk_drewN ?_ _ | refine blk_drew ?_ | refine blk_alloc ?_ _)); exact BK208.out⟩, ⟨by repeat (first | (with_reducible first | exact HB.out | apply below_alloc | apply pw_below_drewN | apply below_drew1 | refine below_set ?_ GE207.out | refine below_set ?_ GE208.out) | exact HB.out)⟩⟩
        case round =>
          clear H'
          try clear c1
          try clear p2
          try clear c3
          try clear c5
          try clear c6
          try clear c6b0
          try clear c6b1
          try clear c7
          try clear c7b0
          try clear c7b1
          try clear q8
          try clear p2
          try clear q8
          obtain ⟨x3_2, x6_2, x7_2, x8_2, x9_2, x208000_2, x208001_2, x208002_2, x208003_2, x209000_2, x209001_2, x209002_2, x209003_2, rfl, rfl, rfl, rfl, HA, HK2, HO_0, HO_3, BK207, BK208, HB⟩ := hrel
          cases gk with
          | zero => exact absurd HA.out (by simp [croftlaw36_PairsTells.l0])
          | succ k2 =>
            have H := HA.out
            clear HA
            simp only [croftlaw36_PairsTells.l0] at H
            by_cases c11 : x9_2 < (x0_3.length : Int)
            · rw [if_pos c11] at H
              have c11b0 : decide (x9_2 < (x0_3.length : Int)) = true := decide_eq_true c11
              clear c11
              have H' := Aside0.mk H
              clear H
              obtain ⟨Ao12, co12, eo12⟩ := Kd.V_slice HO_0.out
              subst eo12
              go_wp2
              go_loopg [6, 7, 8, 10, 11, 12, 13] k2 (fun kq v6 v7 v8 v10 v11 v12 v13 w' => ∃ (x6_3 : Int) (x7_3 : Int) (x8_3 : Bool) (x10_3 : Int) (x11_3 : Int) (x12_3 : Int) (x13_3 : Int) (x208000_3 : Int) (x208001_3 : Int) (x208002_3 : Int) (x208003_3 : ByteArray) (x209000_3 : Int) (x209001_3 : Int) (x209002_3 : Int) (x209003_3 : ByteArray), v6 = .int .u64 x6_3 ∧ v7 = .int .u64 x7_3 ∧ v8 = .bool x8_3 ∧ v10 = .int .i64 x10_3 ∧ v11 = .int .u64 x11_3 ∧ v12 = .int .u64 x12_3 ∧ v13 = .int .i64 x13_3 ∧ Aside0 (croftlaw36_PairsTells.l1 kq x0_3 x3_2 x6_3 x7_3 x8_3 x9_2 x10_3 x11_3 x12_3 x13_3 x208000_3 x208001_3 x208002_3 x208003_3 x209000_3 x209001_3 x209002_3 x209003_3 = some r) ∧ Aside0 (kq ≤ k2) ∧ Aside0 (Kd.V k24 24 w' w.heap.size (fun k_ => (P0_ k_ ∨ w.heap.size ≤ k_) ∧ some k_ ≠ (u3 : Value).ownBlock ∧ k_ ≠ gb207 ∧ k_ ≠ gb208) (.slice Ao12 x0_3.length co12) x0_3) ∧ Aside0 (Kd.R (Kd.int .i64) 3 w' w.heap.size (fun k_ => (w.heap.size ≤ k_)) u3 x3_2) ∧ Aside0 (w'.heap[gb207]? = some (.cells #[.int .i64 x208000_3, .int .u32 x208001_3, .int .u32 x208002_3, .string x208003_3] 24 (0, 0))) ∧ Aside0 (w'.heap[gb208]? = some (.cells #[.int .i64 x209000_3, .int .u32 x209001_3, .int .u32 x209002_3, .string x209003_3] 24 (0, 0))) ∧ Aside0 (Below w.heap.size w w'))
              case atStart => exact ⟨(x6_2), (x7_2), (x8_2), ((-1)), (0), (0), (0), (x208000_2), (x208001_2), (x208002_2), (x208003_2), (x209000_2), (x209001_2), (x209002_2), (x209003_2), (by first | rfl | (simp; done) | (simp [*]; done)), (by first | rfl | (simp; done) | (simp [*]; done)), (by first | rfl | (simp; done) | (simp [*]; done)), (by first | rfl | (simp; done) | (simp [*]; done)), (by first | rfl | (simp; done) | (simp [*]; done)), (by first | rfl | (simp; done) | (simp [*]; done)), (by first | rfl | (simp; done) | (simp [*]; done)), H', ⟨Nat.le_refl _⟩, ⟨by (with_reducible repeat (first | apply Kd.V_alloc | apply Kd.V_drewN | apply Kd.V_drew)); exact HO_0.out⟩, ⟨by (with_reducible repeat (first | apply Kd.R_alloc | apply Kd.R_drewN | apply Kd.R_drew)); exact HO_3.out⟩, ⟨by (with_reducible repeat (first | refine blk_drewN ?_ _ | refine blk_drew ?_ | refine blk_alloc ?_ _)); exact BK207.out⟩, ⟨by (with_reducible repeat (first | refine blk_drewN ?_ _ | refine blk_drew ?_ | refine blk_alloc ?_ _)); exact BK208.out⟩, ⟨by repeat (first | (with_reducible first | exact HB.out | apply below_alloc | apply pw_below_drewN | apply below_drew1 | refine below_set ?_ GE207.out | refine below_set ?_ GE208.out) | exact HB.out)⟩⟩
              case round =>
                clear H'
                try clear c1
                try clear p2
                try clear c3
                try clear c5
                try clear c6
                try clear c6b0
                try clear c6b1
                try clear c7
                try clear c7b0
                try clear c7b1
                try clear q8
                try clear c11
                try clear c11b0
                try clear p2
                try clear q8
                obtain ⟨x6_3, x7_3, x8_3, x10_3, x11_3, x12_3, x13_3, x208000_3, x208001_3, x208002_3, x208003_3, x209000_3, x209001_3, x209002_3, x209003_3, rfl, rfl, rfl, rfl, rfl, rfl, rfl, HA, HK3, HO_0, HO_3, BK207, BK208, HB⟩ := hrel
                cases gk with
                | zero => exact absurd HA.out (by simp [croftlaw36_PairsTells.l1])
                | succ k3 =>
                  have H := HA.out
                  clear HA
                  simp only [croftlaw36_PairsTells.l1] at H
                  by_cases c13 : x13_3 < (x0_3.length : Int)
                  · rw [if_pos c13] at H
                    have c13b0 : decide (x13_3 < (x0_3.length : Int)) = true := decide_eq_true c13
                    clear c13
                    by_cases c14 : 0 ≤ x9_2
                    · rw [if_pos c14] at H
                      have c14b0 : decide (0 ≤ x9_2) = true := decide_eq_true c14
                      clear c14
                      by_cases c15 : x9_2 < (x0_3.length : Int)
                      · rw [if_pos c15] at H
                        have c15b0 : decide (x9_2 < (x0_3.length : Int)) = true := decide_eq_true c15
                        clear c15
                        by_cases c16 : 0 ≤ x13_3
                        · rw [if_pos c16] at H
                          have c16b0 : decide (0 ≤ x13_3) = true := decide_eq_true c16
                          clear c16
                          replace H := Option.bind_eq_some_iff.mp H
                          obtain ⟨⟨t216, t217⟩, A170, H⟩ := H
                          replace H : (if x13_3 = x9_2 then (croftlaw36_PairsTells.j3 k3 x0_3 x3_2 x6_3 x7_3 x8_3 x9_2 x10_3 x11_3 x12_3 x13_3 t216 t217 false x208000_3 x208001_3 x208002_3 x208003_3 x209000_3 x209001_3 x209002_3 x209003_3) else (if x10_3 < 0 then (croftlaw36_PairsTells.j3 k3 x0_3 x3_2 x6_3 x7_3 x8_3 x9_2 x10_3 x11_3 x12_3 x13_3 t216 t217 true x208000_3 x208001_3 x208002_3 x208003_3 x209000_3 x209001_3 x209002_3 x209003_3) else ((croftref03_Less.f t216 t217 x11_3 x12_3).bind fun t218 => (croftlaw36_PairsTells.j3 k3 x0_3 x3_2 x6_3 x7_3 x8_3 x9_2 x10_3 x11_3 x12_3 x13_3 t216 t217 t218 x208000_3 x208001_3 x208002_3 x208003_3 x209000_3 x209001_3 x209002_3 x209003_3)))) = some r := H
                          have A17 := Aside0.mk A170
                          clear A170
                          have HC18 := Aside0.mk H
                          clear H
                          try go_wp2
                          have n0_ := Aside0.mk (Kd.V_drew HO_0.out)
                          have n1_ := Aside0.mk (Kd.R_drew HO_3.out)
                          have n2_ := Aside0.mk (blk_drew BK207.out)
                          have n3_ := Aside0.mk (blk_drew BK208.out)
                          have n4_ := Aside0.mk (below_drew1 HB.out)
                          clear HO_0
                          clear HO_3
                          clear BK207
                          clear BK208
                          clear HB
                          have HO_0 := n0_
                          have HO_3 := n1_
                          have BK207 := n2_
                          have BK208 := n3_
                          have HB := n4_
                          clear n0_ n1_ n2_ n3_ n4_
                          have p212 : 0 ≤ (x9_2 : Int) := of_decide_eq_true (by first | (with_reducible assumption) | assumption)
                          have q212 : x9_2 < (x0_3.length : Int) := of_decide_eq_true (by first | (with_reducible assumption) | assumption)
                          obtain ⟨ad212, e212, hx212_0, hx212_1, hx212_2, hx212_3⟩ := at_T24 (Kd.V_reads' HO_0.out).2.2 x9_2 p212 q212
                          cases e212
                          replace p212 := eq_true p212
                          replace q212 := eq_true q212
                          have p213 : 0 ≤ (x9_2 : Int) := of_decide_eq_true (by first | (with_reducible assumption) | assumption)
                          have q213 : x9_2 < (x0_3.length : Int) := of_decide_eq_true (by first | (with_reducible assumption) | assumption)
                          obtain ⟨ad213, e213, hx213_0, hx213_1, hx213_2, hx213_3⟩ := at_T24 (Kd.V_reads' HO_0.out).2.2 x9_2 p213 q213
                          obtain rfl : ad212 = ad213 := (by injection e213)
                          replace p213 := eq_true p213
                          replace q213 := eq_true q213
                          have p214 : 0 ≤ (x13_3 : Int) := of_decide_eq_true (by first | (with_reducible assumption) | assumption)
                          have q214 : x13_3 < (x0_3.length : Int) := of_decide_eq_true (by first | (with_reducible assumption) | assumption)
                          obtain ⟨ad214, e214, hx214_0, hx214_1, hx214_2, hx214_3⟩ := at_T24 (Kd.V_reads' HO_0.out).2.2 x13_3 p214 q214
                          obtain rfl : ad212 = ad214 := (by injection e214)
                          replace p214 := eq_true p214
                          replace q214 := eq_true q214
                          have p215 : 0 ≤ (x13_3 : Int) := of_decide_eq_true (by first | (with_reducible assumption) | assumption)
                          have q215 : x13_3 < (x0_3.length : Int) := of_decide_eq_true (by first | (with_reducible assumption) | assumption)
                          obtain ⟨ad215, e215, hx215_0, hx215_1, hx215_2, hx215_3⟩ := at_T24 (Kd.V_reads' HO_0.out).2.2 x13_3 p215 q215
                          obtain rfl : ad212 = ad215 := (by injection e215)
                          replace p215 := eq_true p215
                          replace q215 := eq_true q215
                          refine start_ (n := 26) (S := fun w' => w'.cell? (ad212.add ((x9_2).toNat * 4)) = some (.int .i64 ((rd_T24 x0_3 x9_2).f0)) ∧ w'.cell? ⟨(ad212.add ((x9_2).toNat * 4)).block, (ad212.add ((x9_2).toNat * 4)).off + 1, none⟩ = some (.int .u32 ((rd_T24 x0_3 x9_2).f1)) ∧ w'.cell? ⟨(ad212.add ((x9_2).toNat * 4)).block, (ad212.add ((x9_2).toNat * 4)).off + 2, none⟩ = some (.int .u32 ((rd_T24 x0_3 x9_2).f2)) ∧ w'.cell? ⟨(ad212.add ((x9_2).toNat * 4)).block, (ad212.add ((x9_2).toNat * 4)).off + 3, none⟩ = some (.string ((rd_T24 x0_3 x9_2).f3)) ∧ w'.cell? (ad212.add ((x9_2).toNat * 4)) = some (.int .i64 ((rd_T24 x0_3 x9_2).f0)) ∧ w'.cell? ⟨(ad212.add ((x9_2).toNat * 4)).block, (ad212.add ((x9_2).toNat * 4)).off + 1, none⟩ = some (.int .u32 ((rd_T24 x0_3 x9_2).f1)) ∧ w'.cell? ⟨(ad212.add ((x9_2).toNat * 4)).block, (ad212.add ((x9_2).toNat * 4)).off + 2, none⟩ = some (.int .u32 ((rd_T24 x0_3 x9_2).f2)) ∧ w'.cell? ⟨(ad212.add ((x9_2).toNat * 4)).block, (ad212.add ((x9_2).toNat * 4)).off + 3, none⟩ = some (.string ((rd_T24 x0_3 x9_2).f3)) ∧ w'.cell? (ad212.add ((x13_3).toNat * 4)) = some (.int .i64 ((rd_T24 x0_3 x13_3).f0)) ∧ w'.cell? ⟨(ad212.add ((x13_3).toNat * 4)).block, (ad212.add ((x13_3).toNat * 4)).off + 1, none⟩ = some (.int .u32 ((rd_T24 x0_3 x13_3).f1)) ∧ w'.cell? ⟨(ad212.add ((x13_3).toNat * 4)).block, (ad212.add ((x13_3).toNat * 4)).off + 2, none⟩ = some (.int .u32 ((rd_T24 x0_3 x13_3).f2)) ∧ w'.cell? ⟨(ad212.add ((x13_3).toNat * 4)).block, (ad212.add ((x13_3).toNat * 4)).off + 3, none⟩ = some (.string ((rd_T24 x0_3 x13_3).f3)) ∧ w'.cell? (ad212.add ((x13_3).toNat * 4)) = some (.int .i64 ((rd_T24 x0_3 x13_3).f0)) ∧ w'.cell? ⟨(ad212.add ((x13_3).toNat * 4)).block, (ad212.add ((x13_3).toNat * 4)).off + 1, none⟩ = some (.int .u32 ((rd_T24 x0_3 x13_3).f1)) ∧ w'.cell? ⟨(ad212.add ((x13_3).toNat * 4)).block, (ad212.add ((x13_3).toNat * 4)).off + 2, none⟩ = some (.int .u32 ((rd_T24 x0_3 x13_3).f2)) ∧ w'.cell? ⟨(ad212.add ((x13_3).toNat * 4)).block, (ad212.add ((x13_3).toNat * 4)).off + 3, none⟩ = some (.string ((rd_T24 x0_3 x13_3).f3))) (ds := []) #[false, false, false, false, false, false, false, false, false, false, false, false, false, false, false, false, false, false, false, false, false, false, false, false, false, false] (by kernel_rfl) rfl rfl ⟨hx212_0, hx212_1, hx212_2, hx212_3, hx213_0, hx213_1, hx213_2, hx213_3, hx214_0, hx214_1, hx214_2, hx214_3, hx215_0, hx215_1, hx215_2, hx215_3⟩ (fun hHeld => ?_); refine with_tabW croftlaw36_PairsTells.tab17 croftlaw36_PairsTells.bits17 (fun HT_ HW_ => ?_)
                          generalize wr.drew = w19 at HO_0 HO_3 BK207 BK208 HB hx212_0 hx212_1 hx212_2 hx212_3 hx213_0 hx213_1 hx213_2 hx213_3 hx214_0 hx214_1 hx214_2 hx214_3 hx215_0 hx215_1 hx215_2 hx215_3 hHeld ⊢
                          refine pure_ (i := 0) (N := some 39) (v := ?_) (a' := ?_) #[true, false, false, false, false, false, false, false, false, false, false, false, false, false, false, false, false, false, false, false, false, false, false, false, false, false] rfl rfl (any_of HT_.out (by kernel_rfl)) (fun _ _ _ h => h) (Or.inl ⟨by rfl, ?_⟩) ?_ ?_
                          rotate_left
                          · intro w'
                            go_simp
                            with_reducible rfl
                          rotate_left
                          · simp only [Act.put, List.setIfInBounds_toArray, List.set_cons_zero, List.set_cons_succ, i64_w, i32_w]
                            rfl
                          refine pure_ (i := 1) (N := some 40) (v := ?_) (a' := ?_) #[true, true, false, false, false, false, false, false, false, false, false, false, false, false, false, false, false, false, false, false, false, false, false, false, false, false] rfl rfl (any_of HT_.out (by kernel_rfl)) (fun _ _ _ h => h) (Or.inl ⟨by rfl, ?_⟩) ?_ ?_
                          rotate_left
                          · intro w'
                            go_simp
                            with_reducible rfl
                          rotate_left
                          · simp only [Act.put, List.setIfInBounds_toArray, List.set_cons_zero, List.set_cons_succ, i64_w, i32_w]
                            rfl
                          refine pure_ (i := 2) (N := some 41) (v := ?_) (a' := ?_) #[true, true, true, false, false, false, false, false, false, false, false, false, false, false, false, false, false, false, false, false, false, false, false, false, false, false] rfl rfl (any_of HT_.out (by kernel_rfl)) (fun _ _ _ h => h) (Or.inl ⟨by rfl, ?_⟩) ?_ ?_
                          rotate_left
                          · intro w'
                            go_simp
                            with_reducible rfl
                          rotate_left
                          · simp only [Act.put, List.setIfInBounds_toArray, List.set_cons_zero, List.set_cons_succ, i64_w, i32_w]
                            rfl
                          refine pure_ (i := 3) (N := some 42) (v := ?_) (a' := ?_) #[true, true, true, true, false, false, false, false, false, false, false, false, false, false, false, false, false, false, false, false, false, false, false, false, false, false] rfl rfl (any_of HT_.out (by kernel_rfl)) (fun _ _ _ h => h) (Or.inl ⟨by rfl, ?_⟩) ?_ ?_
                          rotate_left
                          · intro w'
                            go_simp
                            with_reducible rfl
                          rotate_left
                          · simp only [Act.put, List.setIfInBounds_toArray, List.set_cons_zero, List.set_cons_succ, i64_w, i32_w]
                            rfl
                          refine pure_ (i := 5) (N := some 44) (v := ?_) (a' := ?_) #[true, true, true, true, false, true, false, false, false, false, false, false, false, false, false, false, false, false, false, false, false, false, false, false, false, false] rfl rfl (any_of HT_.out (by kernel_rfl)) (fun _ _ _ h => h) (Or.inl ⟨by rfl, ?_⟩) ?_ ?_
                          rotate_left
                          · intro w'
                            go_simp
                            with_reducible rfl
                          rotate_left
                          · simp only [Act.put, List.setIfInBounds_toArray, List.set_cons_zero, List.set_cons_succ, i64_w, i32_w]
                            rfl
                          refine pure_ (i := 6) (N := some 45) (v := ?_) (a' := ?_) #[true, true, true, true, false, true, true, false, false, false, false, false, false, false, false, false, false, false, false, false, false, false, false, false, false, false] rfl rfl (any_of HT_.out (by kernel_rfl)) (fun _ _ _ h => h) (Or.inl ⟨by rfl, ?_⟩) ?_ ?_
                          rotate_left
                          · intro w'
                            go_simp
                            with_reducible rfl
                          rotate_left
                          · simp only [Act.put, List.setIfInBounds_toArray, List.set_cons_zero, List.set_cons_succ, i64_w, i32_w]
                            rfl
                          refine pure_ (i := 7) (N := some 46) (v := ?_) (a' := ?_) #[true, true, true, true, false, true, true, true, false, false, false, false, false, false, false, false, false, false, false, false, false, false, false, false, false, false] rfl rfl (any_of HT_.out (by kernel_rfl)) (fun _ _ _ h => h) (Or.inl ⟨by rfl, ?_⟩) ?_ ?_
                          rotate_left
                          · intro w'
                            go_simp
                            with_reducible rfl
                          rotate_left
                          · simp only [Act.put, List.setIfInBounds_toArray, List.set_cons_zero, List.set_cons_succ, i64_w, i32_w]
                            rfl
                          refine pure_ (i := 8) (N := some 47) (v := ?_) (a' := ?_) #[true, true, true, true, false, true, true, true, true, false, false, false, false, false, false, false, false, false, false, false, false, false, false, false, false, false] rfl rfl (any_of HT_.out (by kernel_rfl)) (fun _ _ _ h => h) (Or.inl ⟨by rfl, ?_⟩) ?_ ?_
                          rotate_left
                          · intro w'
                            go_simp
                            with_reducible rfl
                          rotate_left
                          · simp only [Act.put, List.setIfInBounds_toArray, List.set_cons_zero, List.set_cons_succ, i64_w, i32_w]
                            rfl
                          refine pure_ (i := 10) (N := some 49) (v := ?_) (a' := ?_) #[true, true, true, true, false, true, true, true, true, false, true, false, false, false, false, false, false, false, false, false, false, false, false, false, false, false] rfl rfl (any_of HT_.out (by kernel_rfl)) (fun _ _ _ h => h) (Or.inl ⟨by rfl, ?_⟩) ?_ ?_
                          rotate_left
                          · intro w'
                            go_simp
                            with_reducible rfl
                          rotate_left
                          · simp only [Act.put, List.setIfInBounds_toArray, List.set_cons_zero, List.set_cons_succ, i64_w, i32_w]
                            rfl
                          refine pure_ (i := 11) (N := some 50) (v := ?_) (a' := ?_) #[true, true, true, true, false, true, true, true, true, false, true, true, false, false, false, false, false, false, false, false, false, false, false, false, false, false] rfl rfl (any_of HT_.out (by kernel_rfl)) (fun _ _ _ h => h) (Or.inl ⟨by rfl, ?_⟩) ?_ ?_
                          rotate_left
                          · intro w'
                            go_simp
                            with_reducible rfl
                          rotate_left
                          · simp only [Act.put, List.setIfInBounds_toArray, List.set_cons_zero, List.set_cons_succ, i64_w, i32_w]
                            rfl
                          refine pure_ (i := 12) (N := some 51) (v := ?_) (a' := ?_) #[true, true, true, true, false, true, true, true, true, false, true, true, true, false, false, false, false, false, false, false, false, false, false, false, false, false] rfl rfl (any_of HT_.out (by kernel_rfl)) (fun _ _ _ h => h) (Or.inl ⟨by rfl, ?_⟩) ?_ ?_
                          rotate_left
                          · intro w'
                            go_simp
                            with_reducible rfl
                          rotate_left
                          · simp only [Act.put, List.setIfInBounds_toArray, List.set_cons_zero, List.set_cons_succ, i64_w, i32_w]
                            rfl
                          refine pure_ (i := 13) (N := some 52) (v := ?_) (a' := ?_) #[true, true, true, true, false, true, true, true, true, false, true, true, true, true, false, false, false, false, false, false, false, false, false, false, false, false] rfl rfl (any_of HT_.out (by kernel_rfl)) (fun _ _ _ h => h) (Or.inl ⟨by rfl, ?_⟩) ?_ ?_
                          rotate_left
                          · intro w'
                            go_simp
                            with_reducible rfl
                          rotate_left
                          · simp only [Act.put, List.setIfInBounds_toArray, List.set_cons_zero, List.set_cons_succ, i64_w, i32_w]
                            rfl
                          refine pure_ (i := 15) (N := some 54) (v := ?_) (a' := ?_) #[true, true, true, true, false, true, true, true, true, false, true, true, true, true, false, true, false, false, false, false, false, false, false, false, false, false] rfl rfl (any_of HT_.out (by kernel_rfl)) (fun _ _ _ h => h) (Or.inl ⟨by rfl, ?_⟩) ?_ ?_
                          rotate_left
                          · intro w'
                            go_simp
                            with_reducible rfl
                          rotate_left
                          · simp only [Act.put, List.setIfInBounds_toArray, List.set_cons_zero, List.set_cons_succ, i64_w, i32_w]
                            rfl
                          refine pure_ (i := 16) (N := some 55) (v := ?_) (a' := ?_) #[true, true, true, true, false, true, true, true, true, false, true, true, true, true, false, true, true, false, false, false, false, false, false, false, false, false] rfl rfl (any_of HT_.out (by kernel_rfl)) (fun _ _ _ h => h) (Or.inl ⟨by rfl, ?_⟩) ?_ ?_
                          rotate_left
                          · intro w'
                            go_simp
                            with_reducible rfl
                          rotate_left
                          · simp only [Act.put, List.setIfInBounds_toArray, List.set_cons_zero, List.set_cons_succ, i64_w, i32_w]
                            rfl
                          refine pure_ (i := 17) (N := some 56) (v := ?_) (a' := ?_) #[true, true, true, true, false, true, true, true, true, false, true, true, true, true, false, true, true, true, false, false, false, false, false, false, false, false] rfl rfl (any_of HT_.out (by kernel_rfl)) (fun _ _ _ h => h) (Or.inl ⟨by rfl, ?_⟩) ?_ ?_
                          rotate_left
                          · intro w'
                            go_simp
                            with_reducible rfl
                          rotate_left
                          · simp only [Act.put, List.setIfInBounds_toArray, List.set_cons_zero, List.set_cons_succ, i64_w, i32_w]
                            rfl
                          refine pure_ (i := 18) (N := some 57) (v := ?_) (a' := ?_) #[true, true, true, true, false, true, true, true, true, false, true, true, true, true, false, true, true, true, true, false, false, false, false, false, false, false] rfl rfl (any_of HT_.out (by kernel_rfl)) (fun _ _ _ h => h) (Or.inl ⟨by rfl, ?_⟩) ?_ ?_
                          rotate_left
                          · intro w'
                            go_simp
                            with_reducible rfl
                          rotate_left
                          · simp only [Act.put, List.setIfInBounds_toArray, List.set_cons_zero, List.set_cons_succ, i64_w, i32_w]
                            rfl
                          refine take_ (i := 4) (N := some 43) (v := ?_) (a' := ?_) #[true, true, true, true, true, true, true, true, true, false, true, true, true, true, false, true, true, true, true, false, false, false, false, false, false, false] rfl rfl (take_ofW HT_.out HW_.out (by kernel_rfl)) (fun _ _ _ h => h) (Or.inl ⟨by rfl, ?_⟩) hHeld ?_ ?_
                          rotate_left
                          · rintro w' ⟨s0, s1, s2, s3, s4, s5, s6, s7, s8, s9, s10, s11, s12, s13, s14, s15⟩
                            go_simp
                            with_reducible rfl
                          rotate_left
                          · simp only [Act.put, List.setIfInBounds_toArray, List.set_cons_zero, List.set_cons_succ, i64_w, i32_w]
                            rfl
                          refine take_ (i := 9) (N := some 48) (v := ?_) (a' := ?_) #[true, true, true, true, true, true, true, true, true, true, true, true, true, true, false, true, true, true, true, false, false, false, false, false, false, false] rfl rfl (take_ofW HT_.out HW_.out (by kernel_rfl)) (fun _ _ _ h => h) (Or.inl ⟨by rfl, ?_⟩) hHeld ?_ ?_
                          rotate_left
                          · rintro w' ⟨s0, s1, s2, s3, s4, s5, s6, s7, s8, s9, s10, s11, s12, s13, s14, s15⟩
                            go_simp
                            with_reducible rfl
                          rotate_left
                          · simp only [Act.put, List.setIfInBounds_toArray, List.set_cons_zero, List.set_cons_succ, i64_w, i32_w]
                            rfl
                          refine take_ (i := 14) (N := some 53) (v := ?_) (a' := ?_) #[true, true, true, true, true, true, true, true, true, true, true, true, true, true, true, true, true, true, true, false, false, false, false, false, false, false] rfl rfl (take_ofW HT_.out HW_.out (by kernel_rfl)) (fun _ _ _ h => h) (Or.inl ⟨by rfl, ?_⟩) hHeld ?_ ?_
                          rotate_left
                          · rintro w' ⟨s0, s1, s2, s3, s4, s5, s6, s7, s8, s9, s10, s11, s12, s13, s14, s15⟩
                            go_simp
                            with_reducible rfl
                          rotate_left
                          · simp only [Act.put, List.setIfInBounds_toArray, List.set_cons_zero, List.set_cons_succ, i64_w, i32_w]
                            rfl
                          refine take_ (i := 19) (N := some 58) (v := ?_) (a' := ?_) #[true, true, true, true, true, true, true, true, true, true, true, true, true, true, true, true, true, true, true, true, false, false, false, false, false, false] rfl rfl (take_ofW HT_.out HW_.out (by kernel_rfl)) (fun _ _ _ h => h) (Or.inl ⟨by rfl, ?_⟩) hHeld ?_ ?_
                          rotate_left
                          · rintro w' ⟨s0, s1, s2, s3, s4, s5, s6, s7, s8, s9, s10, s11, s12, s13, s14, s15⟩
                            go_simp
                            with_reducible rfl
                          rotate_left
                          · simp only [Act.put, List.setIfInBounds_toArray, List.set_cons_zero, List.set_cons_succ, i64_w, i32_w]
                            rfl
                          refine one_ (i := 20) (N := some 59) #[true, true, true, true, true, true, true, true, true, true, true, true, true, true, true, true, true, true, true, true, true, false, false, false, false, false] rfl rfl (one_of HT_.out (by kernel_rfl)) (by decide) (fun K hK => ?_)
                          refine goes_ Try.func20 (by kernel_rfl) rfl #[.int .u32 ((rd_T24 x0_3 x9_2).f1), .int .u32 ((rd_T24 x0_3 x9_2).f2), .int .u32 ((rd_T24 x0_3 x13_3).f1), .int .u32 ((rd_T24 x0_3 x13_3).f2)] (by rfl) rfl rfl (by (try simp only [List.map_toArray, List.map_cons, List.map_nil]); first | done | rfl | (simp only [List.length_drop, List.length_take]; rfl)) ?_
                          with_reducible refine (croftref03_Between.calls ((rd_T24 x0_3 x9_2).f1) ((rd_T24 x0_3 x9_2).f2) ((rd_T24 x0_3 x13_3).f1) ((rd_T24 x0_3 x13_3).f2) t216 t217 _ A17.out).mono ?_
                          rintro e w' ⟨rfl, ⟨nd, rfl⟩⟩
                          refine ⟨_, rfl, ?_⟩
                          refine hK.out _ _ ⟨hHeld.1, hHeld.2.1, hHeld.2.2.1, hHeld.2.2.2.1, hHeld.2.2.2.2.1, hHeld.2.2.2.2.2.1, hHeld.2.2.2.2.2.2.1, hHeld.2.2.2.2.2.2.2.1, hHeld.2.2.2.2.2.2.2.2.1, hHeld.2.2.2.2.2.2.2.2.2.1, hHeld.2.2.2.2.2.2.2.2.2.2.1, hHeld.2.2.2.2.2.2.2.2.2.2.2.1, hHeld.2.2.2.2.2.2.2.2.2.2.2.2.1, hHeld.2.2.2.2.2.2.2.2.2.2.2.2.2.1, hHeld.2.2.2.2.2.2.2.2.2.2.2.2.2.2.1, hHeld.2.2.2.2.2.2.2.2.2.2.2.2.2.2.2⟩ (fun hHeld => ?_)
                          clear hK K
                          refine norm_ (a' := ?_) ?_ ?_
                          rotate_left
                          · show Act.put _ (some 59) _ = _
                            simp only [Act.put, List.setIfInBounds_toArray, List.set_cons_zero, List.set_cons_succ, i64_w, i32_w]
                            rfl
                          refine pure_ (i := 21) (N := some 38) (v := ?_) (a' := ?_) #[true, true, true, true, true, true, true, true, true, true, true, true, true, true, true, true, true, true, true, true, true, true, false, false, false, false] rfl rfl (any_of HT_.out (by kernel_rfl)) (fun _ _ _ h => h) (Or.inl ⟨by rfl, ?_⟩) ?_ ?_
                          rotate_left
                          · intro w'
                            go_simp
                            with_reducible rfl
                          rotate_left
                          · simp only [Act.put, List.setIfInBounds_toArray, List.set_cons_zero, List.set_cons_succ, i64_w, i32_w]
                            rfl
                          refine pure_ (i := 22) (N := some 60) (v := ?_) (a' := ?_) #[true, true, true, true, true, true, true, true, true, true, true, true, true, true, true, true, true, true, true, true, true, true, true, false, false, false] rfl rfl (any_of HT_.out (by kernel_rfl)) (fun _ _ _ h => h) (Or.inl ⟨by rfl, ?_⟩) ?_ ?_
                          rotate_left
                          · intro w'
                            go_simp
                            with_reducible rfl
                          rotate_left
                          · simp only [Act.put, List.setIfInBounds_toArray, List.set_cons_zero, List.set_cons_succ, i64_w, i32_w]
                            rfl
                          refine pure_ (i := 23) (N := some 61) (v := ?_) (a' := ?_) #[true, true, true, true, true, true, true, true, true, true, true, true, true, true, true, true, true, true, true, true, true, true, true, true, false, false] rfl rfl (any_of HT_.out (by kernel_rfl)) (fun _ _ _ h => h) (Or.inl ⟨by rfl, ?_⟩) ?_ ?_
                          rotate_left
                          · intro w'
                            go_simp
                            with_reducible rfl
                          rotate_left
                          · simp only [Act.put, List.setIfInBounds_toArray, List.set_cons_zero, List.set_cons_succ, i64_w, i32_w]
                            rfl
                          refine pure_ (i := 24) (N := some 14) (v := ?_) (a' := ?_) #[true, true, true, true, true, true, true, true, true, true, true, true, true, true, true, true, true, true, true, true, true, true, true, true, true, false] rfl rfl (any_of HT_.out (by kernel_rfl)) (fun _ _ _ h => h) (Or.inl ⟨by rfl, ?_⟩) ?_ ?_
                          rotate_left
                          · intro w'
                            go_simp
                            with_reducible rfl
                          rotate_left
                          · simp only [Act.put, List.setIfInBounds_toArray, List.set_cons_zero, List.set_cons_succ, i64_w, i32_w]
                            rfl
                          refine pure_ (i := 25) (N := some 15) (v := ?_) (a' := ?_) #[true, true, true, true, true, true, true, true, true, true, true, true, true, true, true, true, true, true, true, true, true, true, true, true, true, true] rfl rfl (any_of HT_.out (by kernel_rfl)) (fun _ _ _ h => h) (Or.inl ⟨by rfl, ?_⟩) ?_ ?_
                          rotate_left
                          · intro w'
                            go_simp
                            with_reducible rfl
                          rotate_left
                          · simp only [Act.put, List.setIfInBounds_toArray, List.set_cons_zero, List.set_cons_succ, i64_w, i32_w]
                            rfl
                          refine done_ (done_of HT_.out (by kernel_rfl)) ?_
                          go_upto_region 18 with (fail)
                          go_cut [75] (fun v75 wc => ∃ (kq : Nat) (x75_17 : Bool), v75 = .bool x75_17 ∧ Aside0 (croftlaw36_PairsTells.j3 kq x0_3 x3_2 x6_3 x7_3 x8_3 x9_2 x10_3 x11_3 x12_3 x13_3 t216 t217 x75_17 x208000_3 x208001_3 x208002_3 x208003_3 x209000_3 x209001_3 x209002_3 x209003_3 = some r) ∧ Aside0 (kq ≤ k3) ∧ Aside0 (Kd.V k24 24 wc w.heap.size (fun k_ => (P0_ k_ ∨ w.heap.size ≤ k_) ∧ some k_ ≠ (u3 : Value).ownBlock ∧ k_ ≠ gb207 ∧ k_ ≠ gb208) (.slice (some ad212) x0_3.length co12) x0_3) ∧ Aside0 (Kd.R (Kd.int .i64) 3 wc w.heap.size (fun k_ => (w.heap.size ≤ k_)) u3 x3_2) ∧ Aside0 (wc.heap[gb207]? = some (.cells #[.int .i64 x208000_3, .int .u32 x208001_3, .int .u32 x208002_3, .string x208003_3] 24 (0, 0))) ∧ Aside0 (wc.heap[gb208]? = some (.cells #[.int .i64 x209000_3, .int .u32 x209001_3, .int .u32 x209002_3, .string x209003_3] 24 (0, 0))) ∧ Aside0 (Below w.heap.size w wc))
                          case first =>
                            have H := HC18.out
                            clear HC18
                            by_cases c20 : x13_3 = x9_2
                            · rw [if_pos c20] at H
                              have c20b0 : (x13_3 == x9_2) = true := beq_iff_eq.mpr c20
                              have c20b1 : (x13_3 != x9_2) = false := bne_eq_false_iff_eq.mpr c20
                              clear c20
                              (first | rw [c20b0] | (simp only [i64_w, i32_w]; rw [c20b0]) | skip)
                              have H' := Aside0.mk H
                              clear H
                              go_wp2
                              go_meet
                              case rel => exact ⟨_, (false), (by first | rfl | (simp; done) | (simp [*]; done)), H', ⟨by have := HJ3.out; have := HK2.out; have := HK3.out; first | omega | exact Nat.le_refl _⟩, ⟨by (with_reducible repeat (first | apply Kd.V_alloc | apply Kd.V_drewN | apply Kd.V_drew)); exact HO_0.out⟩, ⟨by (with_reducible repeat (first | apply Kd.R_alloc | apply Kd.R_drewN | apply Kd.R_drew)); exact HO_3.out⟩, ⟨by (with_reducible repeat (first | refine blk_drewN ?_ _ | refine blk_drew ?_ | refine blk_alloc ?_ _)); exact BK207.out⟩, ⟨by (with_reducible repeat (first | refine blk_drewN ?_ _ | refine blk_drew ?_ | refine blk_alloc ?_ _)); exact BK208.out⟩, ⟨by repeat (first | (with_reducible first | exact HB.out | apply below_alloc | apply pw_below_drewN | apply below_drew1 | refine below_set ?_ GE207.out | refine below_set ?_ GE208.out) | exact HB.out)⟩⟩
                            · rw [if_neg c20] at H
                              have c20b0 : (x13_3 == x9_2) = false := beq_eq_false_iff_ne.mpr c20
                              have c20b1 : (x13_3 != x9_2) = true := bne_iff_ne.mpr c20
                              (first | rw [c20b0] | (simp only [i64_w, i32_w]; rw [c20b0]) | skip)
                              by_cases c21 : x10_3 < 0
                              · rw [if_pos c21] at H
                                have c21b0 : decide (x10_3 < 0) = true := decide_eq_true c21
                                clear c21
                                have H' := Aside0.mk H
                                clear H
                                go_wp2
                                go_meet
                                case rel => exact ⟨_, (true), (by first | rfl | (simp; done) | (simp [*]; done)), H', ⟨by have := HJ3.out; have := HK2.out; have := HK3.out; first | omega | exact Nat.le_refl _⟩, ⟨by (with_reducible repeat (first | apply Kd.V_alloc | apply Kd.V_drewN | apply Kd.V_drew)); exact HO_0.out⟩, ⟨by (with_reducible repeat (first | apply Kd.R_alloc | apply Kd.R_drewN | apply Kd.R_drew)); exact HO_3.out⟩, ⟨by (with_reducible repeat (first | refine blk_drewN ?_ _ | refine blk_drew ?_ | refine blk_alloc ?_ _)); exact BK207.out⟩, ⟨by (with_reducible repeat (first | refine blk_drewN ?_ _ | refine blk_drew ?_ | refine blk_alloc ?_ _)); exact BK208.out⟩, ⟨by repeat (first | (with_reducible first | exact HB.out | apply below_alloc | apply pw_below_drewN | apply below_drew1 | refine below_set ?_ GE207.out | refine below_set ?_ GE208.out) | exact HB.out)⟩⟩
                              · rw [if_neg c21] at H
                                have c21b0 : decide (x10_3 < 0) = false := decide_eq_false c21
                                clear c21
                                replace H := Option.bind_eq_some_iff.mp H
                                obtain ⟨t218, A220, H⟩ := H
                                replace H : (croftlaw36_PairsTells.j3 k3 x0_3 x3_2 x6_3 x7_3 x8_3 x9_2 x10_3 x11_3 x12_3 x13_3 t216 t217 t218 x208000_3 x208001_3 x208002_3 x208003_3 x209000_3 x209001_3 x209002_3 x209003_3) = some r := H
                                have A22 := Aside0.mk A220
                                clear A220
                                have H' := Aside0.mk H
                                clear H
                                go_wp2_with (first | (go_at_call 21; (with_reducible refine (croftref03_Less.calls t216 t217 x11_3 x12_3 t218 _ A22.out).mono ?_); rintro e w' ⟨rfl, ⟨nd, rfl⟩⟩))
                                go_meet
                                case rel => exact ⟨_, (t218), (by first | rfl | (simp; done) | (simp [*]; done)), H', ⟨by have := HJ3.out; have := HK2.out; have := HK3.out; first | omega | exact Nat.le_refl _⟩, ⟨by (with_reducible repeat (first | apply Kd.V_alloc | apply Kd.V_drewN | apply Kd.V_drew)); exact HO_0.out⟩, ⟨by (with_reducible repeat (first | apply Kd.R_alloc | apply Kd.R_drewN | apply Kd.R_drew)); exact HO_3.out⟩, ⟨by (with_reducible repeat (first | refine blk_drewN ?_ _ | refine blk_drew ?_ | refine blk_alloc ?_ _)); exact BK207.out⟩, ⟨by (with_reducible repeat (first | refine blk_drewN ?_ _ | refine blk_drew ?_ | refine blk_alloc ?_ _)); exact BK208.out⟩, ⟨by repeat (first | (with_reducible first | exact HB.out | apply below_alloc | apply pw_below_drewN | apply below_drew1 | refine below_set ?_ GE207.out | refine below_set ?_ GE208.out) | exact HB.out)⟩⟩
                          case rest =>
                            clear HC18
                            try clear c1
                            try clear c2
                            try clear p2
                            try clear q2
                            try clear hx2
                            try clear c3
                            try clear c5
                            try clear c6
                            try clear c6b0
                            try clear c6b1
                            try clear c7
                            try clear c7b0
                            try clear c7b1
                            try clear q8
                            try clear c11
                            try clear c11b0
                            try clear c13
                            try clear c13b0
                            try clear c14
                            try clear c14b0
                            try clear c15
                            try clear c15b0
                            try clear c16
                            try clear c16b0
                            try clear c19
                            try clear c20
                            try clear c20b0
                            try clear c20b1
                            try clear c21
                            try clear c21b0
                            try clear p21
                            try clear q21
                            try clear hx21
                            try clear hx212_0
                            try clear hx212_1
                            try clear hx212_2
                            try clear hx212_3
                            try clear hx213_0
                            try clear hx213_1
                            try clear hx213_2
                            try clear hx213_3
                            try clear hx214_0
                            try clear hx214_1
                            try clear hx214_2
                            try clear hx214_3
                            try clear hx215_0
                            try clear hx215_1
                            try clear hx215_2
                            try clear hx215_3
                            try clear p2
                            try clear p212
                            try clear p213
                            try clear p214
                            try clear p215
                            try clear q212
                            try clear q213
                            try clear q214
                            try clear q215
                            try clear q8
                            obtain ⟨kq, x75_17, rfl, HA, HJ17, HO_0, HO_3, BK207, BK208, HB⟩ := hcut
                            cases kq with
                            | zero => exact absurd HA.out (by simp [croftlaw36_PairsTells.j3])
                            | succ kj17 =>
                              have H := HA.out
                              clear HA
                              simp only [croftlaw36_PairsTells.j3] at H
                              have HC23 := Aside0.mk H
                              clear H
                              go_upto_if 75 with (fail)
                              go_cut [10, 11, 12] (fun v10 v11 v12 wc => ∃ (kq : Nat) (x10_22 : Int) (x11_22 : Int) (x12_22 : Int), v10 = .int .i64 x10_22 ∧ v11 = .int .u64 x11_22 ∧ v12 = .int .u64 x12_22 ∧ Aside0 (croftlaw36_PairsTells.j4 kq x0_3 x3_2 x6_3 x7_3 x8_3 x9_2 x10_22 x11_22 x12_22 x13_3 t216 t217 x208000_3 x208001_3 x208002_3 x208003_3 x209000_3 x209001_3 x209002_3 x209003_3 = some r) ∧ Aside0 (kq ≤ kj17) ∧ Aside0 (Kd.V k24 24 wc w.heap.size (fun k_ => (P0_ k_ ∨ w.heap.size ≤ k_) ∧ some k_ ≠ (u3 : Value).ownBlock ∧ k_ ≠ gb207 ∧ k_ ≠ gb208) (.slice (some ad212) x0_3.length co12) x0_3) ∧ Aside0 (Kd.R (Kd.int .i64) 3 wc w.heap.size (fun k_ => (w.heap.size ≤ k_)) u3 x3_2) ∧ Aside0 (wc.heap[gb207]? = some (.cells #[.int .i64 x208000_3, .int .u32 x208001_3, .int .u32 x208002_3, .string x208003_3] 24 (0, 0))) ∧ Aside0 (wc.heap[gb208]? = some (.cells #[.int .i64 x209000_3, .int .u32 x209001_3, .int .u32 x209002_3, .string x209003_3] 24 (0, 0))) ∧ Aside0 (Below w.heap.size w wc))
                              case first =>
                                have H := HC23.out
                                clear HC23
                                by_cases c24 : x75_17 = true
                                · subst c24
                                  have H1 : (croftlaw36_PairsTells.j4 kj17 x0_3 x3_2 x6_3 x7_3 x8_3 x9_2 x13_3 t216 t217 x13_3 t216 t217 x208000_3 x208001_3 x208002_3 x208003_3 x209000_3 x209001_3 x209002_3 x209003_3) = some r := by rw [if_pos rfl] at H; exact H
                                  clear H
                                  have H := H1
                                  clear H1
                                  have H' := Aside0.mk H
                                  clear H
                                  go_wp2
                                  go_meet
                                  case rel => exact ⟨_, (x13_3), (t216), (t217), (by first | rfl | (simp; done) | (simp [*]; done)), (by first | rfl | (simp; done) | (simp [*]; done)), (by first | rfl | (simp; done) | (simp [*]; done)), H', ⟨by have := HJ3.out; have := HK2.out; have := HK3.out; have := HJ17.out; first | omega | exact Nat.le_refl _⟩, ⟨by (with_reducible repeat (first | apply Kd.V_alloc | apply Kd.V_drewN | apply Kd.V_drew)); exact HO_0.out⟩, ⟨by (with_reducible repeat (first | apply Kd.R_alloc | apply Kd.R_drewN | apply Kd.R_drew)); exact HO_3.out⟩, ⟨by (with_reducible repeat (first | refine blk_drewN ?_ _ | refine blk_drew ?_ | refine blk_alloc ?_ _)); exact BK207.out⟩, ⟨by (with_reducible repeat (first | refine blk_drewN ?_ _ | refine blk_drew ?_ | refine blk_alloc ?_ _)); exact BK208.out⟩, ⟨by repeat (first | (with_reducible first | exact HB.out | apply below_alloc | apply pw_below_drewN | apply below_drew1 | refine below_set ?_ GE207.out | refine below_set ?_ GE208.out) | exact HB.out)⟩⟩
                                · replace c24 := Bool.eq_false_iff.mpr c24
                                  subst c24
                                  have H1 : (croftlaw36_PairsTells.j4 kj17 x0_3 x3_2 x6_3 x7_3 x8_3 x9_2 x10_3 x11_3 x12_3 x13_3 t216 t217 x208000_3 x208001_3 x208002_3 x208003_3 x209000_3 x209001_3 x209002_3 x209003_3) = some r := by rw [if_neg (show ¬ (false = true) by decide)] at H; exact H
                                  clear H
                                  have H := H1
                                  clear H1
                                  have H' := Aside0.mk H
                                  clear H
                                  go_wp2
                                  go_meet
                                  case rel => exact ⟨_, (x10_3), (x11_3), (x12_3), (by first | rfl | (simp; done) | (simp [*]; done)), (by first | rfl | (simp; done) | (simp [*]; done)), (by first | rfl | (simp; done) | (simp [*]; done)), H', ⟨by have := HJ3.out; have := HK2.out; have := HK3.out; have := HJ17.out; first | omega | exact Nat.le_refl _⟩, ⟨by (with_reducible repeat (first | apply Kd.V_alloc | apply Kd.V_drewN | apply Kd.V_drew)); exact HO_0.out⟩, ⟨by (with_reducible repeat (first | apply Kd.R_alloc | apply Kd.R_drewN | apply Kd.R_drew)); exact HO_3.out⟩, ⟨by (with_reducible repeat (first | refine blk_drewN ?_ _ | refine blk_drew ?_ | refine blk_alloc ?_ _)); exact BK207.out⟩, ⟨by (with_reducible repeat (first | refine blk_drewN ?_ _ | refine blk_drew ?_ | refine blk_alloc ?_ _)); exact BK208.out⟩, ⟨by repeat (first | (with_reducible first | exact HB.out | apply below_alloc | apply pw_below_drewN | apply below_drew1 | refine below_set ?_ GE207.out | refine below_set ?_ GE208.out) | exact HB.out)⟩⟩
                              case rest =>
                                clear HC23
                                try clear c1
                                try clear c2
                                try clear p2
                                try clear q2
                                try clear hx2
                                try clear c3
                                try clear c5
                                try clear c6
                                try clear c6b0
                                try clear c6b1
                                try clear c7
                                try clear c7b0
                                try clear c7b1
                                try clear q8
                                try clear c11
                                try clear c11b0
                                try clear c13
                                try clear c13b0
                                try clear c14
                                try clear c14b0
                                try clear c15
                                try clear c15b0
                                try clear c16
                                try clear c16b0
                                try clear c19
                                try clear c20
                                try clear c20b0
                                try clear c20b1
                                try clear c21
                                try clear c21b0
                                try clear p21
                                try clear q21
                                try clear hx21
                                try clear c24
                                try clear hx212_0
                                try clear hx212_1
                                try clear hx212_2
                                try clear hx212_3
                                try clear hx213_0
                                try clear hx213_1
                                try clear hx213_2
                                try clear hx213_3
                                try clear hx214_0
                                try clear hx214_1
                                try clear hx214_2
                                try clear hx214_3
                                try clear hx215_0
                                try clear hx215_1
                                try clear hx215_2
                                try clear hx215_3
                                try clear p2
                                try clear p21
                                try clear p212
                                try clear p213
                                try clear p214
                                try clear p215
                                try clear q2
                                try clear q21
                                try clear q212
                                try clear q213
                                try clear q214
                                try clear q215
                                try clear q8
                                obtain ⟨kq, x10_22, x11_22, x12_22, rfl, rfl, rfl, HA, HJ22, HO_0, HO_3, BK207, BK208, HB⟩ := hcut
                                cases kq with
                                | zero => exact absurd HA.out (by simp [croftlaw36_PairsTells.j4])
                                | succ kj22 =>
                                  have H := HA.out
                                  clear HA
                                  simp only [croftlaw36_PairsTells.j4] at H
                                  have HC25 := Aside0.mk H
                                  clear H
                                  go_upto_region 20 with (fail)
                                  go_cut [92] (fun v92 wc => ∃ (kq : Nat) (x92_24 : Bool), v92 = .bool x92_24 ∧ Aside0 (croftlaw36_PairsTells.j5 kq x0_3 x3_2 x6_3 x7_3 x8_3 x9_2 x10_22 x11_22 x12_22 x13_3 t216 t217 x92_24 x208000_3 x208001_3 x208002_3 x208003_3 x209000_3 x209001_3 x209002_3 x209003_3 = some r) ∧ Aside0 (kq ≤ kj22) ∧ Aside0 (Kd.V k24 24 wc w.heap.size (fun k_ => (P0_ k_ ∨ w.heap.size ≤ k_) ∧ some k_ ≠ (u3 : Value).ownBlock ∧ k_ ≠ gb207 ∧ k_ ≠ gb208) (.slice (some ad212) x0_3.length co12) x0_3) ∧ Aside0 (Kd.R (Kd.int .i64) 3 wc w.heap.size (fun k_ => (w.heap.size ≤ k_)) u3 x3_2) ∧ Aside0 (wc.heap[gb207]? = some (.cells #[.int .i64 x208000_3, .int .u32 x208001_3, .int .u32 x208002_3, .string x208003_3] 24 (0, 0))) ∧ Aside0 (wc.heap[gb208]? = some (.cells #[.int .i64 x209000_3, .int .u32 x209001_3, .int .u32 x209002_3, .string x209003_3] 24 (0, 0))) ∧ Aside0 (Below w.heap.size w wc))
                                  case first =>
                                    have H := HC25.out
                                    clear HC25
                                    by_cases c26 : x13_3 > x9_2
                                    · rw [if_pos c26] at H
                                      have c26b0 : decide (x9_2 < x13_3) = true := decide_eq_true c26
                                      clear c26
                                      (first | rw [c26b0] | (simp only [i64_w, i32_w]; rw [c26b0]) | skip)
                                      by_cases c27 : x8_3 = true
                                      · subst c27
                                        have H1 : ((croftref03_Less.f t216 t217 x6_3 x7_3).bind fun t219 => (croftlaw36_PairsTells.j5 kj22 x0_3 x3_2 x6_3 x7_3 true x9_2 x10_22 x11_22 x12_22 x13_3 t216 t217 t219 x208000_3 x208001_3 x208002_3 x208003_3 x209000_3 x209001_3 x209002_3 x209003_3)) = some r := by rw [if_pos rfl] at H; exact H
                                        clear H
                                        have H := H1
                                        clear H1
                                        replace H := Option.bind_eq_some_iff.mp H
                                        obtain ⟨t219, A280, H⟩ := H
                                        replace H : (croftlaw36_PairsTells.j5 kj22 x0_3 x3_2 x6_3 x7_3 true x9_2 x10_22 x11_22 x12_22 x13_3 t216 t217 t219 x208000_3 x208001_3 x208002_3 x208003_3 x209000_3 x209001_3 x209002_3 x209003_3) = some r := H
                                        have A28 := Aside0.mk A280
                                        clear A280
                                        have H' := Aside0.mk H
                                        clear H
                                        go_wp2_with (first | (go_at_call 21; (with_reducible refine (croftref03_Less.calls t216 t217 x6_3 x7_3 t219 _ A28.out).mono ?_); rintro e w' ⟨rfl, ⟨nd, rfl⟩⟩))
                                        go_meet
                                        case rel => exact ⟨_, (t219), (by first | rfl | (simp; done) | (simp [*]; done)), H', ⟨by have := HJ3.out; have := HK2.out; have := HK3.out; have := HJ17.out; have := HJ22.out; first | omega | exact Nat.le_refl _⟩, ⟨by (with_reducible repeat (first | apply Kd.V_alloc | apply Kd.V_drewN | apply Kd.V_drew)); exact HO_0.out⟩, ⟨by (with_reducible repeat (first | apply Kd.R_alloc | apply Kd.R_drewN | apply Kd.R_drew)); exact HO_3.out⟩, ⟨by (with_reducible repeat (first | refine blk_drewN ?_ _ | refine blk_drew ?_ | refine blk_alloc ?_ _)); exact BK207.out⟩, ⟨by (with_reducible repeat (first | refine blk_drewN ?_ _ | refine blk_drew ?_ | refine blk_alloc ?_ _)); exact BK208.out⟩, ⟨by repeat (first | (with_reducible first | exact HB.out | apply below_alloc | apply pw_below_drewN | apply below_drew1 | refine below_set ?_ GE207.out | refine below_set ?_ GE208.out) | exact HB.out)⟩⟩
                                      · replace c27 := Bool.eq_false_iff.mpr c27
                                        subst c27
                                        have H1 : (croftlaw36_PairsTells.j5 kj22 x0_3 x3_2 x6_3 x7_3 false x9_2 x10_22 x11_22 x12_22 x13_3 t216 t217 true x208000_3 x208001_3 x208002_3 x208003_3 x209000_3 x209001_3 x209002_3 x209003_3) = some r := by rw [if_neg (show ¬ (false = true) by decide)] at H; exact H
                                        clear H
                                        have H := H1
                                        clear H1
                                        have H' := Aside0.mk H
                                        clear H
                                        go_wp2
                                        go_meet
                                        case rel => exact ⟨_, (true), (by first | rfl | (simp; done) | (simp [*]; done)), H', ⟨by have := HJ3.out; have := HK2.out; have := HK3.out; have := HJ17.out; have := HJ22.out; first | omega | exact Nat.le_refl _⟩, ⟨by (with_reducible repeat (first | apply Kd.V_alloc | apply Kd.V_drewN | apply Kd.V_drew)); exact HO_0.out⟩, ⟨by (with_reducible repeat (first | apply Kd.R_alloc | apply Kd.R_drewN | apply Kd.R_drew)); exact HO_3.out⟩, ⟨by (with_reducible repeat (first | refine blk_drewN ?_ _ | refine blk_drew ?_ | refine blk_alloc ?_ _)); exact BK207.out⟩, ⟨by (with_reducible repeat (first | refine blk_drewN ?_ _ | refine blk_drew ?_ | refine blk_alloc ?_ _)); exact BK208.out⟩, ⟨by repeat (first | (with_reducible first | exact HB.out | apply below_alloc | apply pw_below_drewN | apply below_drew1 | refine below_set ?_ GE207.out | refine below_set ?_ GE208.out) | exact HB.out)⟩⟩
                                    · rw [if_neg c26] at H
                                      have c26b0 : decide (x9_2 < x13_3) = false := decide_eq_false c26
                                      clear c26
                                      (first | rw [c26b0] | (simp only [i64_w, i32_w]; rw [c26b0]) | skip)
                                      have H' := Aside0.mk H
                                      clear H
                                      go_wp2
                                      go_meet
                                      case rel => exact ⟨_, (false), (by first | rfl | (simp; done) | (simp [*]; done)), H', ⟨by have := HJ3.out; have := HK2.out; have := HK3.out; have := HJ17.out; have := HJ22.out; first | omega | exact Nat.le_refl _⟩, ⟨by (with_reducible repeat (first | apply Kd.V_alloc | apply Kd.V_drewN | apply Kd.V_drew)); exact HO_0.out⟩, ⟨by (with_reducible repeat (first | apply Kd.R_alloc | apply Kd.R_drewN | apply Kd.R_drew)); exact HO_3.out⟩, ⟨by (with_reducible repeat (first | refine blk_drewN ?_ _ | refine blk_drew ?_ | refine blk_alloc ?_ _)); exact BK207.out⟩, ⟨by (with_reducible repeat (first | refine blk_drewN ?_ _ | refine blk_drew ?_ | refine blk_alloc ?_ _)); exact BK208.out⟩, ⟨by repeat (first | (with_reducible first | exact HB.out | apply below_alloc | apply pw_below_drewN | apply below_drew1 | refine below_set ?_ GE207.out | refine below_set ?_ GE208.out) | exact HB.out)⟩⟩
                                  case rest =>
                                    clear HC25
                                    try clear c1
                                    try clear c2
                                    try clear p2
                                    try clear q2
                                    try clear hx2
                                    try clear c3
                                    try clear c5
                                    try clear c6
                                    try clear c6b0
                                    try clear c6b1
                                    try clear c7
                                    try clear c7b0
                                    try clear c7b1
                                    try clear q8
                                    try clear c11
                                    try clear c11b0
                                    try clear c13
                                    try clear c13b0
                                    try clear c14
                                    try clear c14b0
                                    try clear c15
                                    try clear c15b0
                                    try clear c16
                                    try clear c16b0
                                    try clear c19
                                    try clear c20
                                    try clear c20b0
                                    try clear c20b1
                                    try clear c21
                                    try clear c21b0
                                    try clear p21
                                    try clear q21
                                    try clear hx21
                                    try clear c24
                                    try clear c26
                                    try clear c26b0
                                    try clear c27
                                    try clear hx212_0
                                    try clear hx212_1
                                    try clear hx212_2
                                    try clear hx212_3
                                    try clear hx213_0
                                    try clear hx213_1
                                    try clear hx213_2
                                    try clear hx213_3
                                    try clear hx214_0
                                    try clear hx214_1
                                    try clear hx214_2
                                    try clear hx214_3
                                    try clear hx215_0
                                    try clear hx215_1
                                    try clear hx215_2
                                    try clear hx215_3
                                    try clear p2
                                    try clear p21
                                    try clear p212
                                    try clear p213
                                    try clear p214
                                    try clear p215
                                    try clear q2
                                    try clear q21
                                    try clear q212
                                    try clear q213
                                    try clear q214
                                    try clear q215
                                    try clear q8
                                    obtain ⟨kq, x92_24, rfl, HA, HJ24, HO_0, HO_3, BK207, BK208, HB⟩ := hcut
                                    cases kq with
                                    | zero => exact absurd HA.out (by simp [croftlaw36_PairsTells.j5])
                                    | succ kj24 =>
                                      have H := HA.out
                                      clear HA
                                      simp only [croftlaw36_PairsTells.j5] at H
                                      by_cases c29 : x92_24 = true
                                      · subst c29
                                        have H1 : (if 0 ≤ x9_2 then (if x9_2 < (x0_3.length : Int) then (if 0 ≤ x13_3 then (if x13_3 < (x0_3.length : Int) then (croftlaw36_PairsTells.l1 kj24 x0_3 x3_2 t216 t217 true x9_2 x10_22 x11_22 x12_22 (wrap64 (x13_3 + 1)) ((rd_T24 x0_3 x9_2).f0) ((rd_T24 x0_3 x9_2).f1) ((rd_T24 x0_3 x9_2).f2) ((rd_T24 x0_3 x9_2).f3) ((rd_T24 x0_3 x13_3).f0) ((rd_T24 x0_3 x13_3).f1) ((rd_T24 x0_3 x13_3).f2) ((rd_T24 x0_3 x13_3).f3)) else (none)) else (none)) else (none)) else (none)) = some r := by rw [if_pos rfl] at H; exact H
                                        clear H
                                        have H := H1
                                        clear H1
                                        by_cases c30 : 0 ≤ x9_2
                                        · rw [if_pos c30] at H
                                          have c30b0 : decide (0 ≤ x9_2) = true := decide_eq_true c30
                                          clear c30
                                          by_cases c31 : x9_2 < (x0_3.length : Int)
                                          · rw [if_pos c31] at H
                                            have c31b0 : decide (x9_2 < (x0_3.length : Int)) = true := decide_eq_true c31
                                            clear c31
                                            by_cases c32 : 0 ≤ x13_3
                                            · rw [if_pos c32] at H
                                              have c32b0 : decide (0 ≤ x13_3) = true := decide_eq_true c32
                                              clear c32
                                              by_cases c33 : x13_3 < (x0_3.length : Int)
                                              · rw [if_pos c33] at H
                                                have c33b0 : decide (x13_3 < (x0_3.length : Int)) = true := decide_eq_true c33
                                                clear c33
                                                have H' := Aside0.mk H
                                                clear H
                                                try go_wp2
                                                have n0_ := Aside0.mk (Kd.V_drew HO_0.out)
                                                have n1_ := Aside0.mk (Kd.R_drew HO_3.out)
                                                have n2_ := Aside0.mk (blk_drew BK207.out)
                                                have n3_ := Aside0.mk (blk_drew BK208.out)
                                                have n4_ := Aside0.mk (below_drew1 HB.out)
                                                clear HO_0
                                                clear HO_3
                                                clear BK207
                                                clear BK208
                                                clear HB
                                                have HO_0 := n0_
                                                have HO_3 := n1_
                                                have BK207 := n2_
                                                have BK208 := n3_
                                                have HB := n4_
                                                clear n0_ n1_ n2_ n3_ n4_
                                                have p220 : 0 ≤ (x9_2 : Int) := of_decide_eq_true (by first | (with_reducible assumption) | assumption)
                                                have q220 : x9_2 < (x0_3.length : Int) := of_decide_eq_true (by first | (with_reducible assumption) | assumption)
                                                obtain ⟨ad220, e220, hx220_0, hx220_1, hx220_2, hx220_3⟩ := at_T24 (Kd.V_reads' HO_0.out).2.2 x9_2 p220 q220
                                                obtain rfl : ad212 = ad220 := (by injection e220)
                                                replace p220 := eq_true p220
                                                replace q220 := eq_true q220
                                                have p221 : 0 ≤ (x13_3 : Int) := of_decide_eq_true (by first | (with_reducible assumption) | assumption)
                                                have q221 : x13_3 < (x0_3.length : Int) := of_decide_eq_true (by first | (with_reducible assumption) | assumption)
                                                obtain ⟨ad221, e221, hx221_0, hx221_1, hx221_2, hx221_3⟩ := at_T24 (Kd.V_reads' HO_0.out).2.2 x13_3 p221 q221
                                                obtain rfl : ad212 = ad221 := (by injection e221)
                                                replace p221 := eq_true p221
                                                replace q221 := eq_true q221
                                                refine start_ (n := 15) (S := fun w' => w'.cell? (ad212.add ((x9_2).toNat * 4)) = some (.int .i64 ((rd_T24 x0_3 x9_2).f0)) ∧ w'.cell? ⟨(ad212.add ((x9_2).toNat * 4)).block, (ad212.add ((x9_2).toNat * 4)).off + 1, none⟩ = some (.int .u32 ((rd_T24 x0_3 x9_2).f1)) ∧ w'.cell? ⟨(ad212.add ((x9_2).toNat * 4)).block, (ad212.add ((x9_2).toNat * 4)).off + 2, none⟩ = some (.int .u32 ((rd_T24 x0_3 x9_2).f2)) ∧ w'.cell? ⟨(ad212.add ((x9_2).toNat * 4)).block, (ad212.add ((x9_2).toNat * 4)).off + 3, none⟩ = some (.string ((rd_T24 x0_3 x9_2).f3)) ∧ w'.cell? (ad212.add ((x13_3).toNat * 4)) = some (.int .i64 ((rd_T24 x0_3 x13_3).f0)) ∧ w'.cell? ⟨(ad212.add ((x13_3).toNat * 4)).block, (ad212.add ((x13_3).toNat * 4)).off + 1, none⟩ = some (.int .u32 ((rd_T24 x0_3 x13_3).f1)) ∧ w'.cell? ⟨(ad212.add ((x13_3).toNat * 4)).block, (ad212.add ((x13_3).toNat * 4)).off + 2, none⟩ = some (.int .u32 ((rd_T24 x0_3 x13_3).f2)) ∧ w'.cell? ⟨(ad212.add ((x13_3).toNat * 4)).block, (ad212.add ((x13_3).toNat * 4)).off + 3, none⟩ = some (.string ((rd_T24 x0_3 x13_3).f3))) (ds := []) #[false, false, false, false, false, false, false, false, false, false, false, false, false, false, false] (by kernel_rfl) rfl rfl ⟨hx220_0, hx220_1, hx220_2, hx220_3, hx221_0, hx221_1, hx221_2, hx221_3⟩ (fun hHeld => ?_); refine with_tabW croftlaw36_PairsTells.tab21 croftlaw36_PairsTells.bits21 (fun HT_ HW_ => ?_)
                                                generalize wc.drew = w34 at HO_0 HO_3 BK207 BK208 HB hx220_0 hx220_1 hx220_2 hx220_3 hx221_0 hx221_1 hx221_2 hx221_3 hHeld ⊢
                                                refine pure_ (i := 0) (N := some 93) (v := ?_) (a' := ?_) #[true, false, false, false, false, false, false, false, false, false, false, false, false, false, false] rfl rfl (any_of HT_.out (by kernel_rfl)) (fun _ _ _ h => h) (Or.inl ⟨by rfl, ?_⟩) ?_ ?_
                                                rotate_left
                                                · intro w'
                                                  go_simp
                                                  with_reducible rfl
                                                rotate_left
                                                · simp only [Act.put, List.setIfInBounds_toArray, List.set_cons_zero, List.set_cons_succ, i64_w, i32_w]
                                                  rfl
                                                refine pure_ (i := 1) (N := some 94) (v := ?_) (a' := ?_) #[true, true, false, false, false, false, false, false, false, false, false, false, false, false, false] rfl rfl (any_of HT_.out (by kernel_rfl)) (fun _ _ _ h => h) (Or.inl ⟨by rfl, ?_⟩) ?_ ?_
                                                rotate_left
                                                · intro w'
                                                  go_simp
                                                  with_reducible rfl
                                                rotate_left
                                                · simp only [Act.put, List.setIfInBounds_toArray, List.set_cons_zero, List.set_cons_succ, i64_w, i32_w]
                                                  rfl
                                                refine pure_ (i := 2) (N := some 95) (v := ?_) (a' := ?_) #[true, true, true, false, false, false, false, false, false, false, false, false, false, false, false] rfl rfl (any_of HT_.out (by kernel_rfl)) (fun _ _ _ h => h) (Or.inl ⟨by rfl, ?_⟩) ?_ ?_
                                                rotate_left
                                                · intro w'
                                                  go_simp
                                                  with_reducible rfl
                                                rotate_left
                                                · simp only [Act.put, List.setIfInBounds_toArray, List.set_cons_zero, List.set_cons_succ, i64_w, i32_w]
                                                  rfl
                                                refine pure_ (i := 4) (N := some 97) (v := ?_) (a' := ?_) #[true, true, true, false, true, false, false, false, false, false, false, false, false, false, false] rfl rfl (any_of HT_.out (by kernel_rfl)) (fun _ _ _ h => h) (Or.inl ⟨by rfl, ?_⟩) ?_ ?_
                                                rotate_left
                                                · intro w'
                                                  go_simp
                                                  with_reducible rfl
                                                rotate_left
                                                · simp only [Act.put, List.setIfInBounds_toArray, List.set_cons_zero, List.set_cons_succ, i64_w, i32_w]
                                                  rfl
                                                refine pure_ (i := 5) (N := some 98) (v := ?_) (a' := ?_) #[true, true, true, false, true, true, false, false, false, false, false, false, false, false, false] rfl rfl (any_of HT_.out (by kernel_rfl)) (fun _ _ _ h => h) (Or.inl ⟨by rfl, ?_⟩) ?_ ?_
                                                rotate_left
                                                · intro w'
                                                  go_simp
                                                  with_reducible rfl
                                                rotate_left
                                                · simp only [Act.put, List.setIfInBounds_toArray, List.set_cons_zero, List.set_cons_succ, i64_w, i32_w]
                                                  rfl
                                                refine pure_ (i := 6) (N := some 99) (v := ?_) (a' := ?_) #[true, true, true, false, true, true, true, false, false, false, false, false, false, false, false] rfl rfl (any_of HT_.out (by kernel_rfl)) (fun _ _ _ h => h) (Or.inl ⟨by rfl, ?_⟩) ?_ ?_
                                                rotate_left
                                                · intro w'
                                                  go_simp
                                                  with_reducible rfl
                                                rotate_left
                                                · simp only [Act.put, List.setIfInBounds_toArray, List.set_cons_zero, List.set_cons_succ, i64_w, i32_w]
                                                  rfl
                                                refine pure_ (i := 8) (N := some 101) (v := ?_) (a' := ?_) #[true, true, true, false, true, true, true, false, true, false, false, false, false, false, false] rfl rfl (any_of HT_.out (by kernel_rfl)) (fun _ _ _ h => h) (Or.inl ⟨by rfl, ?_⟩) ?_ ?_
                                                rotate_left
                                                · intro w'
                                                  go_simp
                                                  with_reducible rfl
                                                rotate_left
                                                · simp only [Act.put, List.setIfInBounds_toArray, List.set_cons_zero, List.set_cons_succ, i64_w, i32_w]
                                                  rfl
                                                refine pure_ (i := 9) (N := some 102) (v := ?_) (a' := ?_) #[true, true, true, false, true, true, true, false, true, true, false, false, false, false, false] rfl rfl (any_of HT_.out (by kernel_rfl)) (fun _ _ _ h => h) (Or.inl ⟨by rfl, ?_⟩) ?_ ?_
                                                rotate_left
                                                · intro w'
                                                  go_simp
                                                  with_reducible rfl
                                                rotate_left
                                                · simp only [Act.put, List.setIfInBounds_toArray, List.set_cons_zero, List.set_cons_succ, i64_w, i32_w]
                                                  rfl
                                                refine take_ (i := 3) (N := some 96) (v := ?_) (a' := ?_) #[true, true, true, true, true, true, true, false, true, true, false, false, false, false, false] rfl rfl (take_ofW HT_.out HW_.out (by kernel_rfl)) (fun _ _ _ h => h) (Or.inl ⟨by rfl, ?_⟩) hHeld ?_ ?_
                                                rotate_left
                                                · rintro w' ⟨s0, s1, s2, s3, s4, s5, s6, s7⟩
                                                  go_simp
                                                  with_reducible rfl
                                                rotate_left
                                                · simp only [Act.put, List.setIfInBounds_toArray, List.set_cons_zero, List.set_cons_succ, i64_w, i32_w]
                                                  rfl
                                                refine take_ (i := 7) (N := some 100) (v := ?_) (a' := ?_) #[true, true, true, true, true, true, true, true, true, true, false, false, false, false, false] rfl rfl (take_ofW HT_.out HW_.out (by kernel_rfl)) (fun _ _ _ h => h) (Or.inl ⟨by rfl, ?_⟩) hHeld ?_ ?_
                                                rotate_left
                                                · rintro w' ⟨s0, s1, s2, s3, s4, s5, s6, s7⟩
                                                  go_simp
                                                  with_reducible rfl
                                                rotate_left
                                                · simp only [Act.put, List.setIfInBounds_toArray, List.set_cons_zero, List.set_cons_succ, i64_w, i32_w]
                                                  rfl
                                                refine one_ (i := 10) (N := none) #[true, true, true, true, true, true, true, true, true, true, true, false, false, false, false] rfl rfl (one_of HT_.out (by kernel_rfl)) (by decide) (fun K hK => ?_)
                                                have hs35 : w34.cell? ⟨gb207, 0, none⟩ = some (.int .i64 x208000_3) := (blk_cell BK207.out 0).trans rfl
                                                have hfs35 := blk_frozen BK207.out 0
                                                have hns35_1 := NB208_207.out
                                                have hms35_1 := NB207_208.out
                                                have hs36 : w34.cell? ⟨gb207, 1, none⟩ = some (.int .u32 x208001_3) := (blk_cell BK207.out 1).trans rfl
                                                have hfs36 := blk_frozen BK207.out 1
                                                have hns36_1 := NB208_207.out
                                                have hms36_1 := NB207_208.out
                                                have hs37 : w34.cell? ⟨gb207, 2, none⟩ = some (.int .u32 x208002_3) := (blk_cell BK207.out 2).trans rfl
                                                have hfs37 := blk_frozen BK207.out 2
                                                have hns37_1 := NB208_207.out
                                                have hms37_1 := NB207_208.out
                                                have hs38 : w34.cell? ⟨gb207, 3, none⟩ = some (.string x208003_3) := (blk_cell BK207.out 3).trans rfl
                                                have hfs38 := blk_frozen BK207.out 3
                                                have hns38_1 := NB208_207.out
                                                have hms38_1 := NB207_208.out
                                                refine skip_ (w1 := ?_) (by rfl) rfl ?_ ?_
                                                rotate_left
                                                · go_simp
                                                  rfl
                                                have hfar_ : ad212.block ≠ gb207 := (fun hk => hk.2.2.1) (Kd.V_ownB HO_0.out rfl (by have z1_ : 0 ≤ x9_2 := of_decide_eq_true (by first | (with_reducible assumption) | assumption); have z2_ : x9_2 < (x0_3.length : Int) := of_decide_eq_true (by first | (with_reducible assumption) | assumption); omega) (by decide))
                                                have HS0_ := four_far (g := gb207) (.int .i64 ((rd_T24 x0_3 x9_2).f0)) (.int .u32 ((rd_T24 x0_3 x9_2).f1)) (.int .u32 ((rd_T24 x0_3 x9_2).f2)) (.string ((rd_T24 x0_3 x9_2).f3)) (hHeld.1) (by first | exact hfar_ | (rw [add_block]; exact hfar_) | (show (Addr.add _ _).block ≠ _; rw [add_block]; exact hfar_))
                                                have HS1_ := four_far (g := gb207) (.int .i64 ((rd_T24 x0_3 x9_2).f0)) (.int .u32 ((rd_T24 x0_3 x9_2).f1)) (.int .u32 ((rd_T24 x0_3 x9_2).f2)) (.string ((rd_T24 x0_3 x9_2).f3)) (hHeld.2.1) (by first | exact hfar_ | (rw [add_block]; exact hfar_) | (show (Addr.add _ _).block ≠ _; rw [add_block]; exact hfar_))
                                                have HS2_ := four_far (g := gb207) (.int .i64 ((rd_T24 x0_3 x9_2).f0)) (.int .u32 ((rd_T24 x0_3 x9_2).f1)) (.int .u32 ((rd_T24 x0_3 x9_2).f2)) (.string ((rd_T24 x0_3 x9_2).f3)) (hHeld.2.2.1) (by first | exact hfar_ | (rw [add_block]; exact hfar_) | (show (Addr.add _ _).block ≠ _; rw [add_block]; exact hfar_))
                                                have HS3_ := four_far (g := gb207) (.int .i64 ((rd_T24 x0_3 x9_2).f0)) (.int .u32 ((rd_T24 x0_3 x9_2).f1)) (.int .u32 ((rd_T24 x0_3 x9_2).f2)) (.string ((rd_T24 x0_3 x9_2).f3)) (hHeld.2.2.2.1) (by first | exact hfar_ | (rw [add_block]; exact hfar_) | (show (Addr.add _ _).block ≠ _; rw [add_block]; exact hfar_))
                                                have HS4_ := four_far (g := gb207) (.int .i64 ((rd_T24 x0_3 x9_2).f0)) (.int .u32 ((rd_T24 x0_3 x9_2).f1)) (.int .u32 ((rd_T24 x0_3 x9_2).f2)) (.string ((rd_T24 x0_3 x9_2).f3)) (hHeld.2.2.2.2.1) (by first | exact hfar_ | (rw [add_block]; exact hfar_) | (show (Addr.add _ _).block ≠ _; rw [add_block]; exact hfar_))
                                                have HS5_ := four_far (g := gb207) (.int .i64 ((rd_T24 x0_3 x9_2).f0)) (.int .u32 ((rd_T24 x0_3 x9_2).f1)) (.int .u32 ((rd_T24 x0_3 x9_2).f2)) (.string ((rd_T24 x0_3 x9_2).f3)) (hHeld.2.2.2.2.2.1) (by first | exact hfar_ | (rw [add_block]; exact hfar_) | (show (Addr.add _ _).block ≠ _; rw [add_block]; exact hfar_))
                                                have HS6_ := four_far (g := gb207) (.int .i64 ((rd_T24 x0_3 x9_2).f0)) (.int .u32 ((rd_T24 x0_3 x9_2).f1)) (.int .u32 ((rd_T24 x0_3 x9_2).f2)) (.string ((rd_T24 x0_3 x9_2).f3)) (hHeld.2.2.2.2.2.2.1) (by first | exact hfar_ | (rw [add_block]; exact hfar_) | (show (Addr.add _ _).block ≠ _; rw [add_block]; exact hfar_))
                                                have HS7_ := four_far (g := gb207) (.int .i64 ((rd_T24 x0_3 x9_2).f0)) (.int .u32 ((rd_T24 x0_3 x9_2).f1)) (.int .u32 ((rd_T24 x0_3 x9_2).f2)) (.string ((rd_T24 x0_3 x9_2).f3)) (hHeld.2.2.2.2.2.2.2) (by first | exact hfar_ | (rw [add_block]; exact hfar_) | (show (Addr.add _ _).block ≠ _; rw [add_block]; exact hfar_))
                                                clear hfar_
                                                refine hK.out _ _ ⟨HS0_, HS1_, HS2_, HS3_, HS4_, HS5_, HS6_, HS7_⟩ (fun hHeld => ?_)
                                                clear hK K
                                                refine one_ (i := 11) (N := none) #[true, true, true, true, true, true, true, true, true, true, true, true, false, false, false] rfl rfl (one_of HT_.out (by kernel_rfl)) (by decide) (fun K hK => ?_)
                                                have hs39 : w34.cell? ⟨gb208, 0, none⟩ = some (.int .i64 x209000_3) := (blk_cell BK208.out 0).trans rfl
                                                have hfs39 := blk_frozen BK208.out 0
                                                have hns39_0 := NB207_208.out
                                                have hms39_0 := NB208_207.out
                                                have hs40 : w34.cell? ⟨gb208, 1, none⟩ = some (.int .u32 x209001_3) := (blk_cell BK208.out 1).trans rfl
                                                have hfs40 := blk_frozen BK208.out 1
                                                have hns40_0 := NB207_208.out
                                                have hms40_0 := NB208_207.out
                                                have hs41 : w34.cell? ⟨gb208, 2, none⟩ = some (.int .u32 x209002_3) := (blk_cell BK208.out 2).trans rfl
                                                have hfs41 := blk_frozen BK208.out 2
                                                have hns41_0 := NB207_208.out
                                                have hms41_0 := NB208_207.out
                                                have hs42 : w34.cell? ⟨gb208, 3, none⟩ = some (.string x209003_3) := (blk_cell BK208.out 3).trans rfl
                                                have hfs42 := blk_frozen BK208.out 3
                                                have hns42_0 := NB207_208.out
                                                have hms42_0 := NB208_207.out
                                                refine skip_ (w1 := ?_) (by rfl) rfl ?_ ?_
                                                rotate_left
                                                · go_simp
                                                  rfl
                                                have hfar_ : ad212.block ≠ gb208 := (fun hk => hk.2.2.2) (Kd.V_ownB HO_0.out rfl (by have z1_ : 0 ≤ x9_2 := of_decide_eq_true (by first | (with_reducible assumption) | assumption); have z2_ : x9_2 < (x0_3.length : Int) := of_decide_eq_true (by first | (with_reducible assumption) | assumption); omega) (by decide))
                                                have HS0_ := four_far (g := gb208) (.int .i64 ((rd_T24 x0_3 x13_3).f0)) (.int .u32 ((rd_T24 x0_3 x13_3).f1)) (.int .u32 ((rd_T24 x0_3 x13_3).f2)) (.string ((rd_T24 x0_3 x13_3).f3)) (hHeld.1) (by first | exact hfar_ | (rw [add_block]; exact hfar_) | (show (Addr.add _ _).block ≠ _; rw [add_block]; exact hfar_))
                                                have HS1_ := four_far (g := gb208) (.int .i64 ((rd_T24 x0_3 x13_3).f0)) (.int .u32 ((rd_T24 x0_3 x13_3).f1)) (.int .u32 ((rd_T24 x0_3 x13_3).f2)) (.string ((rd_T24 x0_3 x13_3).f3)) (hHeld.2.1) (by first | exact hfar_ | (rw [add_block]; exact hfar_) | (show (Addr.add _ _).block ≠ _; rw [add_block]; exact hfar_))
                                                have HS2_ := four_far (g := gb208) (.int .i64 ((rd_T24 x0_3 x13_3).f0)) (.int .u32 ((rd_T24 x0_3 x13_3).f1)) (.int .u32 ((rd_T24 x0_3 x13_3).f2)) (.string ((rd_T24 x0_3 x13_3).f3)) (hHeld.2.2.1) (by first | exact hfar_ | (rw [add_block]; exact hfar_) | (show (Addr.add _ _).block ≠ _; rw [add_block]; exact hfar_))
                                                have HS3_ := four_far (g := gb208) (.int .i64 ((rd_T24 x0_3 x13_3).f0)) (.int .u32 ((rd_T24 x0_3 x13_3).f1)) (.int .u32 ((rd_T24 x0_3 x13_3).f2)) (.string ((rd_T24 x0_3 x13_3).f3)) (hHeld.2.2.2.1) (by first | exact hfar_ | (rw [add_block]; exact hfar_) | (show (Addr.add _ _).block ≠ _; rw [add_block]; exact hfar_))
                                                have HS4_ := four_far (g := gb208) (.int .i64 ((rd_T24 x0_3 x13_3).f0)) (.int .u32 ((rd_T24 x0_3 x13_3).f1)) (.int .u32 ((rd_T24 x0_3 x13_3).f2)) (.string ((rd_T24 x0_3 x13_3).f3)) (hHeld.2.2.2.2.1) (by first | exact hfar_ | (rw [add_block]; exact hfar_) | (show (Addr.add _ _).block ≠ _; rw [add_block]; exact hfar_))
                                                have HS5_ := four_far (g := gb208) (.int .i64 ((rd_T24 x0_3 x13_3).f0)) (.int .u32 ((rd_T24 x0_3 x13_3).f1)) (.int .u32 ((rd_T24 x0_3 x13_3).f2)) (.string ((rd_T24 x0_3 x13_3).f3)) (hHeld.2.2.2.2.2.1) (by first | exact hfar_ | (rw [add_block]; exact hfar_) | (show (Addr.add _ _).block ≠ _; rw [add_block]; exact hfar_))
                                                have HS6_ := four_far (g := gb208) (.int .i64 ((rd_T24 x0_3 x13_3).f0)) (.int .u32 ((rd_T24 x0_3 x13_3).f1)) (.int .u32 ((rd_T24 x0_3 x13_3).f2)) (.string ((rd_T24 x0_3 x13_3).f3)) (hHeld.2.2.2.2.2.2.1) (by first | exact hfar_ | (rw [add_block]; exact hfar_) | (show (Addr.add _ _).block ≠ _; rw [add_block]; exact hfar_))
                                                have HS7_ := four_far (g := gb208) (.int .i64 ((rd_T24 x0_3 x13_3).f0)) (.int .u32 ((rd_T24 x0_3 x13_3).f1)) (.int .u32 ((rd_T24 x0_3 x13_3).f2)) (.string ((rd_T24 x0_3 x13_3).f3)) (hHeld.2.2.2.2.2.2.2) (by first | exact hfar_ | (rw [add_block]; exact hfar_) | (show (Addr.add _ _).block ≠ _; rw [add_block]; exact hfar_))
                                                clear hfar_
                                                refine hK.out _ _ ⟨HS0_, HS1_, HS2_, HS3_, HS4_, HS5_, HS6_, HS7_⟩ (fun hHeld => ?_)
                                                clear hK K
                                                refine pure_ (i := 12) (N := some 6) (v := ?_) (a' := ?_) #[true, true, true, true, true, true, true, true, true, true, true, true, true, false, false] rfl rfl (any_of HT_.out (by kernel_rfl)) (fun _ _ _ h => h) (Or.inl ⟨by rfl, ?_⟩) ?_ ?_
                                                rotate_left
                                                · intro w'
                                                  go_simp
                                                  with_reducible rfl
                                                rotate_left
                                                · simp only [Act.put, List.setIfInBounds_toArray, List.set_cons_zero, List.set_cons_succ, i64_w, i32_w]
                                                  rfl
                                                refine pure_ (i := 13) (N := some 7) (v := ?_) (a' := ?_) #[true, true, true, true, true, true, true, true, true, true, true, true, true, true, false] rfl rfl (any_of HT_.out (by kernel_rfl)) (fun _ _ _ h => h) (Or.inl ⟨by rfl, ?_⟩) ?_ ?_
                                                rotate_left
                                                · intro w'
                                                  go_simp
                                                  with_reducible rfl
                                                rotate_left
                                                · simp only [Act.put, List.setIfInBounds_toArray, List.set_cons_zero, List.set_cons_succ, i64_w, i32_w]
                                                  rfl
                                                refine pure_ (i := 14) (N := some 8) (v := ?_) (a' := ?_) #[true, true, true, true, true, true, true, true, true, true, true, true, true, true, true] rfl rfl (any_of HT_.out (by kernel_rfl)) (fun _ _ _ h => h) (Or.inl ⟨by rfl, ?_⟩) ?_ ?_
                                                rotate_left
                                                · intro w'
                                                  go_simp
                                                  with_reducible rfl
                                                rotate_left
                                                · simp only [Act.put, List.setIfInBounds_toArray, List.set_cons_zero, List.set_cons_succ, i64_w, i32_w]
                                                  rfl
                                                refine done_ (done_of HT_.out (by kernel_rfl)) ?_
                                                try go_wp2
                                                go_roundg kj24
                                                case measure => have := HJ3.out; have := HK2.out; have := HK3.out; have := HJ17.out; have := HJ22.out; have := HJ24.out; omega
                                                case rel => exact ⟨(t216), (t217), (true), (x10_22), (x11_22), (x12_22), (wrap64 (x13_3 + 1)), ((rd_T24 x0_3 x9_2).f0), ((rd_T24 x0_3 x9_2).f1), ((rd_T24 x0_3 x9_2).f2), ((rd_T24 x0_3 x9_2).f3), ((rd_T24 x0_3 x13_3).f0), ((rd_T24 x0_3 x13_3).f1), ((rd_T24 x0_3 x13_3).f2), ((rd_T24 x0_3 x13_3).f3), (by first | rfl | (simp; done) | (simp [*]; done)), (by first | rfl | (simp; done) | (simp [*]; done)), (by first | rfl | (simp; done) | (simp [*]; done)), (by first | rfl | (simp; done) | (simp [*]; done)), (by first | rfl | (simp; done) | (simp [*]; done)), (by first | rfl | (simp; done) | (simp [*]; done)), (by first | rfl | (simp; done) | (simp [*]; done)), H', ⟨by have := HJ3.out; have := HK2.out; have := HK3.out; have := HJ17.out; have := HJ22.out; have := HJ24.out; omega⟩, ⟨by (with_reducible repeat (first | apply Kd.V_alloc | apply Kd.V_drewN | apply Kd.V_drew)); exact Kd.V_mono (Kd.V_far (p := ⟨gb208, 3, none⟩) (Kd.V_far (p := ⟨gb208, 2, none⟩) (Kd.V_far (p := ⟨gb208, 1, none⟩) (Kd.V_far (p := ⟨gb208, 0, none⟩) (Kd.V_far (p := ⟨gb207, 3, none⟩) (Kd.V_far (p := ⟨gb207, 2, none⟩) (Kd.V_far (p := ⟨gb207, 1, none⟩) (Kd.V_far (p := ⟨gb207, 0, none⟩) (Kd.V_mono (Kd.V_mono HO_0.out (fun k_ hk => (⟨hk, hk.2.2.1⟩ : _ ∧ k_ ≠ gb207))) (fun k_ hk => (⟨hk, hk.1.2.2.2⟩ : _ ∧ k_ ≠ gb208))) (fun _ hk => hk.1.2) (.int .i64 ((rd_T24 x0_3 x9_2).f0))) (fun _ hk => hk.1.2) (.int .u32 ((rd_T24 x0_3 x9_2).f1))) (fun _ hk => hk.1.2) (.int .u32 ((rd_T24 x0_3 x9_2).f2))) (fun _ hk => hk.1.2) (.string ((rd_T24 x0_3 x9_2).f3))) (fun _ hk => hk.2) (.int .i64 ((rd_T24 x0_3 x13_3).f0))) (fun _ hk => hk.2) (.int .u32 ((rd_T24 x0_3 x13_3).f1))) (fun _ hk => hk.2) (.int .u32 ((rd_T24 x0_3 x13_3).f2))) (fun _ hk => hk.2) (.string ((rd_T24 x0_3 x13_3).f3))) (fun _ hk => ⟨hk.1.1.1, ⟨hk.1.1.2.1, ⟨hk.1.1.2.2.1, hk.1.1.2.2.2⟩⟩⟩)⟩, ⟨by (with_reducible repeat (first | apply Kd.R_alloc | apply Kd.R_drewN | apply Kd.R_drew)); exact Kd.R_mono (Kd.R_far (p := ⟨gb208, 3, none⟩) (Kd.R_far (p := ⟨gb208, 2, none⟩) (Kd.R_far (p := ⟨gb208, 1, none⟩) (Kd.R_far (p := ⟨gb208, 0, none⟩) (Kd.R_far (p := ⟨gb207, 3, none⟩) (Kd.R_far (p := ⟨gb207, 2, none⟩) (Kd.R_far (p := ⟨gb207, 1, none⟩) (Kd.R_far (p := ⟨gb207, 0, none⟩) (Kd.R_types (Kd.R_types HO_3.out BK207.out (by decide)) BK208.out (by decide)) (fun _ hk => hk.1.2) (.int .i64 ((rd_T24 x0_3 x9_2).f0))) (fun _ hk => hk.1.2) (.int .u32 ((rd_T24 x0_3 x9_2).f1))) (fun _ hk => hk.1.2) (.int .u32 ((rd_T24 x0_3 x9_2).f2))) (fun _ hk => hk.1.2) (.string ((rd_T24 x0_3 x9_2).f3))) (fun _ hk => hk.2) (.int .i64 ((rd_T24 x0_3 x13_3).f0))) (fun _ hk => hk.2) (.int .u32 ((rd_T24 x0_3 x13_3).f1))) (fun _ hk => hk.2) (.int .u32 ((rd_T24 x0_3 x13_3).f2))) (fun _ hk => hk.2) (.string ((rd_T24 x0_3 x13_3).f3))) (fun _ hk => hk.1.1)⟩, ⟨by (with_reducible repeat (first | refine blk_drewN ?_ _ | refine blk_drew ?_ | refine blk_alloc ?_ _)); refine blk_far ?_ NB207_208.out _; (with_reducible repeat (first | refine blk_drewN ?_ _ | refine blk_drew ?_ | refine blk_alloc ?_ _)); refine blk_far ?_ NB207_208.out _; (with_reducible repeat (first | refine blk_drewN ?_ _ | refine blk_drew ?_ | refine blk_alloc ?_ _)); refine blk_far ?_ NB207_208.out _; (with_reducible repeat (first | refine blk_drewN ?_ _ | refine blk_drew ?_ | refine blk_alloc ?_ _)); refine blk_far ?_ NB207_208.out _; (with_reducible repeat (first | refine blk_drewN ?_ _ | refine blk_drew ?_ | refine blk_alloc ?_ _)); refine blk_put (cs := #[.int .i64 ((rd_T24 x0_3 x9_2).f0), .int .u32 ((rd_T24 x0_3 x9_2).f1), .int .u32 ((rd_T24 x0_3 x9_2).f2), .string x208003_3]) ?_ 3 _ rfl; (with_reducible repeat (first | refine blk_drewN ?_ _ | refine blk_drew ?_ | refine blk_alloc ?_ _)); refine blk_put (cs := #[.int .i64 ((rd_T24 x0_3 x9_2).f0), .int .u32 ((rd_T24 x0_3 x9_2).f1), .int .u32 x208002_3, .string x208003_3]) ?_ 2 _ rfl; (with_reducible repeat (first | refine blk_drewN ?_ _ | refine blk_drew ?_ | refine blk_alloc ?_ _)); refine blk_put (cs := #[.int .i64 ((rd_T24 x0_3 x9_2).f0), .int .u32 x208001_3, .int .u32 x208002_3, .string x208003_3]) ?_ 1 _ rfl; (with_reducible repeat (first | refine blk_drewN ?_ _ | refine blk_drew ?_ | refine blk_alloc ?_ _)); refine blk_put (cs := #[.int .i64 x208000_3, .int .u32 x208001_3, .int .u32 x208002_3, .string x208003_3]) ?_ 0 _ rfl; (with_reducible repeat (first | refine blk_drewN ?_ _ | refine blk_drew ?_ | refine blk_alloc ?_ _)); exact BK207.out⟩, ⟨by (with_reducible repeat (first | refine blk_drewN ?_ _ | refine blk_drew ?_ | refine blk_alloc ?_ _)); refine blk_put (cs := #[.int .i64 ((rd_T24 x0_3 x13_3).f0), .int .u32 ((rd_T24 x0_3 x13_3).f1), .int .u32 ((rd_T24 x0_3 x13_3).f2), .string x209003_3]) ?_ 3 _ rfl; (with_reducible repeat (first | refine blk_drewN ?_ _ | refine blk_drew ?_ | refine blk_alloc ?_ _)); refine blk_put (cs := #[.int .i64 ((rd_T24 x0_3 x13_3).f0), .int .u32 ((rd_T24 x0_3 x13_3).f1), .int .u32 x209002_3, .string x209003_3]) ?_ 2 _ rfl; (with_reducible repeat (first | refine blk_drewN ?_ _ | refine blk_drew ?_ | refine blk_alloc ?_ _)); refine blk_put (cs := #[.int .i64 ((rd_T24 x0_3 x13_3).f0), .int .u32 x209001_3, .int .u32 x209002_3, .string x209003_3]) ?_ 1 _ rfl; (with_reducible repeat (first | refine blk_drewN ?_ _ | refine blk_drew ?_ | refine blk_alloc ?_ _)); refine blk_put (cs := #[.int .i64 x209000_3, .int .u32 x209001_3, .int .u32 x209002_3, .string x209003_3]) ?_ 0 _ rfl; (with_reducible repeat (first | refine blk_drewN ?_ _ | refine blk_drew ?_ | refine blk_alloc ?_ _)); refine blk_far ?_ NB208_207.out _; (with_reducible repeat (first | refine blk_drewN ?_ _ | refine blk_drew ?_ | refine blk_alloc ?_ _)); refine blk_far ?_ NB208_207.out _; (with_reducible repeat (first | refine blk_drewN ?_ _ | refine blk_drew ?_ | refine blk_alloc ?_ _)); refine blk_far ?_ NB208_207.out _; (with_reducible repeat (first | refine blk_drewN ?_ _ | refine blk_drew ?_ | refine blk_alloc ?_ _)); refine blk_far ?_ NB208_207.out _; (with_reducible repeat (first | refine blk_drewN ?_ _ | refine blk_drew ?_ | refine blk_alloc ?_ _)); exact BK208.out⟩, ⟨by repeat (first | (with_reducible first | exact HB.out | apply below_alloc | apply pw_below_drewN | apply below_drew1 | refine below_set ?_ GE207.out | refine below_set ?_ GE208.out) | exact HB.out)⟩⟩
                                              · rw [if_neg c33] at H
                                                exact absurd H (by simp)
                                            · rw [if_neg c32] at H
                                              exact absurd H (by simp)
                                          · rw [if_neg c31] at H
                                            exact absurd H (by simp)
                                        · rw [if_neg c30] at H
                                          exact absurd H (by simp)
                                      · replace c29 := Bool.eq_false_iff.mpr c29
                                        subst c29
                                        have H1 : (croftlaw36_PairsTells.l1 kj24 x0_3 x3_2 x6_3 x7_3 x8_3 x9_2 x10_22 x11_22 x12_22 (wrap64 (x13_3 + 1)) x208000_3 x208001_3 x208002_3 x208003_3 x209000_3 x209001_3 x209002_3 x209003_3) = some r := by rw [if_neg (show ¬ (false = true) by decide)] at H; exact H
                                        clear H
                                        have H := H1
                                        clear H1
                                        have H' := Aside0.mk H
                                        clear H
                                        go_wp2
                                        go_roundg kj24
                                        case measure => have := HJ3.out; have := HK2.out; have := HK3.out; have := HJ17.out; have := HJ22.out; have := HJ24.out; omega
                                        case rel => exact ⟨(x6_3), (x7_3), (x8_3), (x10_22), (x11_22), (x12_22), (wrap64 (x13_3 + 1)), (x208000_3), (x208001_3), (x208002_3), (x208003_3), (x209000_3), (x209001_3), (x209002_3), (x209003_3), (by first | rfl | (simp; done) | (simp [*]; done)), (by first | rfl | (simp; done) | (simp [*]; done)), (by first | rfl | (simp; done) | (simp [*]; done)), (by first | rfl | (simp; done) | (simp [*]; done)), (by first | rfl | (simp; done) | (simp [*]; done)), (by first | rfl | (simp; done) | (simp [*]; done)), (by first | rfl | (simp; done) | (simp [*]; done)), H', ⟨by have := HJ3.out; have := HK2.out; have := HK3.out; have := HJ17.out; have := HJ22.out; have := HJ24.out; omega⟩, ⟨by (with_reducible repeat (first | apply Kd.V_alloc | apply Kd.V_drewN | apply Kd.V_drew)); exact HO_0.out⟩, ⟨by (with_reducible repeat (first | apply Kd.R_alloc | apply Kd.R_drewN | apply Kd.R_drew)); exact HO_3.out⟩, ⟨by (with_reducible repeat (first | refine blk_drewN ?_ _ | refine blk_drew ?_ | refine blk_alloc ?_ _)); exact BK207.out⟩, ⟨by (with_reducible repeat (first | refine blk_drewN ?_ _ | refine blk_drew ?_ | refine blk_alloc ?_ _)); exact BK208.out⟩, ⟨by repeat (first | (with_reducible first | exact HB.out | apply below_alloc | apply pw_below_drewN | apply below_drew1 | refine below_set ?_ GE207.out | refine below_set ?_ GE208.out) | exact HB.out)⟩⟩
                        · rw [if_neg c16] at H
                          exact absurd H (by simp)
                      · rw [if_neg c15] at H
                        exact absurd H (by simp)
                    · rw [if_neg c14] at H
                      exact absurd H (by simp)
                  · rw [if_neg c13] at H
                    have c13b0 : decide (x13_3 < (x0_3.length : Int)) = false := decide_eq_false c13
                    clear c13
                    by_cases c43 : x3_2.length < 17592186044416
                    · rw [if_pos c43] at H
                      have LMc43 := Aside0.mk c43
                      clear c43
                      obtain ⟨y209, hy209⟩ : ∃ y_ : List Int, y_ = (x3_2 ++ [x10_3]) := ⟨_, rfl⟩
                      replace H : (croftlaw36_PairsTells.l0 k3 x0_3 y209 x6_3 x7_3 x8_3 (wrap64 (x9_2 + 1)) x208000_3 x208001_3 x208002_3 x208003_3 x209000_3 x209001_3 x209002_3 x209003_3) = some r := by first | (rw [hy209]; with_reducible exact H) | (have H2_ := (Option.bind_some _ _).symm.trans H; rw [hy209]; with_reducible exact H2_) | (have H2_ := (Option.bind_some _ _).symm.trans H; with_reducible exact H2_) | with_reducible exact H | (rw [hy209]; exact H) | exact H
                      have Ny209 := Aside0.mk hy209
                      clear hy209
                      have H' := Aside0.mk H
                      clear H
                      go_wp2_with (first | ((with_reducible refine gate_builtin (b := .append) (xs := #[.tmp 103, .tmp 105]) rfl ?_); at_builtin; refine Kd.R_append (Kd.int .i64) (w0 := w) w.heap.size rfl (.tmp 103) (.tmp 105) 32 3 (.int .i64 0) 8 rfl Try.underlying32 info3 rfl (by decide) (by omega) u3 x3_2 x10_3 [.int .i64 x10_3] (fun k_ => (w.heap.size ≤ k_)) (fun _ => False) rfl rfl ?aP (fun _ hk => hk.elim) ?aF ?aO ?aB ?aS ?aL ?_; (case aP => exact rfl); (case aB => exact (by repeat (first | (with_reducible first | exact HB.out | apply below_alloc | apply pw_below_drewN | apply below_drew1 | refine below_set ?_ GE207.out | refine below_set ?_ GE208.out) | exact HB.out))); (case aF => exact (fun k_ hk => (Nat.le_trans (below_size (by repeat (first | (with_reducible first | exact HB.out | apply below_alloc | apply pw_below_drewN | apply below_drew1 | refine below_set ?_ GE207.out | refine below_set ?_ GE208.out) | exact HB.out))) hk))); (case aO => exact (by (with_reducible repeat (first | apply Kd.R_alloc | apply Kd.R_drewN | apply Kd.R_drew)); exact HO_3.out)); (case aS => exact (below_size (by repeat (first | (with_reducible first | exact HB.out | apply below_alloc | apply pw_below_drewN | apply below_drew1 | refine below_set ?_ GE207.out | refine below_set ?_ GE208.out) | exact HB.out)))); (case aL => have := LMc43.out; omega); intro v210 w44 ho hb hg hat; rw [← Ny209.out] at ho; have n0_ := Aside0.mk (Kd.V_afterv (ok := (fun k_ => (P0_ k_ ∨ w.heap.size ≤ k_) ∧ k_ ≠ gb207 ∧ k_ ≠ gb208)) (by (with_reducible repeat (first | apply Kd.V_alloc | apply Kd.V_drewN | apply Kd.V_drew)); exact Kd.V_mono HO_0.out (fun _ hk => ⟨⟨hk.1, ⟨hk.2.2.1, hk.2.2.2⟩⟩, hk.2.1⟩)) hg hat); have n1_ := Aside0.mk (blk_grown (g := gb207) (o := .cells #[.int .i64 x208000_3, .int .u32 x208001_3, .int .u32 x208002_3, .string x208003_3] 24 (0, 0)) (by (with_reducible repeat (first | refine blk_drewN ?_ _ | refine blk_drew ?_ | refine blk_alloc ?_ _)); exact BK207.out) hg (Kd.R_ne HO_3.out BK207.out (by decide))); have n2_ := Aside0.mk (blk_grown (g := gb208) (o := .cells #[.int .i64 x209000_3, .int .u32 x209001_3, .int .u32 x209002_3, .string x209003_3] 24 (0, 0)) (by (with_reducible repeat (first | refine blk_drewN ?_ _ | refine blk_drew ?_ | refine blk_alloc ?_ _)); exact BK208.out) hg (Kd.R_ne HO_3.out BK208.out (by decide))); have n3_ := Aside0.mk (hb); have n4_ := Aside0.mk (ho); clear HO_0; clear BK207; clear BK208; clear HB; clear HO_3; have HO_0 := n0_; have BK207 := n1_; have BK208 := n2_; have HB := n3_; have HO211 := n4_; clear n0_ n1_ n2_ n3_ n4_; clear ho hb hg hat))
                      go_roundg k3
                      case measure => have := HJ3.out; have := HK2.out; have := HK3.out; omega
                      case rel => exact ⟨(y209), (x6_3), (x7_3), (x8_3), (wrap64 (x9_2 + 1)), (x208000_3), (x208001_3), (x208002_3), (x208003_3), (x209000_3), (x209001_3), (x209002_3), (x209003_3), (by first | rfl | (simp; done) | (simp [*]; done)), (by first | rfl | (simp; done) | (simp [*]; done)), (by first | rfl | (simp; done) | (simp [*]; done)), (by first | rfl | (simp; done) | (simp [*]; done)), H', ⟨by have := HJ3.out; have := HK2.out; have := HK3.out; omega⟩, ⟨by (with_reducible repeat (first | apply Kd.V_alloc | apply Kd.V_drewN | apply Kd.V_drew)); exact Kd.V_mono HO_0.out (fun _ hk => ⟨hk.1.1, ⟨hk.2, ⟨hk.1.2.1, hk.1.2.2⟩⟩⟩)⟩, ⟨by (with_reducible repeat (first | apply Kd.R_alloc | apply Kd.R_drewN | apply Kd.R_drew)); exact HO211.out⟩, ⟨by (with_reducible repeat (first | refine blk_drewN ?_ _ | refine blk_drew ?_ | refine blk_alloc ?_ _)); exact BK207.out⟩, ⟨by (with_reducible repeat (first | refine blk_drewN ?_ _ | refine blk_drew ?_ | refine blk_alloc ?_ _)); exact BK208.out⟩, ⟨by repeat (first | (with_reducible first | exact HB.out | apply below_alloc | apply pw_below_drewN | apply below_drew1 | refine below_set ?_ GE207.out | refine below_set ?_ GE208.out) | exact HB.out)⟩⟩
                    · rw [if_neg c43] at H
                      exact absurd H (by simp)
            · rw [if_neg c11] at H
              have c11b0 : decide (x9_2 < (x0_3.length : Int)) = false := decide_eq_false c11
              clear c11
              replace H := Option.bind_eq_some_iff.mp H
              obtain ⟨⟨t222, t223, t224, t225, t226, t227, t228, t229, t230⟩, A450, H⟩ := H
              replace H : ((pairs_Nearest.f k2 x0_3).bind fun t233 => ((croftplain_Ints.f k2 t233 x3_2).bind fun t236 => (if t236 = true then (if (t222 == x208000_2 && (t223 == x208001_2 && (t224 == x208002_2 && (t225.toList == x208003_2.toList)))) = true then (if (t226 == x209000_2 && (t227 == x209001_2 && (t228 == x209002_2 && (t229.toList == x209003_2.toList)))) = true then (some (t230 == x8_2)) else (some false)) else (some false)) else (some false)))) = some r := H
              have A45 := Aside0.mk A450
              clear A450
              replace H := Option.bind_eq_some_iff.mp H
              obtain ⟨t233, A460, H⟩ := H
              replace H : ((croftplain_Ints.f k2 t233 x3_2).bind fun t236 => (if t236 = true then (if (t222 == x208000_2 && (t223 == x208001_2 && (t224 == x208002_2 && (t225.toList == x208003_2.toList)))) = true then (if (t226 == x209000_2 && (t227 == x209001_2 && (t228 == x209002_2 && (t229.toList == x209003_2.toList)))) = true then (some (t230 == x8_2)) else (some false)) else (some false)) else (some false))) = some r := H
              have A46 := Aside0.mk A460
              clear A460
              replace H := Option.bind_eq_some_iff.mp H
              obtain ⟨t236, A470, H⟩ := H
              replace H : (if t236 = true then (if (t222 == x208000_2 && (t223 == x208001_2 && (t224 == x208002_2 && (t225.toList == x208003_2.toList)))) = true then (if (t226 == x209000_2 && (t227 == x209001_2 && (t228 == x209002_2 && (t229.toList == x209003_2.toList)))) = true then (some (t230 == x8_2)) else (some false)) else (some false)) else (some false)) = some r := H
              have A47 := Aside0.mk A470
              clear A470
              by_cases c48 : t236 = true
              · subst c48
                have H1 : (if (t222 == x208000_2 && (t223 == x208001_2 && (t224 == x208002_2 && (t225.toList == x208003_2.toList)))) = true then (if (t226 == x209000_2 && (t227 == x209001_2 && (t228 == x209002_2 && (t229.toList == x209003_2.toList)))) = true then (some (t230 == x8_2)) else (some false)) else (some false)) = some r := by rw [if_pos rfl] at H; exact H
                clear H
                have H := H1
                clear H1
                by_cases c49 : (t222 == x208000_2 && (t223 == x208001_2 && (t224 == x208002_2 && (t225.toList == x208003_2.toList)))) = true
                · rw [if_pos c49] at H
                  have c49b0 : (t222 == x208000_2 && (t223 == x208001_2 && (t224 == x208002_2 && (t225.toList == x208003_2.toList)))) = true := c49
                  (try (have c49b1 : decide (t222 = x208000_2 && (t223 == x208001_2 && (t224 == x208002_2 && (t225.toList == x208003_2.toList)))) = true := by simpa using c49))
                  (try (have c49b2 : (t222 == x208000_2 && (t223 == x208001_2 && (t224 == x208002_2 && (t225.toList == x208003_2.toList)))) = true := by simpa using c49))
                  clear c49
                  by_cases c50 : (t226 == x209000_2 && (t227 == x209001_2 && (t228 == x209002_2 && (t229.toList == x209003_2.toList)))) = true
                  · rw [if_pos c50] at H
                    have c50b0 : (t226 == x209000_2 && (t227 == x209001_2 && (t228 == x209002_2 && (t229.toList == x209003_2.toList)))) = true := c50
                    (try (have c50b1 : decide (t226 = x209000_2 && (t227 == x209001_2 && (t228 == x209002_2 && (t229.toList == x209003_2.toList)))) = true := by simpa using c50))
                    (try (have c50b2 : (t226 == x209000_2 && (t227 == x209001_2 && (t228 == x209002_2 && (t229.toList == x209003_2.toList)))) = true := by simpa using c50))
                    clear c50
                    obtain rfl := Option.some.inj H
                    simp only [Option.some.injEq, Prod.mk.injEq] at H
                    obtain ⟨rfl⟩ := H
                    obtain ⟨Ao51, co51, eo51⟩ := Kd.V_slice HO_0.out
                    subst eo51
                    go_wp2_with (first | ((with_reducible refine gate_callee (f := 22) rfl ?_); refine goesL_ (some 109) rfl rfl Try.func22 (by kernel_rfl) rfl #[.slice Ao51 x0_3.length co51] rfl (by (try simp only [List.map_toArray, List.map_cons, List.map_nil]); first | done | rfl | (simp only [List.length_drop, List.length_take]; rfl)) ?_; (with_reducible refine (pairs_Closest.calls k2 _ _ x0_3 t222 t223 t224 t225 t226 t227 t228 t229 t230 _ ?side1 ?side2 A45.out).mono ?_); (case side1 => repeat (first | exact (Kd.V_reads' HO_0.out).2.2 | (with_reducible refine Kd.C_alloc ?_ _) | (with_reducible refine Kd.C_drewN ?_ _) | (with_reducible refine Kd.C_drew ?_))); (case side2 => exact (Kd.V_reads' HO_0.out).2.1); rintro e w52 ⟨rfl, hb⟩; refine ⟨_, rfl, ?_⟩; have n0_ := Aside0.mk (Kd.V_below (by (with_reducible repeat (first | apply Kd.V_alloc | apply Kd.V_drewN | apply Kd.V_drew)); exact HO_0.out) hb); have n1_ := Aside0.mk (Kd.R_below (by (with_reducible repeat (first | apply Kd.R_alloc | apply Kd.R_drewN | apply Kd.R_drew)); exact HO_3.out) hb); have n2_ := Aside0.mk (blk_below (g := gb207) (o := .cells #[.int .i64 x208000_2, .int .u32 x208001_2, .int .u32 x208002_2, .string x208003_2] 24 (0, 0)) (by (with_reducible repeat (first | refine blk_drewN ?_ _ | refine blk_drew ?_ | refine blk_alloc ?_ _)); exact BK207.out) hb); have n3_ := Aside0.mk (blk_below (g := gb208) (o := .cells #[.int .i64 x209000_2, .int .u32 x209001_2, .int .u32 x209002_2, .string x209003_2] 24 (0, 0)) (by (with_reducible repeat (first | refine blk_drewN ?_ _ | refine blk_drew ?_ | refine blk_alloc ?_ _)); exact BK208.out) hb); have n4_ := Aside0.mk (below_step (by repeat (first | (with_reducible first | exact HB.out | apply below_alloc | apply pw_below_drewN | apply below_drew1 | refine below_set ?_ GE207.out | refine below_set ?_ GE208.out) | exact HB.out)) hb); clear HO_0; clear HO_3; clear BK207; clear BK208; clear HB; have HO_0 := n0_; have HO_3 := n1_; have BK207 := n2_; have BK208 := n3_; have HB := n4_; clear n0_ n1_ n2_ n3_ n4_; (try clear hb); (try clear hb2); (try clear hk); (try clear hi)) | ((with_reducible refine gate_dst (N := 16) rfl ?_); refine box_event ?hg (N := 16) ?hd (cs := #[.int .i64 0, .int .u32 0, .int .u32 0, .string (⟨#[]⟩ : ByteArray)]) (t := 24) ?hr ?_; (case hd => rfl); (case hg => rfl); (case hr => first | (go_simp; done) | (go_simp; rfl)); intro gb231 hg w53 hbox hb; have n0_ := Aside0.mk (Kd.V_below (Kd.V_elderB (by (with_reducible repeat (first | apply Kd.V_alloc | apply Kd.V_drewN | apply Kd.V_drew)); exact HO_0.out) gb231 (Nat.le_of_eq hg.symm)) hb); have n1_ := Aside0.mk (Kd.R_below (by (with_reducible repeat (first | apply Kd.R_alloc | apply Kd.R_drewN | apply Kd.R_drew)); exact HO_3.out) hb); have n2_ := Aside0.mk (blk_below (g := gb207) (o := .cells #[.int .i64 x208000_2, .int .u32 x208001_2, .int .u32 x208002_2, .string x208003_2] 24 (0, 0)) (by (with_reducible repeat (first | refine blk_drewN ?_ _ | refine blk_drew ?_ | refine blk_alloc ?_ _)); exact BK207.out) hb); have n3_ := Aside0.mk (blk_below (g := gb208) (o := .cells #[.int .i64 x209000_2, .int .u32 x209001_2, .int .u32 x209002_2, .string x209003_2] 24 (0, 0)) (by (with_reducible repeat (first | refine blk_drewN ?_ _ | refine blk_drew ?_ | refine blk_alloc ?_ _)); exact BK208.out) hb); have n4_ := Aside0.mk (below_step (by repeat (first | (with_reducible first | exact HB.out | apply below_alloc | apply pw_below_drewN | apply below_drew1 | refine below_set ?_ GE207.out | refine below_set ?_ GE208.out) | exact HB.out)) hb); have n5_ := Aside0.mk (hbox); have n6_ := Aside0.mk ((by rw [hg]; exact (below_size (by repeat (first | (with_reducible first | exact HB.out | apply below_alloc | apply pw_below_drewN | apply below_drew1 | refine below_set ?_ GE207.out | refine below_set ?_ GE208.out) | exact HB.out))) : w.heap.size ≤ gb231)); have n7_ := Aside0.mk ((by rw [hg]; exact (below_size (by repeat (first | (with_reducible first | exact HB.out | apply below_alloc | apply pw_below_drewN | apply below_drew1 | refine below_set ?_ GE207.out | refine below_set ?_ GE208.out) | exact HB.out))) : w.heap.size ≤ gb231)); have n8_ := Aside0.mk ((by rw [hg]; exact Nat.ne_of_lt (blk_lt (g := gb207) (o := .cells #[.int .i64 x208000_2, .int .u32 x208001_2, .int .u32 x208002_2, .string x208003_2] 24 (0, 0)) (by (with_reducible repeat (first | refine blk_drewN ?_ _ | refine blk_drew ?_ | refine blk_alloc ?_ _)); exact BK207.out)) : gb207 ≠ gb231)); have n9_ := Aside0.mk ((by rw [hg]; exact Nat.ne_of_gt (blk_lt (g := gb207) (o := .cells #[.int .i64 x208000_2, .int .u32 x208001_2, .int .u32 x208002_2, .string x208003_2] 24 (0, 0)) (by (with_reducible repeat (first | refine blk_drewN ?_ _ | refine blk_drew ?_ | refine blk_alloc ?_ _)); exact BK207.out)) : gb231 ≠ gb207)); have n10_ := Aside0.mk ((by rw [hg]; exact Nat.ne_of_lt (blk_lt (g := gb208) (o := .cells #[.int .i64 x209000_2, .int .u32 x209001_2, .int .u32 x209002_2, .string x209003_2] 24 (0, 0)) (by (with_reducible repeat (first | refine blk_drewN ?_ _ | refine blk_drew ?_ | refine blk_alloc ?_ _)); exact BK208.out)) : gb208 ≠ gb231)); have n11_ := Aside0.mk ((by rw [hg]; exact Nat.ne_of_gt (blk_lt (g := gb208) (o := .cells #[.int .i64 x209000_2, .int .u32 x209001_2, .int .u32 x209002_2, .string x209003_2] 24 (0, 0)) (by (with_reducible repeat (first | refine blk_drewN ?_ _ | refine blk_drew ?_ | refine blk_alloc ?_ _)); exact BK208.out)) : gb231 ≠ gb208)); clear HO_0; clear HO_3; clear BK207; clear BK208; clear HB; have HO_0 := n0_; have HO_3 := n1_; have BK207 := n2_; have BK208 := n3_; have HB := n4_; have BK231 := n5_; have GW231 := n6_; have GE231 := n7_; have NB207_231 := n8_; have NB231_207 := n9_; have NB208_231 := n10_; have NB231_208 := n11_; clear n0_ n1_ n2_ n3_ n4_ n5_ n6_ n7_ n8_ n9_ n10_ n11_; clear hb hbox hg) | ((with_reducible refine gate_dst (N := 17) rfl ?_); refine box_event ?hg (N := 17) ?hd (cs := #[.int .i64 0, .int .u32 0, .int .u32 0, .string (⟨#[]⟩ : ByteArray)]) (t := 24) ?hr ?_; (case hd => rfl); (case hg => rfl); (case hr => first | (go_simp; done) | (go_simp; rfl)); intro gb232 hg w54 hbox hb; have n0_ := Aside0.mk (Kd.V_below (Kd.V_elderB (by (with_reducible repeat (first | apply Kd.V_alloc | apply Kd.V_drewN | apply Kd.V_drew)); exact HO_0.out) gb232 (Nat.le_of_eq hg.symm)) hb); have n1_ := Aside0.mk (Kd.R_below (by (with_reducible repeat (first | apply Kd.R_alloc | apply Kd.R_drewN | apply Kd.R_drew)); exact HO_3.out) hb); have n2_ := Aside0.mk (blk_below (g := gb207) (o := .cells #[.int .i64 x208000_2, .int .u32 x208001_2, .int .u32 x208002_2, .string x208003_2] 24 (0, 0)) (by (with_reducible repeat (first | refine blk_drewN ?_ _ | refine blk_drew ?_ | refine blk_alloc ?_ _)); exact BK207.out) hb); have n3_ := Aside0.mk (blk_below (g := gb208) (o := .cells #[.int .i64 x209000_2, .int .u32 x209001_2, .int .u32 x209002_2, .string x209003_2] 24 (0, 0)) (by (with_reducible repeat (first | refine blk_drewN ?_ _ | refine blk_drew ?_ | refine blk_alloc ?_ _)); exact BK208.out) hb); have n4_ := Aside0.mk (blk_below (g := gb231) (o := .cells #[.int .i64 0, .int .u32 0, .int .u32 0, .string (⟨#[]⟩ : ByteArray)] 24 (0, 0)) (by (with_reducible repeat (first | refine blk_drewN ?_ _ | refine blk_drew ?_ | refine blk_alloc ?_ _)); exact BK231.out) hb); have n5_ := Aside0.mk (below_step (by repeat (first | (with_reducible first | exact HB.out | apply below_alloc | apply pw_below_drewN | apply below_drew1 | refine below_set ?_ GE207.out | refine below_set ?_ GE208.out | refine below_set ?_ GE231.out) | exact HB.out)) hb); have n6_ := Aside0.mk (hbox); have n7_ := Aside0.mk ((by rw [hg]; exact (below_size (by repeat (first | (with_reducible first | exact HB.out | apply below_alloc | apply pw_below_drewN | apply below_drew1 | refine below_set ?_ GE207.out | refine below_set ?_ GE208.out | refine below_set ?_ GE231.out) | exact HB.out))) : w.heap.size ≤ gb232)); have n8_ := Aside0.mk ((by rw [hg]; exact (below_size (by repeat (first | (with_reducible first | exact HB.out | apply below_alloc | apply pw_below_drewN | apply below_drew1 | refine below_set ?_ GE207.out | refine below_set ?_ GE208.out | refine below_set ?_ GE231.out) | exact HB.out))) : w.heap.size ≤ gb232)); have n9_ := Aside0.mk ((by rw [hg]; exact Nat.ne_of_lt (blk_lt (g := gb207) (o := .cells #[.int .i64 x208000_2, .int .u32 x208001_2, .int .u32 x208002_2, .string x208003_2] 24 (0, 0)) (by (with_reducible repeat (first | refine blk_drewN ?_ _ | refine blk_drew ?_ | refine blk_alloc ?_ _)); exact BK207.out)) : gb207 ≠ gb232)); have n10_ := Aside0.mk ((by rw [hg]; exact Nat.ne_of_gt (blk_lt (g := gb207) (o := .cells #[.int .i64 x208000_2, .int .u32 x208001_2, .int .u32 x208002_2, .string x208003_2] 24 (0, 0)) (by (with_reducible repeat (first | refine blk_drewN ?_ _ | refine blk_drew ?_ | refine blk_alloc ?_ _)); exact BK207.out)) : gb232 ≠ gb207)); have n11_ := Aside0.mk ((by rw [hg]; exact Nat.ne_of_lt (blk_lt (g := gb208) (o := .cells #[.int .i64 x209000_2, .int .u32 x209001_2, .int .u32 x209002_2, .string x209003_2] 24 (0, 0)) (by (with_reducible repeat (first | refine blk_drewN ?_ _ | refine blk_drew ?_ | refine blk_alloc ?_ _)); exact BK208.out)) : gb208 ≠ gb232)); have n12_ := Aside0.mk ((by rw [hg]; exact Nat.ne_of_gt (blk_lt (g := gb208) (o := .cells #[.int .i64 x209000_2, .int .u32 x209001_2, .int .u32 x209002_2, .string x209003_2] 24 (0, 0)) (by (with_reducible repeat (first | refine blk_drewN ?_ _ | refine blk_drew ?_ | refine blk_alloc ?_ _)); exact BK208.out)) : gb232 ≠ gb208)); have n13_ := Aside0.mk ((by rw [hg]; exact Nat.ne_of_lt (blk_lt (g := gb231) (o := .cells #[.int .i64 0, .int .u32 0, .int .u32 0, .string (⟨#[]⟩ : ByteArray)] 24 (0, 0)) (by (with_reducible repeat (first | refine blk_drewN ?_ _ | refine blk_drew ?_ | refine blk_alloc ?_ _)); exact BK231.out)) : gb231 ≠ gb232)); have n14_ := Aside0.mk ((by rw [hg]; exact Nat.ne_of_gt (blk_lt (g := gb231) (o := .cells #[.int .i64 0, .int .u32 0, .int .u32 0, .string (⟨#[]⟩ : ByteArray)] 24 (0, 0)) (by (with_reducible repeat (first | refine blk_drewN ?_ _ | refine blk_drew ?_ | refine blk_alloc ?_ _)); exact BK231.out)) : gb232 ≠ gb231)); clear HO_0; clear HO_3; clear BK207; clear BK208; clear BK231; clear HB; have HO_0 := n0_; have HO_3 := n1_; have BK207 := n2_; have BK208 := n3_; have BK231 := n4_; have HB := n5_; have BK232 := n6_; have GW232 := n7_; have GE232 := n8_; have NB207_232 := n9_; have NB232_207 := n10_; have NB208_232 := n11_; have NB232_208 := n12_; have NB231_232 := n13_; have NB232_231 := n14_; clear n0_ n1_ n2_ n3_ n4_ n5_ n6_ n7_ n8_ n9_ n10_ n11_ n12_ n13_ n14_; clear hb hbox hg; have hnb55 := NB231_207.out; have hnc55 := NB207_231.out; have hnb56 := NB231_208.out; have hnc56 := NB208_231.out; have hnb57 := NB231_232.out; have hnc57 := NB232_231.out; have hcz58_0 : w54.cell? ⟨gb231, 0, none⟩ = some (.int .i64 0) := (blk_cell BK231.out 0).trans rfl; have hcz58_1 : w54.cell? ⟨gb231, 1, none⟩ = some (.int .u32 0) := (blk_cell BK231.out 1).trans rfl; have hcz58_2 : w54.cell? ⟨gb231, 2, none⟩ = some (.int .u32 0) := (blk_cell BK231.out 2).trans rfl; have hcz58_3 : w54.cell? ⟨gb231, 3, none⟩ = some (.string (⟨#[]⟩ : ByteArray)) := (blk_cell BK231.out 3).trans rfl; have hfz58_0 := blk_frozen BK231.out 0; have hfz58_1 := blk_frozen BK231.out 1; have hfz58_2 := blk_frozen BK231.out 2; have hfz58_3 := blk_frozen BK231.out 3; have hnb59 := NB232_207.out; have hnc59 := NB207_232.out; have hnb60 := NB232_208.out; have hnc60 := NB208_232.out; have hcz61_0 : w54.cell? ⟨gb232, 0, none⟩ = some (.int .i64 0) := (blk_cell BK232.out 0).trans rfl; have hcz61_1 : w54.cell? ⟨gb232, 1, none⟩ = some (.int .u32 0) := (blk_cell BK232.out 1).trans rfl; have hcz61_2 : w54.cell? ⟨gb232, 2, none⟩ = some (.int .u32 0) := (blk_cell BK232.out 2).trans rfl; have hcz61_3 : w54.cell? ⟨gb232, 3, none⟩ = some (.string (⟨#[]⟩ : ByteArray)) := (blk_cell BK232.out 3).trans rfl; have hfz61_0 := blk_frozen BK232.out 0; have hfz61_1 := blk_frozen BK232.out 1; have hfz61_2 := blk_frozen BK232.out 2; have hfz61_3 := blk_frozen BK232.out 3) | ((with_reducible refine gate_callee (f := 24) rfl ?_); refine goesL_ (some 114) rfl rfl Try.func24 (by kernel_rfl) rfl #[.slice Ao51 x0_3.length co51] rfl (by (try simp only [List.map_toArray, List.map_cons, List.map_nil]); first | done | rfl | (simp only [List.length_drop, List.length_take]; rfl)) ?_; (with_reducible refine (pairs_Nearest.calls k2 _ _ x0_3 t233 _ ?side1 ?side2 A46.out).mono ?_); (case side1 => refine (Kd.V_reads' (e := 24) (base := w.heap.size) (ok := fun k_ => ((((P0_ k_ ∨ w.heap.size ≤ k_) ∧ (some k_ ≠ (u3 : Value).ownBlock ∧ (k_ ≠ gb207 ∧ k_ ≠ gb208))) ∧ k_ ≠ gb231) ∧ k_ ≠ gb232)) (n := x0_3.length) (c := co51) ?_).2.2; exact (by (with_reducible repeat (first | apply Kd.V_alloc | apply Kd.V_drewN | apply Kd.V_drew)); exact (Kd.V_mono (Kd.V_mono (Kd.V_far (p := ⟨gb232, 3, none⟩) (Kd.V_far (p := ⟨gb232, 2, none⟩) (Kd.V_far (p := ⟨gb232, 1, none⟩) (Kd.V_far (p := ⟨gb232, 0, none⟩) (Kd.V_far (p := ⟨gb231, 3, none⟩) (Kd.V_far (p := ⟨gb231, 2, none⟩) (Kd.V_far (p := ⟨gb231, 1, none⟩) (Kd.V_far (p := ⟨gb231, 0, none⟩) (Kd.V_mono (Kd.V_mono HO_0.out (fun k_ hk => (⟨hk, hk.1.2⟩ : _ ∧ k_ ≠ gb231))) (fun k_ hk => (⟨hk, hk.1.2⟩ : _ ∧ k_ ≠ gb232))) (fun _ hk => hk.1.2) (.int .i64 t222)) (fun _ hk => hk.1.2) (.int .u32 t223)) (fun _ hk => hk.1.2) (.int .u32 t224)) (fun _ hk => hk.1.2) (.string t225)) (fun _ hk => hk.2) (.int .i64 t226)) (fun _ hk => hk.2) (.int .u32 t227)) (fun _ hk => hk.2) (.int .u32 t228)) (fun _ hk => hk.2) (.string t229)) (fun _ h_ => h_.1)) (fun _ h_ => h_.1)))); (case side2 => exact (Kd.V_reads' HO_0.out).2.1); rintro e w62 ⟨v234, rfl, ho0, hb⟩; refine ⟨_, rfl, ?_⟩; have n0_ := Aside0.mk (Kd.V_elder' (by (with_reducible repeat (first | apply Kd.V_alloc | apply Kd.V_drewN | apply Kd.V_drew)); exact (Kd.V_mono (Kd.V_mono (Kd.V_far (p := ⟨gb232, 3, none⟩) (Kd.V_far (p := ⟨gb232, 2, none⟩) (Kd.V_far (p := ⟨gb232, 1, none⟩) (Kd.V_far (p := ⟨gb232, 0, none⟩) (Kd.V_far (p := ⟨gb231, 3, none⟩) (Kd.V_far (p := ⟨gb231, 2, none⟩) (Kd.V_far (p := ⟨gb231, 1, none⟩) (Kd.V_far (p := ⟨gb231, 0, none⟩) (Kd.V_mono (Kd.V_mono HO_0.out (fun k_ hk => (⟨hk, hk.1.2⟩ : _ ∧ k_ ≠ gb231))) (fun k_ hk => (⟨hk, hk.1.2⟩ : _ ∧ k_ ≠ gb232))) (fun _ hk => hk.1.2) (.int .i64 t222)) (fun _ hk => hk.1.2) (.int .u32 t223)) (fun _ hk => hk.1.2) (.int .u32 t224)) (fun _ hk => hk.1.2) (.string t225)) (fun _ hk => hk.2) (.int .i64 t226)) (fun _ hk => hk.2) (.int .u32 t227)) (fun _ hk => hk.2) (.int .u32 t228)) (fun _ hk => hk.2) (.string t229)) (fun _ h_ => h_.1)) (fun _ h_ => h_.1))) (Kd.R_base ho0) hb); have n1_ := Aside0.mk (Kd.R_elder' (by (with_reducible repeat (first | apply Kd.R_alloc | apply Kd.R_drewN | apply Kd.R_drew)); exact (Kd.R_mono (Kd.R_mono (Kd.R_far (p := ⟨gb232, 3, none⟩) (Kd.R_far (p := ⟨gb232, 2, none⟩) (Kd.R_far (p := ⟨gb232, 1, none⟩) (Kd.R_far (p := ⟨gb232, 0, none⟩) (Kd.R_far (p := ⟨gb231, 3, none⟩) (Kd.R_far (p := ⟨gb231, 2, none⟩) (Kd.R_far (p := ⟨gb231, 1, none⟩) (Kd.R_far (p := ⟨gb231, 0, none⟩) (Kd.R_types (Kd.R_types HO_3.out BK231.out (by decide)) BK232.out (by decide)) (fun _ hk => hk.1.2) (.int .i64 t222)) (fun _ hk => hk.1.2) (.int .u32 t223)) (fun _ hk => hk.1.2) (.int .u32 t224)) (fun _ hk => hk.1.2) (.string t225)) (fun _ hk => hk.2) (.int .i64 t226)) (fun _ hk => hk.2) (.int .u32 t227)) (fun _ hk => hk.2) (.int .u32 t228)) (fun _ hk => hk.2) (.string t229)) (fun _ h_ => h_.1)) (fun _ h_ => h_.1))) (Kd.R_base ho0) hb); have n2_ := Aside0.mk (Kd.R_lower (Kd.R_new' (Kd.R_newM (M := fun k_ => (w.heap.size ≤ k_)) ho0 (below_size (by repeat (first | (with_reducible first | exact HB.out | apply below_alloc | apply pw_below_drewN | apply below_drew1 | refine below_set ?_ GE207.out | refine below_set ?_ GE208.out | refine below_set ?_ GE231.out | refine below_set ?_ GE232.out) | exact HB.out))) (fun k_ h_ => h_)) (Kd.R_lt (by (with_reducible repeat (first | apply Kd.R_alloc | apply Kd.R_drewN | apply Kd.R_drew)); exact (Kd.R_mono (Kd.R_mono (Kd.R_far (p := ⟨gb232, 3, none⟩) (Kd.R_far (p := ⟨gb232, 2, none⟩) (Kd.R_far (p := ⟨gb232, 1, none⟩) (Kd.R_far (p := ⟨gb232, 0, none⟩) (Kd.R_far (p := ⟨gb231, 3, none⟩) (Kd.R_far (p := ⟨gb231, 2, none⟩) (Kd.R_far (p := ⟨gb231, 1, none⟩) (Kd.R_far (p := ⟨gb231, 0, none⟩) (Kd.R_types (Kd.R_types HO_3.out BK231.out (by decide)) BK232.out (by decide)) (fun _ hk => hk.1.2) (.int .i64 t222)) (fun _ hk => hk.1.2) (.int .u32 t223)) (fun _ hk => hk.1.2) (.int .u32 t224)) (fun _ hk => hk.1.2) (.string t225)) (fun _ hk => hk.2) (.int .i64 t226)) (fun _ hk => hk.2) (.int .u32 t227)) (fun _ hk => hk.2) (.int .u32 t228)) (fun _ hk => hk.2) (.string t229)) (fun _ h_ => h_.1)) (fun _ h_ => h_.1))))) (below_size (by repeat (first | (with_reducible first | exact HB.out | apply below_alloc | apply pw_below_drewN | apply below_drew1 | refine below_set ?_ GE207.out | refine below_set ?_ GE208.out | refine below_set ?_ GE231.out | refine below_set ?_ GE232.out) | exact HB.out)))); have n3_ := Aside0.mk (blk_below (g := gb207) (o := .cells #[.int .i64 x208000_2, .int .u32 x208001_2, .int .u32 x208002_2, .string x208003_2] 24 (0, 0)) (by (with_reducible repeat (first | refine blk_drewN ?_ _ | refine blk_drew ?_ | refine blk_alloc ?_ _)); refine blk_far ?_ NB207_232.out _; (with_reducible repeat (first | refine blk_drewN ?_ _ | refine blk_drew ?_ | refine blk_alloc ?_ _)); refine blk_far ?_ NB207_232.out _; (with_reducible repeat (first | refine blk_drewN ?_ _ | refine blk_drew ?_ | refine blk_alloc ?_ _)); refine blk_far ?_ NB207_232.out _; (with_reducible repeat (first | refine blk_drewN ?_ _ | refine blk_drew ?_ | refine blk_alloc ?_ _)); refine blk_far ?_ NB207_232.out _; (with_reducible repeat (first | refine blk_drewN ?_ _ | refine blk_drew ?_ | refine blk_alloc ?_ _)); refine blk_far ?_ NB207_231.out _; (with_reducible repeat (first | refine blk_drewN ?_ _ | refine blk_drew ?_ | refine blk_alloc ?_ _)); refine blk_far ?_ NB207_231.out _; (with_reducible repeat (first | refine blk_drewN ?_ _ | refine blk_drew ?_ | refine blk_alloc ?_ _)); refine blk_far ?_ NB207_231.out _; (with_reducible repeat (first | refine blk_drewN ?_ _ | refine blk_drew ?_ | refine blk_alloc ?_ _)); refine blk_far ?_ NB207_231.out _; (with_reducible repeat (first | refine blk_drewN ?_ _ | refine blk_drew ?_ | refine blk_alloc ?_ _)); exact BK207.out) hb); have n4_ := Aside0.mk (blk_below (g := gb208) (o := .cells #[.int .i64 x209000_2, .int .u32 x209001_2, .int .u32 x209002_2, .string x209003_2] 24 (0, 0)) (by (with_reducible repeat (first | refine blk_drewN ?_ _ | refine blk_drew ?_ | refine blk_alloc ?_ _)); refine blk_far ?_ NB208_232.out _; (with_reducible repeat (first | refine blk_drewN ?_ _ | refine blk_drew ?_ | refine blk_alloc ?_ _)); refine blk_far ?_ NB208_232.out _; (with_reducible repeat (first | refine blk_drewN ?_ _ | refine blk_drew ?_ | refine blk_alloc ?_ _)); refine blk_far ?_ NB208_232.out _; (with_reducible repeat (first | refine blk_drewN ?_ _ | refine blk_drew ?_ | refine blk_alloc ?_ _)); refine blk_far ?_ NB208_232.out _; (with_reducible repeat (first | refine blk_drewN ?_ _ | refine blk_drew ?_ | refine blk_alloc ?_ _)); refine blk_far ?_ NB208_231.out _; (with_reducible repeat (first | refine blk_drewN ?_ _ | refine blk_drew ?_ | refine blk_alloc ?_ _)); refine blk_far ?_ NB208_231.out _; (with_reducible repeat (first | refine blk_drewN ?_ _ | refine blk_drew ?_ | refine blk_alloc ?_ _)); refine blk_far ?_ NB208_231.out _; (with_reducible repeat (first | refine blk_drewN ?_ _ | refine blk_drew ?_ | refine blk_alloc ?_ _)); refine blk_far ?_ NB208_231.out _; (with_reducible repeat (first | refine blk_drewN ?_ _ | refine blk_drew ?_ | refine blk_alloc ?_ _)); exact BK208.out) hb); have n5_ := Aside0.mk (blk_below (g := gb231) (o := .cells #[.int .i64 t222, .int .u32 t223, .int .u32 t224, .string t225] 24 (0, 0)) (by (with_reducible repeat (first | refine blk_drewN ?_ _ | refine blk_drew ?_ | refine blk_alloc ?_ _)); refine blk_far ?_ NB231_232.out _; (with_reducible repeat (first | refine blk_drewN ?_ _ | refine blk_drew ?_ | refine blk_alloc ?_ _)); refine blk_far ?_ NB231_232.out _; (with_reducible repeat (first | refine blk_drewN ?_ _ | refine blk_drew ?_ | refine blk_alloc ?_ _)); refine blk_far ?_ NB231_232.out _; (with_reducible repeat (first | refine blk_drewN ?_ _ | refine blk_drew ?_ | refine blk_alloc ?_ _)); refine blk_far ?_ NB231_232.out _; (with_reducible repeat (first | refine blk_drewN ?_ _ | refine blk_drew ?_ | refine blk_alloc ?_ _)); refine blk_put (cs := #[.int .i64 t222, .int .u32 t223, .int .u32 t224, .string (⟨#[]⟩ : ByteArray)]) ?_ 3 _ rfl; (with_reducible repeat (first | refine blk_drewN ?_ _ | refine blk_drew ?_ | refine blk_alloc ?_ _)); refine blk_put (cs := #[.int .i64 t222, .int .u32 t223, .int .u32 0, .string (⟨#[]⟩ : ByteArray)]) ?_ 2 _ rfl; (with_reducible repeat (first | refine blk_drewN ?_ _ | refine blk_drew ?_ | refine blk_alloc ?_ _)); refine blk_put (cs := #[.int .i64 t222, .int .u32 0, .int .u32 0, .string (⟨#[]⟩ : ByteArray)]) ?_ 1 _ rfl; (with_reducible repeat (first | refine blk_drewN ?_ _ | refine blk_drew ?_ | refine blk_alloc ?_ _)); refine blk_put (cs := #[.int .i64 0, .int .u32 0, .int .u32 0, .string (⟨#[]⟩ : ByteArray)]) ?_ 0 _ rfl; (with_reducible repeat (first | refine blk_drewN ?_ _ | refine blk_drew ?_ | refine blk_alloc ?_ _)); exact BK231.out) hb); have n6_ := Aside0.mk (blk_below (g := gb232) (o := .cells #[.int .i64 t226, .int .u32 t227, .int .u32 t228, .string t229] 24 (0, 0)) (by (with_reducible repeat (first | refine blk_drewN ?_ _ | refine blk_drew ?_ | refine blk_alloc ?_ _)); refine blk_put (cs := #[.int .i64 t226, .int .u32 t227, .int .u32 t228, .string (⟨#[]⟩ : ByteArray)]) ?_ 3 _ rfl; (with_reducible repeat (first | refine blk_drewN ?_ _ | refine blk_drew ?_ | refine blk_alloc ?_ _)); refine blk_put (cs := #[.int .i64 t226, .int .u32 t227, .int .u32 0, .string (⟨#[]⟩ : ByteArray)]) ?_ 2 _ rfl; (with_reducible repeat (first | refine blk_drewN ?_ _ | refine blk_drew ?_ | refine blk_alloc ?_ _)); refine blk_put (cs := #[.int .i64 t226, .int .u32 0, .int .u32 0, .string (⟨#[]⟩ : ByteArray)]) ?_ 1 _ rfl; (with_reducible repeat (first | refine blk_drewN ?_ _ | refine blk_drew ?_ | refine blk_alloc ?_ _)); refine blk_put (cs := #[.int .i64 0, .int .u32 0, .int .u32 0, .string (⟨#[]⟩ : ByteArray)]) ?_ 0 _ rfl; (with_reducible repeat (first | refine blk_drewN ?_ _ | refine blk_drew ?_ | refine blk_alloc ?_ _)); refine blk_far ?_ NB232_231.out _; (with_reducible repeat (first | refine blk_drewN ?_ _ | refine blk_drew ?_ | refine blk_alloc ?_ _)); refine blk_far ?_ NB232_231.out _; (with_reducible repeat (first | refine blk_drewN ?_ _ | refine blk_drew ?_ | refine blk_alloc ?_ _)); refine blk_far ?_ NB232_231.out _; (with_reducible repeat (first | refine blk_drewN ?_ _ | refine blk_drew ?_ | refine blk_alloc ?_ _)); refine blk_far ?_ NB232_231.out _; (with_reducible repeat (first | refine blk_drewN ?_ _ | refine blk_drew ?_ | refine blk_alloc ?_ _)); exact BK232.out) hb); have n7_ := Aside0.mk (below_step (by repeat (first | (with_reducible first | exact HB.out | apply below_alloc | apply pw_below_drewN | apply below_drew1 | refine below_set ?_ GE207.out | refine below_set ?_ GE208.out | refine below_set ?_ GE231.out | refine below_set ?_ GE232.out) | exact HB.out)) hb); clear HO_0; clear HO_3; clear BK207; clear BK208; clear BK231; clear BK232; clear HB; have HO_0 := n0_; have HO_3 := n1_; have HO235 := n2_; have BK207 := n3_; have BK208 := n4_; have BK231 := n5_; have BK232 := n6_; have HB := n7_; clear n0_ n1_ n2_ n3_ n4_ n5_ n6_ n7_; (try clear hb); (try clear hb2); (try clear hk); (try clear hi); (try clear ho0); obtain ⟨Ao63, co63, eo63⟩ := Kd.R_slice HO235.out; subst eo63; obtain ⟨Ao64, co64, eo64⟩ := Kd.R_slice HO_3.out; subst eo64) | ((with_reducible refine gate_callee (f := 23) rfl ?_); refine goesL_ (some 116) rfl rfl Try.func23 (by kernel_rfl) rfl #[.slice Ao63 t233.length co63, .slice Ao64 x3_2.length co64] rfl (by (try simp only [List.map_toArray, List.map_cons, List.map_nil]); first | done | rfl | (simp only [List.length_drop, List.length_take]; rfl)) ?_; (with_reducible refine (croftplain_Ints.calls k2 _ _ t233 _ _ x3_2 true _ ?side1 ?side2 ?side3 ?side4 A47.out).mono ?_); (case side1 => repeat (first | exact (Kd.R_reads' HO235.out).2.2 | (with_reducible refine Kd.C_alloc ?_ _) | (with_reducible refine Kd.C_drewN ?_ _) | (with_reducible refine Kd.C_drew ?_))); (case side2 => exact (Kd.R_reads' HO235.out).2.1); (case side3 => repeat (first | exact (Kd.R_reads' HO_3.out).2.2 | (with_reducible refine Kd.C_alloc ?_ _) | (with_reducible refine Kd.C_drewN ?_ _) | (with_reducible refine Kd.C_drew ?_))); (case side4 => exact (Kd.R_reads' HO_3.out).2.1); rintro e w' ⟨rfl, ⟨nd, rfl⟩⟩; refine ⟨_, rfl, ?_⟩; have hcz65_0 : w62.cell? ⟨gb231, 0, none⟩ = some (.int .i64 t222) := (blk_cell BK231.out 0).trans rfl; have hcz65_1 : w62.cell? ⟨gb231, 1, none⟩ = some (.int .u32 t223) := (blk_cell BK231.out 1).trans rfl; have hcz65_2 : w62.cell? ⟨gb231, 2, none⟩ = some (.int .u32 t224) := (blk_cell BK231.out 2).trans rfl; have hcz65_3 : w62.cell? ⟨gb231, 3, none⟩ = some (.string t225) := (blk_cell BK231.out 3).trans rfl; have hfz65_0 := blk_frozen BK231.out 0; have hfz65_1 := blk_frozen BK231.out 1; have hfz65_2 := blk_frozen BK231.out 2; have hfz65_3 := blk_frozen BK231.out 3; have hnb66 := NB207_208.out; have hnc66 := NB208_207.out; have hcz67_0 : w62.cell? ⟨gb207, 0, none⟩ = some (.int .i64 x208000_2) := (blk_cell BK207.out 0).trans rfl; have hcz67_1 : w62.cell? ⟨gb207, 1, none⟩ = some (.int .u32 x208001_2) := (blk_cell BK207.out 1).trans rfl; have hcz67_2 : w62.cell? ⟨gb207, 2, none⟩ = some (.int .u32 x208002_2) := (blk_cell BK207.out 2).trans rfl; have hcz67_3 : w62.cell? ⟨gb207, 3, none⟩ = some (.string x208003_2) := (blk_cell BK207.out 3).trans rfl; have hfz67_0 := blk_frozen BK207.out 0; have hfz67_1 := blk_frozen BK207.out 1; have hfz67_2 := blk_frozen BK207.out 2; have hfz67_3 := blk_frozen BK207.out 3; have hcz68_0 : w62.cell? ⟨gb232, 0, none⟩ = some (.int .i64 t226) := (blk_cell BK232.out 0).trans rfl; have hcz68_1 : w62.cell? ⟨gb232, 1, none⟩ = some (.int .u32 t227) := (blk_cell BK232.out 1).trans rfl; have hcz68_2 : w62.cell? ⟨gb232, 2, none⟩ = some (.int .u32 t228) := (blk_cell BK232.out 2).trans rfl; have hcz68_3 : w62.cell? ⟨gb232, 3, none⟩ = some (.string t229) := (blk_cell BK232.out 3).trans rfl; have hfz68_0 := blk_frozen BK232.out 0; have hfz68_1 := blk_frozen BK232.out 1; have hfz68_2 := blk_frozen BK232.out 2; have hfz68_3 := blk_frozen BK232.out 3; have hcz69_0 : w62.cell? ⟨gb208, 0, none⟩ = some (.int .i64 x209000_2) := (blk_cell BK208.out 0).trans rfl; have hcz69_1 : w62.cell? ⟨gb208, 1, none⟩ = some (.int .u32 x209001_2) := (blk_cell BK208.out 1).trans rfl; have hcz69_2 : w62.cell? ⟨gb208, 2, none⟩ = some (.int .u32 x209002_2) := (blk_cell BK208.out 2).trans rfl; have hcz69_3 : w62.cell? ⟨gb208, 3, none⟩ = some (.string x209003_2) := (blk_cell BK208.out 3).trans rfl; have hfz69_0 := blk_frozen BK208.out 0; have hfz69_1 := blk_frozen BK208.out 1; have hfz69_2 := blk_frozen BK208.out 2; have hfz69_3 := blk_frozen BK208.out 3))
                    go_ret
                    exact ⟨by first | rfl | (simp [errW_none, errW_some] <;> rfl) | (simp [*, errW_none, errW_some] <;> rfl), by repeat (first | (with_reducible first | exact HB.out | apply below_alloc | apply pw_below_drewN | apply below_drew1 | refine below_set ?_ GE207.out | refine below_set ?_ GE208.out | refine below_set ?_ GE231.out | refine below_set ?_ GE232.out) | exact HB.out)⟩
                  · rw [if_neg c50] at H
                    have c50b0 : (t226 == x209000_2 && (t227 == x209001_2 && (t228 == x209002_2 && (t229.toList == x209003_2.toList)))) = false := by simpa using c50
                    (try (have c50b1 : decide (t226 = x209000_2 && (t227 == x209001_2 && (t228 == x209002_2 && (t229.toList == x209003_2.toList)))) = false := by simpa using c50))
                    (try (have c50b2 : (t226 == x209000_2 && (t227 == x209001_2 && (t228 == x209002_2 && (t229.toList == x209003_2.toList)))) = false := by simpa using c50))
                    (try (have c50b3 : ¬ (t226 = x209000_2 && (t227 == x209001_2 && (t228 == x209002_2 && (t229.toList == x209003_2.toList)))) := by simpa using c50))
                    clear c50
                    obtain rfl := Option.some.inj H
                    exact absurd HT.out (by simp)
                · rw [if_neg c49] at H
                  have c49b0 : (t222 == x208000_2 && (t223 == x208001_2 && (t224 == x208002_2 && (t225.toList == x208003_2.toList)))) = false := by simpa using c49
                  (try (have c49b1 : decide (t222 = x208000_2 && (t223 == x208001_2 && (t224 == x208002_2 && (t225.toList == x208003_2.toList)))) = false := by simpa using c49))
                  (try (have c49b2 : (t222 == x208000_2 && (t223 == x208001_2 && (t224 == x208002_2 && (t225.toList == x208003_2.toList)))) = false := by simpa using c49))
                  (try (have c49b3 : ¬ (t222 = x208000_2 && (t223 == x208001_2 && (t224 == x208002_2 && (t225.toList == x208003_2.toList)))) := by simpa using c49))
                  clear c49
                  obtain rfl := Option.some.inj H
                  exact absurd HT.out (by simp)
              · replace c48 := Bool.eq_false_iff.mpr c48
                subst c48
                have H1 : (some false) = some r := by rw [if_neg (show ¬ (false = true) by decide)] at H; exact H
                clear H
                have H := H1
                clear H1
                obtain rfl := Option.some.inj H
                exact absurd HT.out (by simp)
  · replace c3 := Bool.eq_false_iff.mpr c3
    subst c3
    have H1 : (some false) = some r := by rw [if_neg (show ¬ (false = true) by decide)] at H; exact H
    clear H
    have H := H1
    clear H1
    obtain rfl := Option.some.inj H
    exact absurd HT.out (by simp)

/-- THE ONE PURE STATEMENT of croftlaw36_PairsTells. -/
def croftlaw36_PairsTells.Pure : Prop := ∀ (l0 : List (S24)), l0.length ≤ maxLen → l0.length * 32 ≤ 140737488351232 → (∀ x ∈ l0, (Lit.int .i64 x.f0).wf = true ∧ (Lit.int .u32 x.f1).wf = true ∧ (Lit.int .u32 x.f2).wf = true) → ∃ k, croftlaw36_PairsTells.f k l0 = some true

end Go.Proofs.Ytgepbfcaimejmaa.PP
