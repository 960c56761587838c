-- Printed by a program of this session (wip/tools), out of the translation: Lean checks it.
import Derived.Test.YtgepbfcaimejmaaPAx0
import Derived.Test.YtgepbfcaimejmaaPAx1
import Derived.Test.YtgepbfcaimejmaaPAx9
import Derived.Test.YtgepbfcaimejmaaPAx21
import Derived.Test.YtgepbfcaimejmaaPAx24
import Derived.Test.YtgepbfcaimejmaaPAx25
import Derived.Test.YtgepbfcaimejmaaPAx31
import Derived.Test.YtgepbfcaimejmaaFnval
namespace Go.Proofs.YtgepbfcaimejmaaW.PrintWords.Kd
open Go.RowKit Go.Proofs.YtgepbfcaimejmaaW.PrintMore
/-- A cell of a shared row stays behind an append of another row. -/
theorem V_afterv_cell {α : Type} {d : Kd α} {e base n c : Nat} {ok : Nat → Prop} {W w1 : World} {v u : Value} {A : Option Addr} {ad p : Addr} {xs : List α} (h : V d e W base (fun k => ok k ∧ some k ≠ v.ownBlock) (.slice A n c) xs)
    (hg : W.grownBy w1 v.ownBlock) (hA : A = some ad) (hn : 0 < n) (hs : 0 < d.sz) (hp : p.block = ad.block) (hc : W.cell? p = some u) : w1.cell? p = some u :=
  cell_grown hg hc (by rw [hp]; exact (V_ownB h hA hn hs).2)
end Go.Proofs.YtgepbfcaimejmaaW.PrintWords.Kd
namespace Go.Proofs.Ytgepbfcaimejmaa.PA
open Go.RowKit Go.Proofs.YtgepbfcaimejmaaW.PrintWords Go.Proofs.YtgepbfcaimejmaaW.PrintLast Go.Proofs.YtgepbfcaimejmaaW.PrintMore
attribute [local go_sem] max2_int min2_int max_two min_two max_three min_three max_four min_four   -- for this text's walks alone
set_option linter.unusedVariables false
set_option linter.unusedSimpArgs false

attribute [local go_sem high] eqA24
/-! ### croftlaw46_TrackStraight: function 9 -/
mutual
def croftlaw46_TrackStraight.j0 : Nat → List (S24) → Option (Bool)
  | 0, _ => none
  | k + 1, x0 => croftlaw46_TrackStraight.l0 k x0 ([] : List (S24)) 0
def croftlaw46_TrackStraight.l0 : Nat → List (S24) → List (S24) → Int → Option (Bool)
  | 0, _, _, _ => none
  | k + 1, x0, x3, x4 => if x4 < (x0.length : Int) then (if (x3.length : Int) > 0 then (if 0 ≤ (wrap64 ((x3.length : Int) - 1)) then (if (wrap64 ((x3.length : Int) - 1)) < (x3.length : Int) then (if 0 ≤ x4 then (if ((rd_T24 x3 (wrap64 ((x3.length : Int) - 1))).f1) = ((rd_T24 x0 x4).f1) then (croftlaw46_TrackStraight.j2 k x0 x3 x4 (x3.length : Int) (((rd_T24 x3 (wrap64 ((x3.length : Int) - 1))).f2) == ((rd_T24 x0 x4).f2))) else (croftlaw46_TrackStraight.j2 k x0 x3 x4 (x3.length : Int) false)) else (none)) else (none)) else (none)) else (croftlaw46_TrackStraight.j2 k x0 x3 x4 (x3.length : Int) false)) else ((track_Straight.f k x0).bind fun t589 => ((croftplain_Points.f k t589 x3).bind fun t592 => (if t592 = true then (if (x0.length : Int) = 0 then (some ((t589.length : Int) == 0)) else (if 0 < (t589.length : Int) then (if 0 ≤ (wrap64 ((t589.length : Int) - 1)) then (if (wrap64 ((t589.length : Int) - 1)) < (t589.length : Int) then (if 0 < (x0.length : Int) then (if (((rd_T24 t589 0).f0) == ((rd_T24 x0 0).f0) && (((rd_T24 t589 0).f1) == ((rd_T24 x0 0).f1) && (((rd_T24 t589 0).f2) == ((rd_T24 x0 0).f2) && ((((rd_T24 t589 0).f3).toList) == (((rd_T24 x0 0).f3).toList))))) = true then (if 0 ≤ (wrap64 ((x0.length : Int) - 1)) then (if (wrap64 ((x0.length : Int) - 1)) < (x0.length : Int) then (if ((rd_T24 t589 (wrap64 ((t589.length : Int) - 1))).f1) = ((rd_T24 x0 (wrap64 ((x0.length : Int) - 1))).f1) then (some (((rd_T24 t589 (wrap64 ((t589.length : Int) - 1))).f2) == ((rd_T24 x0 (wrap64 ((x0.length : Int) - 1))).f2))) else (some false)) else (none)) else (none)) else (some false)) else (none)) else (none)) else (none)) else (none))) else (some false))))
def croftlaw46_TrackStraight.j2 : Nat → List (S24) → List (S24) → Int → Int → Bool → Option (Bool)
  | 0, _, _, _, _, _ => none
  | k + 1, x0, x3, x4, x5, x53 => if x53 = true then (croftlaw46_TrackStraight.l0 k x0 x3 (wrap64 (x4 + 1))) else (if x5 > 1 then (if 0 ≤ (wrap64 (x5 - 2)) then (if (wrap64 (x5 - 2)) < (x3.length : Int) then (if 0 ≤ (wrap64 (x5 - 1)) then (if (wrap64 (x5 - 1)) < (x3.length : Int) then (if 0 ≤ x4 then (if x4 < (x0.length : Int) then ((poly_Turn.f k ((rd_T24 x3 (wrap64 (x5 - 2))).f0) ((rd_T24 x3 (wrap64 (x5 - 2))).f1) ((rd_T24 x3 (wrap64 (x5 - 2))).f2) ((rd_T24 x3 (wrap64 (x5 - 2))).f3) ((rd_T24 x3 (wrap64 (x5 - 1))).f0) ((rd_T24 x3 (wrap64 (x5 - 1))).f1) ((rd_T24 x3 (wrap64 (x5 - 1))).f2) ((rd_T24 x3 (wrap64 (x5 - 1))).f3) ((rd_T24 x0 x4).f0) ((rd_T24 x0 x4).f1) ((rd_T24 x0 x4).f2) ((rd_T24 x0 x4).f3)).bind fun t555 => (if t555 = 0 then ((croftlaw46_between.f ((rd_T24 x3 (wrap64 (x5 - 1))).f0) ((rd_T24 x3 (wrap64 (x5 - 1))).f1) ((rd_T24 x3 (wrap64 (x5 - 1))).f2) ((rd_T24 x3 (wrap64 (x5 - 1))).f3) ((rd_T24 x3 (wrap64 (x5 - 2))).f0) ((rd_T24 x3 (wrap64 (x5 - 2))).f1) ((rd_T24 x3 (wrap64 (x5 - 2))).f2) ((rd_T24 x3 (wrap64 (x5 - 2))).f3) ((rd_T24 x0 x4).f0) ((rd_T24 x0 x4).f1) ((rd_T24 x0 x4).f2) ((rd_T24 x0 x4).f3)).bind fun t559 => (croftlaw46_TrackStraight.j3 k x0 x3 x4 x5 t559)) else (croftlaw46_TrackStraight.j3 k x0 x3 x4 x5 false))) else (none)) else (none)) else (none)) else (none)) else (none)) else (none)) else (croftlaw46_TrackStraight.j3 k x0 x3 x4 x5 false))
def croftlaw46_TrackStraight.j3 : Nat → List (S24) → List (S24) → Int → Int → Bool → Option (Bool)
  | 0, _, _, _, _, _ => none
  | k + 1, x0, x3, x4, x5, x90 => if x90 = true then (if 0 ≤ (wrap64 (x5 - 1)) then (if (wrap64 (x5 - 1)) ≤ (x3.length : Int) then ((some (x3.take ((wrap64 (x5 - 1)) : Int).toNat : List (S24))).bind fun y560 => ((some (([] : List (S24)) : List (S24))).bind fun y563 => (if y563.length + y560.length < 4398046511104 then ((some (y563 ++ y560 : List (S24))).bind fun y566 => (if 0 ≤ x4 then (if x4 < (x0.length : Int) then ((some (([(⟨(rd_T24 x0 x4).f0, (rd_T24 x0 x4).f1, (rd_T24 x0 x4).f2, (rd_T24 x0 x4).f3⟩ : S24)] : List (S24)) : List (S24))).bind fun y570 => (if y566.length + y570.length < 4398046511104 then (croftlaw46_TrackStraight.l0 k x0 (y566 ++ y570) (wrap64 (x4 + 1))) else (none))) else (none)) else (none))) else (none)))) else (none)) else (none)) else ((some (([] : List (S24)) : List (S24))).bind fun y576 => (if y576.length + x3.length < 4398046511104 then ((some (y576 ++ x3 : List (S24))).bind fun y579 => (if 0 ≤ x4 then (if x4 < (x0.length : Int) then ((some (([(⟨(rd_T24 x0 x4).f0, (rd_T24 x0 x4).f1, (rd_T24 x0 x4).f2, (rd_T24 x0 x4).f3⟩ : S24)] : List (S24)) : List (S24))).bind fun y583 => (if y579.length + y583.length < 4398046511104 then (croftlaw46_TrackStraight.l0 k x0 (y579 ++ y583) (wrap64 (x4 + 1))) else (none))) else (none)) else (none))) else (none)))
end
def croftlaw46_TrackStraight.f (k : Nat) (l0 : List (S24)) : Option (Bool) := (croftlaw46_alive.f k).bind fun t542 => (if t542 = true then (if (l0.length : Int) > 60 then (if 60 ≤ (l0.length : Int) then (croftlaw46_TrackStraight.j0 k (l0.take 60)) else (none)) else (croftlaw46_TrackStraight.j0 k l0)) else (some false))
theorem croftlaw46_TrackStraight.mono_l : ∀ k, (∀ y0, LeO (croftlaw46_TrackStraight.j0 k y0) (croftlaw46_TrackStraight.j0 (k + 1) y0)) ∧ (∀ y0 y1 y2, LeO (croftlaw46_TrackStraight.l0 k y0 y1 y2) (croftlaw46_TrackStraight.l0 (k + 1) y0 y1 y2)) ∧ (∀ y0 y1 y2 y3 y4, LeO (croftlaw46_TrackStraight.j2 k y0 y1 y2 y3 y4) (croftlaw46_TrackStraight.j2 (k + 1) y0 y1 y2 y3 y4)) ∧ (∀ y0 y1 y2 y3 y4, LeO (croftlaw46_TrackStraight.j3 k y0 y1 y2 y3 y4) (croftlaw46_TrackStraight.j3 (k + 1) y0 y1 y2 y3 y4))
  | 0 => ⟨fun _ r h => by simp [croftlaw46_TrackStraight.j0] at h, fun _ _ _ r h => by simp [croftlaw46_TrackStraight.l0] at h, fun _ _ _ _ _ r h => by simp [croftlaw46_TrackStraight.j2] at h, fun _ _ _ _ _ r h => by simp [croftlaw46_TrackStraight.j3] at h⟩
  | k + 1 => by
    obtain ⟨ih0, ih1, ih2, ih3⟩ := croftlaw46_TrackStraight.mono_l k
    refine ⟨?_, ?_, ?_, ?_⟩
    · intro y0
      unfold croftlaw46_TrackStraight.j0
      repeat' first
      | (with_reducible exact ih0 _)
      | (with_reducible exact ih1 _ _ _)
      | (with_reducible exact ih2 _ _ _ _ _)
      | (with_reducible exact ih3 _ _ _ _ _)
      | (with_reducible exact croftlaw46_alive.mono _)
      | (with_reducible exact croftplain_Points.mono _ _ _)
      | (with_reducible exact poly_Turn.mono _ _ _ _ _ _ _ _ _ _ _ _ _)
      | (with_reducible exact track_Straight.mono _ _)
      | (with_reducible exact LeO.refl _)
      | (with_reducible exact LeO.none _)
      | (with_reducible refine LeO.ite ?_ ?_)
      | (with_reducible refine LeO.bind ?_ (fun _ => ?_))
      | exact ih0 _
      | exact ih1 _ _ _
      | exact ih2 _ _ _ _ _
      | exact ih3 _ _ _ _ _
      | exact croftlaw46_alive.mono _
      | exact croftplain_Points.mono _ _ _
      | exact poly_Turn.mono _ _ _ _ _ _ _ _ _ _ _ _ _
      | exact track_Straight.mono _ _
      | exact LeO.none _
      | refine LeO.ite ?_ ?_
      | refine LeO.bind ?_ (fun _ => ?_)
    · intro y0 y1 y2
      unfold croftlaw46_TrackStraight.l0
      repeat' first
      | (with_reducible exact ih0 _)
      | (with_reducible exact ih1 _ _ _)
      | (with_reducible exact ih2 _ _ _ _ _)
      | (with_reducible exact ih3 _ _ _ _ _)
      | (with_reducible exact croftlaw46_alive.mono _)
      | (with_reducible exact croftplain_Points.mono _ _ _)
      | (with_reducible exact poly_Turn.mono _ _ _ _ _ _ _ _ _ _ _ _ _)
      | (with_reducible exact track_Straight.mono _ _)
      | (with_reducible exact LeO.refl _)
      | (with_reducible exact LeO.none _)
      | (with_reducible refine LeO.ite ?_ ?_)
      | (with_reducible refine LeO.bind ?_ (fun _ => ?_))
      | exact ih0 _
      | exact ih1 _ _ _
      | exact ih2 _ _ _ _ _
      | exact ih3 _ _ _ _ _
      | exact croftlaw46_alive.mono _
      | exact croftplain_Points.mono _ _ _
      | exact poly_Turn.mono _ _ _ _ _ _ _ _ _ _ _ _ _
      | exact track_Straight.mono _ _
      | exact LeO.none _
      | refine LeO.ite ?_ ?_
      | refine LeO.bind ?_ (fun _ => ?_)
    · intro y0 y1 y2 y3 y4
      unfold croftlaw46_TrackStraight.j2
      repeat' first
      | (with_reducible exact ih0 _)
      | (with_reducible exact ih1 _ _ _)
      | (with_reducible exact ih2 _ _ _ _ _)
      | (with_reducible exact ih3 _ _ _ _ _)
      | (with_reducible exact croftlaw46_alive.mono _)
      | (with_reducible exact croftplain_Points.mono _ _ _)
      | (with_reducible exact poly_Turn.mono _ _ _ _ _ _ _ _ _ _ _ _ _)
      | (with_reducible exact track_Straight.mono _ _)
      | (with_reducible exact LeO.refl _)
      | (with_reducible exact LeO.none _)
      | (with_reducible refine LeO.ite ?_ ?_)
      | (with_reducible refine LeO.bind ?_ (fun _ => ?_))
      | exact ih0 _
      | exact ih1 _ _ _
      | exact ih2 _ _ _ _ _
      | exact ih3 _ _ _ _ _
      | exact croftlaw46_alive.mono _
      | exact croftplain_Points.mono _ _ _
      | exact poly_Turn.mono _ _ _ _ _ _ _ _ _ _ _ _ _
      | exact track_Straight.mono _ _
      | exact LeO.none _
      | refine LeO.ite ?_ ?_
      | refine LeO.bind ?_ (fun _ => ?_)
    · intro y0 y1 y2 y3 y4
      unfold croftlaw46_TrackStraight.j3
      repeat' first
      | (with_reducible exact ih0 _)
      | (with_reducible exact ih1 _ _ _)
      | (with_reducible exact ih2 _ _ _ _ _)
      | (with_reducible exact ih3 _ _ _ _ _)
      | (with_reducible exact croftlaw46_alive.mono _)
      | (with_reducible exact croftplain_Points.mono _ _ _)
      | (with_reducible exact poly_Turn.mono _ _ _ _ _ _ _ _ _ _ _ _ _)
      | (with_reducible exact track_Straight.mono _ _)
      | (with_reducible exact LeO.refl _)
      | (with_reducible exact LeO.none _)
      | (with_reducible refine LeO.ite ?_ ?_)
      | (with_reducible refine LeO.bind ?_ (fun _ => ?_))
      | exact ih0 _
      | exact ih1 _ _ _
      | exact ih2 _ _ _ _ _
      | exact ih3 _ _ _ _ _
      | exact croftlaw46_alive.mono _
      | exact croftplain_Points.mono _ _ _
      | exact poly_Turn.mono _ _ _ _ _ _ _ _ _ _ _ _ _
      | exact track_Straight.mono _ _
      | exact LeO.none _
      | refine LeO.ite ?_ ?_
      | refine LeO.bind ?_ (fun _ => ?_)
theorem croftlaw46_TrackStraight.mono : ∀ a0 k, LeO (croftlaw46_TrackStraight.f k a0) (croftlaw46_TrackStraight.f (k + 1) a0) := by
  intro a0 k
  obtain ⟨ih0, ih1, ih2, ih3⟩ := croftlaw46_TrackStraight.mono_l k
  unfold croftlaw46_TrackStraight.f
  repeat' first
      | (with_reducible exact ih0 _)
      | (with_reducible exact ih1 _ _ _)
      | (with_reducible exact ih2 _ _ _ _ _)
      | (with_reducible exact ih3 _ _ _ _ _)
      | (with_reducible exact croftlaw46_alive.mono _)
      | (with_reducible exact croftplain_Points.mono _ _ _)
      | (with_reducible exact poly_Turn.mono _ _ _ _ _ _ _ _ _ _ _ _ _)
      | (with_reducible exact track_Straight.mono _ _)
      | (with_reducible exact LeO.refl _)
      | (with_reducible exact LeO.none _)
      | (with_reducible refine LeO.ite ?_ ?_)
      | (with_reducible refine LeO.bind ?_ (fun _ => ?_))
      | exact ih0 _
      | exact ih1 _ _ _
      | exact ih2 _ _ _ _ _
      | exact ih3 _ _ _ _ _
      | exact croftlaw46_alive.mono _
      | exact croftplain_Points.mono _ _ _
      | exact poly_Turn.mono _ _ _ _ _ _ _ _ _ _ _ _ _
      | exact track_Straight.mono _ _
      | exact LeO.none _
      | refine LeO.ite ?_ ?_
      | refine LeO.bind ?_ (fun _ => ?_)
def croftlaw46_TrackStraight.T10 : Bool × List (List Nat × List Nat) := (true, [([], []), ([0], [0]), ([1], [1]), ([2], [2]), ([2], [2]), ([4, 2], [2, 4]), ([3, 5, 2], [2, 3, 5]), ([6, 2], [2, 6]), ([7, 2], [2, 7]), ([2], [2]), ([2], [2]), ([9, 10, 2], [2, 9, 10]), ([11, 2], [2, 11]), ([12, 2], [2, 12]), ([8, 13, 2], [2, 8, 13]), ([2, 14], [2, 14]), ([15, 2], [15]), ([16], [16]), ([16], [16]), ([18, 16], [16, 18]), ([17, 19, 16], [16, 17, 19]), ([20, 16], [16, 20]), ([21, 16], [16, 21]), ([16], [16]), ([16], [16]), ([23, 24, 16], [16, 23, 24]), ([25, 16], [16, 25]), ([26, 16], [16, 26]), ([22, 27, 16], [16, 22, 27]), ([16, 28], [16, 28])])
def croftlaw46_TrackStraight.B10 : List Nat := [0, 1, 3, 7, 7, 23, 63, 127, 255, 7, 7, 1543, 3591, 7687, 16383, 32767, 65535, 131071, 131071, 393215, 1048575, 2097151, 4194303, 131071, 131071, 25296895, 58851327, 125960191, 268435455, 536870911]
theorem croftlaw46_TrackStraight.tab10 : rtab .any (opsOf Try.f9 10) = croftlaw46_TrackStraight.T10 := by kernel_rfl
theorem croftlaw46_TrackStraight.bits10 : waitsOk croftlaw46_TrackStraight.T10.2 croftlaw46_TrackStraight.B10 = true := by kernel_rfl
def croftlaw46_TrackStraight.T11 : Bool × List (List Nat × List Nat) := (true, [([], []), ([0], [0]), ([1], [1]), ([2], [2]), ([2], [2]), ([4, 2], [2, 4]), ([3, 5, 2], [2, 3, 5]), ([6, 2], [2, 6]), ([2], [2]), ([2], [2]), ([9, 2], [2, 9]), ([8, 10, 2], [2, 8, 10]), ([11, 2], [2, 11]), ([2], [2]), ([2], [2]), ([13, 14, 2], [2, 13, 14]), ([15, 2], [2, 15]), ([7, 12, 16, 2, 2], [2, 7, 12, 16]), ([17, 2], [2, 17]), ([2, 18], [2, 18]), ([19, 17], [19]), ([20], [20]), ([20], [20]), ([22, 20], [20, 22]), ([21, 23, 20], [20, 21, 23]), ([24, 20], [20, 24]), ([20], [20]), ([20], [20]), ([27, 20], [20, 27]), ([26, 28, 20], [20, 26, 28]), ([29, 20], [20, 29]), ([20], [20]), ([20], [20]), ([31, 32, 20], [20, 31, 32]), ([33, 20], [20, 33]), ([25, 30, 34, 20, 20], [20, 25, 30, 34]), ([20, 35], [20, 35])])
def croftlaw46_TrackStraight.B11 : List Nat := [0, 1, 3, 7, 7, 23, 63, 127, 7, 7, 519, 1799, 3847, 7, 7, 24583, 57351, 131071, 262143, 524287, 1048575, 2097151, 2097151, 6291455, 16777215, 33554431, 2097151, 2097151, 136314879, 471859199, 1008730111, 2097151, 2097151, 6444548095, 15034482687, 34359738367, 68719476735]
theorem croftlaw46_TrackStraight.tab11 : rtab .any (opsOf Try.f9 11) = croftlaw46_TrackStraight.T11 := by kernel_rfl
theorem croftlaw46_TrackStraight.bits11 : waitsOk croftlaw46_TrackStraight.T11.2 croftlaw46_TrackStraight.B11 = true := by kernel_rfl
def croftlaw46_TrackStraight.T13 : Bool × List (List Nat × List Nat) := (true, [([], []), ([], []), ([0, 1], [0, 1]), ([], []), ([], []), ([3, 4], [3, 4]), ([5], [5]), ([6], [6]), ([2, 7, 2], [2, 7]), ([8, 8, 0, 1, 2, 3, 4, 5, 6, 7, 8], [1, 8])])
def croftlaw46_TrackStraight.B13 : List Nat := [0, 0, 3, 0, 0, 24, 56, 120, 255, 511]
theorem croftlaw46_TrackStraight.tab13 : rtab .any (opsOf Try.f9 13) = croftlaw46_TrackStraight.T13 := by kernel_rfl
theorem croftlaw46_TrackStraight.bits13 : waitsOk croftlaw46_TrackStraight.T13.2 croftlaw46_TrackStraight.B13 = true := by kernel_rfl
def croftlaw46_TrackStraight.T19 : Bool × List (List Nat × List Nat) := (true, [([], []), ([0], [0]), ([1], [1]), ([], []), ([], []), ([4], [4]), ([5], [5]), ([3, 6], [3, 6]), ([7], [7]), ([], []), ([], []), ([9, 2, 0, 1, 2, 9, 10], [2, 9]), ([10, 8, 11, 0, 1, 2, 3, 4, 5, 6, 7, 8, 9, 10, 11], [8, 10])])
def croftlaw46_TrackStraight.B19 : List Nat := [0, 1, 3, 0, 0, 16, 48, 120, 248, 0, 0, 1543, 4095]
theorem croftlaw46_TrackStraight.tab19 : rtab .any (opsOf Try.f9 19) = croftlaw46_TrackStraight.T19 := by kernel_rfl
theorem croftlaw46_TrackStraight.bits19 : waitsOk croftlaw46_TrackStraight.T19.2 croftlaw46_TrackStraight.B19 = true := by kernel_rfl
def croftlaw46_TrackStraight.T20 : Bool × List (List Nat × List Nat) := (true, [([], []), ([], []), ([1], [1]), ([2], [2]), ([0, 3], [0, 3]), ([4], [4]), ([5], [5]), ([6, 5], [5, 6]), ([5], [5]), ([5], [5]), ([9, 5], [5, 9]), ([10, 5], [5, 10]), ([8, 11, 5], [5, 8, 11]), ([12, 5], [5, 12]), ([13, 5], [5, 13]), ([7, 14, 5], [5, 7, 14]), ([5, 15], [5, 15]), ([16, 5], [16]), ([17], [17]), ([18, 17], [17, 18]), ([17], [17]), ([17], [17]), ([21, 17], [17, 21]), ([22, 17], [17, 22]), ([20, 23, 17], [17, 20, 23]), ([24, 17], [17, 24]), ([25, 17], [17, 25]), ([19, 26, 17], [17, 19, 26]), ([17, 27], [17, 27]), ([28, 17, 0, 1, 2, 3, 4, 5, 6, 7, 8, 9, 10, 11, 12, 13, 14, 15, 16, 17, 18, 19, 20, 21, 22, 23, 24, 25, 26, 27, 28], [28])])
def croftlaw46_TrackStraight.B20 : List Nat := [0, 0, 2, 6, 15, 31, 63, 127, 63, 63, 575, 1599, 3903, 7999, 16191, 32767, 65535, 131071, 262143, 524287, 262143, 262143, 2359295, 6553599, 15990783, 32767999, 66322431, 134217727, 268435455, 536870911]
theorem croftlaw46_TrackStraight.tab20 : rtab .any (opsOf Try.f9 20) = croftlaw46_TrackStraight.T20 := by kernel_rfl
theorem croftlaw46_TrackStraight.bits20 : waitsOk croftlaw46_TrackStraight.T20.2 croftlaw46_TrackStraight.B20 = true := by kernel_rfl
theorem four_far {W : World} {g : Nat} {p : Addr} {u : Value} (a b c d : Value) (h : W.cell? p = some u) (hne : p.block ≠ g) :
    ((((W.setCell ⟨g, 0, none⟩ a).setCell ⟨g, 1, none⟩ b).setCell ⟨g, 2, none⟩ c).setCell ⟨g, 3, none⟩ d).cell? p = some u :=
  (cell_far (p := ⟨g, 3, none⟩) hne _).trans ((cell_far (p := ⟨g, 2, none⟩) hne _).trans ((cell_far (p := ⟨g, 1, none⟩) hne _).trans ((cell_far (p := ⟨g, 0, none⟩) hne _).trans h)))
/-- A goal that is shown elsewhere (so wrapped, no tactic takes it for a fact). -/
structure Cut0 (p : Prop) : Prop where
  out : p
set_option maxHeartbeats 8000000 in
set_option maxRecDepth 100000 in
/-- What is left behind the cuts, and the contract of it. -/
noncomputable def croftlaw46_TrackStraight.part : (G0 : Prop) ×' (G1 : Prop) ×' (Cut0 G0 → Cut0 G1 → ∀ (k : Nat) (P0_ : Nat → Prop) (A0 : Option Addr) (c0 : Nat) (l0 : List (S24)) (r : Bool) (w : World) (hs0 : Kd.V k24 24 w w.heap.size (fun k_ => P0_ k_) (.slice A0 l0.length c0) l0) (hT : r = true) (h : croftlaw46_TrackStraight.f k l0 = some r), Calls Try.prog 9 #[.slice A0 l0.length c0] w fun e w' => e = .returned (.bool r) ∧ Below w.heap.size w w') := by
  refine ⟨?G0, ?G1, fun g0_ g1_ => ?_⟩
  rotate_left 2
  intro k P0_ A0 c0 l0 r w hs0 hT h
  have hu24 := Try.underlying24
  have HT := Aside0.mk hT
  clear hT
  have HO0 := Aside0.mk (show Kd.V k24 24 w w.heap.size (fun k_ => (P0_ k_ ∨ w.heap.size ≤ k_)) (.slice A0 l0.length c0) l0 from Kd.V_mono hs0 (fun k_ hk => .inl hk))
  have HB := Aside0.mk (Below.refl w.heap.size w)
  have H : ((croftlaw46_alive.f k).bind fun t542 => (if t542 = true then (if (l0.length : Int) > 60 then (if 60 ≤ (l0.length : Int) then (croftlaw46_TrackStraight.j0 k (l0.take 60)) else (none)) else (croftlaw46_TrackStraight.j0 k l0)) else (some false))) = some r := h
  clear h
  replace H := Option.bind_eq_some_iff.mp H
  obtain ⟨t542, A20, H⟩ := H
  replace H : (if t542 = true then (if (l0.length : Int) > 60 then (if 60 ≤ (l0.length : Int) then (croftlaw46_TrackStraight.j0 k (l0.take 60)) else (none)) else (croftlaw46_TrackStraight.j0 k l0)) else (some false)) = some r := H
  have A2 := Aside0.mk A20
  clear A20
  by_cases c3 : t542 = true
  · subst c3
    have H1 : (if (l0.length : Int) > 60 then (if 60 ≤ (l0.length : Int) then (croftlaw46_TrackStraight.j0 k (l0.take 60)) else (none)) else (croftlaw46_TrackStraight.j0 k l0)) = some r := by rw [if_pos rfl] at H; exact H
    clear H
    have H := H1
    clear H1
    have HC4 := Aside0.mk H
    clear H
    go_enter Try.func9, Try.ntmps9
    go_upto_if 13 with (first | ((with_reducible refine gate_callee (f := 30) rfl ?_); refine goesL_ (some 9) rfl rfl Try.func30 (by kernel_rfl) rfl #[] rfl (by (try simp only [List.map_toArray, List.map_cons, List.map_nil]); first | done | rfl | (simp only [List.length_drop, List.length_take]; rfl)) ?_; (with_reducible refine (croftlaw46_alive.calls k  true _ A2.out).mono ?_); rintro e w5 ⟨rfl, hb⟩; refine ⟨_, rfl, ?_⟩; have n0_ := Aside0.mk (Kd.V_below (by (with_reducible repeat (first | apply Kd.V_alloc | apply Kd.V_drewN | apply Kd.V_drew)); exact HO0.out) hb); have n1_ := Aside0.mk (below_step (by repeat (first | (with_reducible first | exact HB.out | apply below_alloc | apply pw_below_drewN | apply below_drew1) | exact HB.out)) hb); clear HO0; clear HB; have HO0 := n0_; have HB := n1_; clear n0_ n1_; (try clear hb); (try clear hb2); (try clear hk); (try clear hi)))
    (try simp only [Act.put, List.setIfInBounds_toArray, List.set_cons_zero, List.set_cons_succ])
    go_cut [0] (fun v0 wc => ∃ (kq : Nat) (x0_3 : List (S24)), Aside0 (croftlaw46_TrackStraight.j0 kq x0_3 = some r) ∧ Aside0 (kq ≤ k) ∧ Aside0 (Kd.V k24 24 wc w.heap.size (fun k_ => (P0_ k_ ∨ w.heap.size ≤ k_)) v0 x0_3) ∧ Aside0 (Below w.heap.size w wc))
    case first =>
      have H := HC4.out
      clear HC4
      by_cases c6 : (l0.length : Int) > 60
      · rw [if_pos c6] at H
        have c6b0 : decide (60 < (l0.length : Int)) = true := decide_eq_true c6
        have c6b1 : decide (60 < l0.length) = true := decide_eq_true (by omega)
        clear c6
        (first | rw [c6b0] | (simp only [i64_w, i32_w]; rw [c6b0]) | skip)
        by_cases c7 : 60 ≤ (l0.length : Int)
        · rw [if_pos c7] at H
          have c7b0 := eq_true c7
          have c7b1 : decide (60 ≤ (l0.length : Int)) = true := decide_eq_true c7
          clear c7
          obtain ⟨y543, hy543⟩ : ∃ y_ : List (S24), y_ = (l0.take 60) := ⟨_, rfl⟩
          replace H : (croftlaw46_TrackStraight.j0 k y543) = some r := by first | (rw [hy543]; with_reducible exact H) | (have H2_ := (Option.bind_some _ _).symm.trans H; rw [hy543]; with_reducible exact H2_) | (have H2_ := (Option.bind_some _ _).symm.trans H; with_reducible exact H2_) | with_reducible exact H | (rw [hy543]; exact H) | exact H
          have Ny543 := Aside0.mk hy543
          clear hy543
          have H' := Aside0.mk H
          clear H
          have q8 : (60 : Int) ≤ ((l0.length : Int) : Int) := of_decide_eq_true (by first | (with_reducible assumption) | assumption)
          obtain ⟨i08, hi08, _, hsz8, _⟩ := info_parts info24
          have hroom8 : l0.length ≤ c0 := (Kd.V_reads' HO0.out).2.1
          have hC8 : Kd.F k24 _ _ A0 l0.length l0 := (Kd.V_at (base := w.heap.size) HO0.out).2.2
          have hcut8 := cut_to (P := Try.prog) 27 24 .i64 Try.underlying27 hi08 A0 l0.length c0 60 (by omega) q8 hroom8
          have hr8 := Kd.F_take (m := 60) hC8 (by omega)
          have hy8 : y543.length = (60 : Int).toNat := (by rw [Ny543.out, List.length_take]; omega)
          rw [← Ny543.out] at hr8
          rw [← hy8] at hcut8
          have HO547 := Aside0.mk (show Kd.V k24 24 _ w.heap.size _ (.slice A0 y543.length c0) y543 from Kd.V_mk (by omega) hr8)
          have HC547 := Aside0.mk (show y543.length ≤ c0 from by omega)
          clear hr8 hC8 hroom8 hi08 hsz8
          have KY8 := Aside0.mk hy8
          clear hy8
          replace q8 := eq_true q8
          go_wp2
          go_meet
          case rel => exact ⟨_, (y543), H', ⟨by first | omega | exact Nat.le_refl _⟩, ⟨by (with_reducible repeat (first | apply Kd.V_alloc | apply Kd.V_drewN | apply Kd.V_drew)); exact HO547.out⟩, ⟨by repeat (first | (with_reducible first | exact HB.out | apply below_alloc | apply pw_below_drewN | apply below_drew1) | exact HB.out)⟩⟩
        · rw [if_neg c7] at H
          exact absurd H (by simp)
      · rw [if_neg c6] at H
        have c6b0 : decide (60 < (l0.length : Int)) = false := decide_eq_false c6
        have c6b1 : decide (60 < l0.length) = false := decide_eq_false (by omega)
        clear c6
        (first | rw [c6b0] | (simp only [i64_w, i32_w]; rw [c6b0]) | skip)
        have H' := Aside0.mk H
        clear H
        go_wp2
        go_meet
        case rel => exact ⟨_, (l0), H', ⟨by first | omega | exact Nat.le_refl _⟩, ⟨by (with_reducible repeat (first | apply Kd.V_alloc | apply Kd.V_drewN | apply Kd.V_drew)); exact HO0.out⟩, ⟨by repeat (first | (with_reducible first | exact HB.out | apply below_alloc | apply pw_below_drewN | apply below_drew1) | exact HB.out)⟩⟩
    case rest =>
      clear HC4
      try clear p2
      try clear c3
      try clear c6
      try clear c6b0
      try clear c6b1
      try clear c7
      try clear c7b0
      try clear c7b1
      try clear q8
      try clear q8
      obtain ⟨kq, x0_3, HA, HJ3, HO_0, HB⟩ := hcut
      cases kq with
      | zero => exact absurd HA.out (by simp [croftlaw46_TrackStraight.j0])
      | succ kj3 =>
        have H := HA.out
        clear HA
        simp only [croftlaw46_TrackStraight.j0] at H
        have H' := Aside0.mk H
        clear H
        go_wp2
        go_loopg [3, 4] kj3 (fun kq v3 v4 w' => ∃ (x3_2 : List (S24)) (x4_2 : Int), v4 = .int .i64 x4_2 ∧ Aside0 (croftlaw46_TrackStraight.l0 kq x0_3 x3_2 x4_2 = some r) ∧ Aside0 (kq ≤ kj3) ∧ Aside0 (Kd.V k24 24 w' w.heap.size (fun k_ => (P0_ k_ ∨ w.heap.size ≤ k_) ∧ some k_ ≠ (v3 : Value).ownBlock) u0 x0_3) ∧ Aside0 (Kd.R k24 24 w' w.heap.size (fun k_ => (w.heap.size ≤ k_)) v3 x3_2) ∧ Aside0 (Below w.heap.size w w'))
        case atStart => exact ⟨(([] : List (S24))), (0), (by first | rfl | (simp; done) | (simp [*]; done)), H', ⟨Nat.le_refl _⟩, ⟨by (with_reducible repeat (first | apply Kd.V_alloc | apply Kd.V_drewN | apply Kd.V_drew)); exact Kd.V_mono HO_0.out (fun _ hk => ⟨hk, (by simp [Value.ownBlock])⟩)⟩, ⟨by first | exact Kd.R_nil _ _ _ _ _ | exact Kd.N_nil _ _ _ _ _ | exact Kd.V_nil _ _ _ _ _ | exact Kd.Q_nil _ _ _ _ _ | exact Kd.S_nil _ _ _ _ _⟩, ⟨by repeat (first | (with_reducible first | exact HB.out | apply below_alloc | apply pw_below_drewN | apply below_drew1) | exact HB.out)⟩⟩
        case round =>
          clear H'
          try clear p2
          try clear c3
          try clear c6
          try clear c6b0
          try clear c6b1
          try clear c7
          try clear c7b0
          try clear c7b1
          try clear q8
          try clear p2
          try clear q8
          obtain ⟨x3_2, x4_2, rfl, HA, HK2, HO_0, HO_3, HB⟩ := hrel
          cases gk with
          | zero => exact absurd HA.out (by simp [croftlaw46_TrackStraight.l0])
          | succ k2 =>
            have H := HA.out
            clear HA
            simp only [croftlaw46_TrackStraight.l0] at H
            by_cases c9 : x4_2 < (x0_3.length : Int)
            · rw [if_pos c9] at H
              have c9b0 : decide (x4_2 < (x0_3.length : Int)) = true := decide_eq_true c9
              clear c9
              have HC10 := Aside0.mk H
              clear H
              obtain ⟨Ao11, co11, eo11⟩ := Kd.V_slice HO_0.out
              subst eo11
              obtain ⟨Ao12, co12, eo12⟩ := Kd.R_slice HO_3.out
              subst eo12
              go_upto_region 10 with (fail)
              go_cut [53] (fun v53 wc => ∃ (kq : Nat) (x53_9 : Bool), v53 = .bool x53_9 ∧ Aside0 (croftlaw46_TrackStraight.j2 kq x0_3 x3_2 x4_2 (x3_2.length : Int) x53_9 = some r) ∧ Aside0 (kq ≤ k2) ∧ Aside0 (Kd.V k24 24 wc w.heap.size (fun k_ => (P0_ k_ ∨ w.heap.size ≤ k_) ∧ some k_ ≠ ((.slice Ao12 x3_2.length co12) : Value).ownBlock) (.slice Ao11 x0_3.length co11) x0_3) ∧ Aside0 (Kd.R k24 24 wc w.heap.size (fun k_ => (w.heap.size ≤ k_)) (.slice Ao12 x3_2.length co12) x3_2) ∧ Aside0 (Below w.heap.size w wc))
              case first =>
                have H := HC10.out
                clear HC10
                by_cases c13 : (x3_2.length : Int) > 0
                · rw [if_pos c13] at H
                  have c13b0 : decide (0 < (x3_2.length : Int)) = true := decide_eq_true c13
                  have c13b1 : decide (0 < x3_2.length) = true := decide_eq_true (by omega)
                  clear c13
                  (first | rw [c13b0] | (simp only [i64_w, i32_w]; rw [c13b0]) | skip)
                  obtain ⟨ji14, hji14⟩ : ∃ j_ : Int, (wrap64 ((x3_2.length : Int) - 1)) = j_ := ⟨_, rfl⟩
                  replace H : (if 0 ≤ (ji14) then (if (ji14) < (x3_2.length : Int) then (if 0 ≤ x4_2 then (if ((rd_T24 x3_2 (ji14)).f1) = ((rd_T24 x0_3 x4_2).f1) then (croftlaw46_TrackStraight.j2 k2 x0_3 x3_2 x4_2 (x3_2.length : Int) (((rd_T24 x3_2 (ji14)).f2) == ((rd_T24 x0_3 x4_2).f2))) else (croftlaw46_TrackStraight.j2 k2 x0_3 x3_2 x4_2 (x3_2.length : Int) false)) else (none)) else (none)) else (none)) = some r := by first | (rw [hji14] at H; exact H) | (simp only [hji14] at H ⊢; exact H)
                  have hji14w : (IntKind.i64.wrap ((x3_2.length : Int) - 1)) = ji14 := (i64_w _).trans hji14
                  by_cases c15 : 0 ≤ (ji14)
                  · rw [if_pos c15] at H
                    have c15b0 : decide (0 ≤ (ji14)) = true := decide_eq_true c15
                    clear c15
                    by_cases c16 : (ji14) < (x3_2.length : Int)
                    · rw [if_pos c16] at H
                      have c16b0 : decide ((ji14) < (x3_2.length : Int)) = true := decide_eq_true c16
                      clear c16
                      by_cases c17 : 0 ≤ x4_2
                      · rw [if_pos c17] at H
                        have c17b0 : decide (0 ≤ x4_2) = true := decide_eq_true c17
                        clear c17
                        by_cases c18 : ((rd_T24 x3_2 (ji14)).f1) = ((rd_T24 x0_3 x4_2).f1)
                        · rw [if_pos c18] at H
                          have c18b0 : (((rd_T24 x3_2 (ji14)).f1) == ((rd_T24 x0_3 x4_2).f1)) = true := beq_iff_eq.mpr c18
                          have c18b1 : (((rd_T24 x3_2 (ji14)).f1) != ((rd_T24 x0_3 x4_2).f1)) = false := bne_eq_false_iff_eq.mpr c18
                          clear c18
                          have H' := Aside0.mk H
                          clear H
                          try go_wp2
                          have n0_ := Aside0.mk (Kd.V_drew HO_0.out)
                          have n1_ := Aside0.mk (Kd.R_drew HO_3.out)
                          have n2_ := Aside0.mk (below_drew1 HB.out)
                          clear HO_0
                          clear HO_3
                          clear HB
                          have HO_0 := n0_
                          have HO_3 := n1_
                          have HB := n2_
                          clear n0_ n1_ n2_
                          have p548 : 0 ≤ ((ji14) : Int) := of_decide_eq_true (by first | (with_reducible assumption) | assumption)
                          have q548 : (ji14) < (x3_2.length : Int) := of_decide_eq_true (by first | (with_reducible assumption) | assumption)
                          obtain ⟨ad548, e548, hx548_0, hx548_1, hx548_2, hx548_3⟩ := at_T24 (Kd.R_reads' HO_3.out).2.2 (ji14) p548 q548
                          cases e548
                          replace p548 := eq_true p548
                          replace q548 := eq_true q548
                          have p549 : 0 ≤ (x4_2 : Int) := of_decide_eq_true (by first | (with_reducible assumption) | assumption)
                          have q549 : x4_2 < (x0_3.length : Int) := of_decide_eq_true (by first | (with_reducible assumption) | assumption)
                          obtain ⟨ad549, e549, hx549_0, hx549_1, hx549_2, hx549_3⟩ := at_T24 (Kd.V_reads' HO_0.out).2.2 x4_2 p549 q549
                          cases e549
                          replace p549 := eq_true p549
                          replace q549 := eq_true q549
                          have p550 : 0 ≤ ((ji14) : Int) := of_decide_eq_true (by first | (with_reducible assumption) | assumption)
                          have q550 : (ji14) < (x3_2.length : Int) := of_decide_eq_true (by first | (with_reducible assumption) | assumption)
                          obtain ⟨ad550, e550, hx550_0, hx550_1, hx550_2, hx550_3⟩ := at_T24 (Kd.R_reads' HO_3.out).2.2 (ji14) p550 q550
                          obtain rfl : ad548 = ad550 := (by injection e550)
                          replace p550 := eq_true p550
                          replace q550 := eq_true q550
                          have p551 : 0 ≤ (x4_2 : Int) := of_decide_eq_true (by first | (with_reducible assumption) | assumption)
                          have q551 : x4_2 < (x0_3.length : Int) := of_decide_eq_true (by first | (with_reducible assumption) | assumption)
                          obtain ⟨ad551, e551, hx551_0, hx551_1, hx551_2, hx551_3⟩ := at_T24 (Kd.V_reads' HO_0.out).2.2 x4_2 p551 q551
                          obtain rfl : ad549 = ad551 := (by injection e551)
                          replace p551 := eq_true p551
                          replace q551 := eq_true q551
                          refine start_ (n := 30) (S := fun w' => w'.cell? (ad548.add (((ji14)).toNat * 4)) = some (.int .i64 ((rd_T24 x3_2 (ji14)).f0)) ∧ w'.cell? ⟨(ad548.add (((ji14)).toNat * 4)).block, (ad548.add (((ji14)).toNat * 4)).off + 1, none⟩ = some (.int .u32 ((rd_T24 x3_2 (ji14)).f1)) ∧ w'.cell? ⟨(ad548.add (((ji14)).toNat * 4)).block, (ad548.add (((ji14)).toNat * 4)).off + 2, none⟩ = some (.int .u32 ((rd_T24 x3_2 (ji14)).f2)) ∧ w'.cell? ⟨(ad548.add (((ji14)).toNat * 4)).block, (ad548.add (((ji14)).toNat * 4)).off + 3, none⟩ = some (.string ((rd_T24 x3_2 (ji14)).f3)) ∧ w'.cell? (ad549.add ((x4_2).toNat * 4)) = some (.int .i64 ((rd_T24 x0_3 x4_2).f0)) ∧ w'.cell? ⟨(ad549.add ((x4_2).toNat * 4)).block, (ad549.add ((x4_2).toNat * 4)).off + 1, none⟩ = some (.int .u32 ((rd_T24 x0_3 x4_2).f1)) ∧ w'.cell? ⟨(ad549.add ((x4_2).toNat * 4)).block, (ad549.add ((x4_2).toNat * 4)).off + 2, none⟩ = some (.int .u32 ((rd_T24 x0_3 x4_2).f2)) ∧ w'.cell? ⟨(ad549.add ((x4_2).toNat * 4)).block, (ad549.add ((x4_2).toNat * 4)).off + 3, none⟩ = some (.string ((rd_T24 x0_3 x4_2).f3)) ∧ w'.cell? (ad548.add (((ji14)).toNat * 4)) = some (.int .i64 ((rd_T24 x3_2 (ji14)).f0)) ∧ w'.cell? ⟨(ad548.add (((ji14)).toNat * 4)).block, (ad548.add (((ji14)).toNat * 4)).off + 1, none⟩ = some (.int .u32 ((rd_T24 x3_2 (ji14)).f1)) ∧ w'.cell? ⟨(ad548.add (((ji14)).toNat * 4)).block, (ad548.add (((ji14)).toNat * 4)).off + 2, none⟩ = some (.int .u32 ((rd_T24 x3_2 (ji14)).f2)) ∧ w'.cell? ⟨(ad548.add (((ji14)).toNat * 4)).block, (ad548.add (((ji14)).toNat * 4)).off + 3, none⟩ = some (.string ((rd_T24 x3_2 (ji14)).f3)) ∧ w'.cell? (ad549.add ((x4_2).toNat * 4)) = some (.int .i64 ((rd_T24 x0_3 x4_2).f0)) ∧ w'.cell? ⟨(ad549.add ((x4_2).toNat * 4)).block, (ad549.add ((x4_2).toNat * 4)).off + 1, none⟩ = some (.int .u32 ((rd_T24 x0_3 x4_2).f1)) ∧ w'.cell? ⟨(ad549.add ((x4_2).toNat * 4)).block, (ad549.add ((x4_2).toNat * 4)).off + 2, none⟩ = some (.int .u32 ((rd_T24 x0_3 x4_2).f2)) ∧ w'.cell? ⟨(ad549.add ((x4_2).toNat * 4)).block, (ad549.add ((x4_2).toNat * 4)).off + 3, none⟩ = some (.string ((rd_T24 x0_3 x4_2).f3))) (ds := []) #[false, false, false, false, false, false, false, false, false, false, false, false, false, false, false, false, false, false, false, false, false, false, false, false, false, false, false, false, false, false] (by kernel_rfl) rfl rfl ⟨hx548_0, hx548_1, hx548_2, hx548_3, hx549_0, hx549_1, hx549_2, hx549_3, hx550_0, hx550_1, hx550_2, hx550_3, hx551_0, hx551_1, hx551_2, hx551_3⟩ (fun hHeld => ?_); refine with_tabW croftlaw46_TrackStraight.tab10 croftlaw46_TrackStraight.bits10 (fun HT_ HW_ => ?_)
                          generalize wr.drew = w19 at HO_0 HO_3 HB hx548_0 hx548_1 hx548_2 hx548_3 hx549_0 hx549_1 hx549_2 hx549_3 hx550_0 hx550_1 hx550_2 hx550_3 hx551_0 hx551_1 hx551_2 hx551_3 hHeld ⊢
                          refine pure_ (i := 0) (N := some 24) (v := ?_) (a' := ?_) #[true, false, false, false, false, false, false, false, false, false, false, false, false, false, false, false, false, false, false, false, false, false, false, false, false, false, false, false, false, false] rfl rfl (any_of HT_.out (by kernel_rfl)) (fun _ _ _ h => h) (Or.inl ⟨by rfl, ?_⟩) ?_ ?_
                          rotate_left
                          · intro w'
                            go_simp
                            with_reducible rfl
                          rotate_left
                          · simp only [Act.put, List.setIfInBounds_toArray, List.set_cons_zero, List.set_cons_succ, i64_w, i32_w]
                            rfl
                          refine pure_ (i := 1) (N := some 25) (v := ?_) (a' := ?_) #[true, true, false, false, false, false, false, false, false, false, false, false, false, false, false, false, false, false, false, false, false, false, false, false, false, false, false, false, false, false] rfl rfl (any_of HT_.out (by kernel_rfl)) (fun _ _ _ h => h) (Or.inl ⟨by rfl, ?_⟩) ?_ ?_
                          rotate_left
                          · intro w'
                            go_simp
                            with_reducible rfl
                          rotate_left
                          · simp only [Act.put, List.setIfInBounds_toArray, List.set_cons_zero, List.set_cons_succ, i64_w, i32_w]
                            rfl
                          refine pure_ (i := 2) (N := some 26) (v := ?_) (a' := ?_) #[true, true, true, false, false, false, false, false, false, false, false, false, false, false, false, false, false, false, false, false, false, false, false, false, false, false, false, false, false, false] rfl rfl (any_of HT_.out (by kernel_rfl)) (fun _ _ _ h => h) (Or.inl ⟨by rfl, ?_⟩) ?_ ?_
                          rotate_left
                          · intro w'
                            go_simp
                            with_reducible rfl
                          rotate_left
                          · simp only [Act.put, List.setIfInBounds_toArray, List.set_cons_zero, List.set_cons_succ, i64_w, i32_w]
                            rfl
                          refine pure_ (i := 3) (N := some 27) (v := ?_) (a' := ?_) #[true, true, true, true, false, false, false, false, false, false, false, false, false, false, false, false, false, false, false, false, false, false, false, false, false, false, false, false, false, false] rfl rfl (any_of HT_.out (by kernel_rfl)) (fun _ _ _ h => h) (Or.inl ⟨by rfl, ?_⟩) ?_ ?_
                          rotate_left
                          · intro w'
                            go_simp
                            with_reducible rfl
                          rotate_left
                          · simp only [Act.put, List.setIfInBounds_toArray, List.set_cons_zero, List.set_cons_succ, i64_w, i32_w]
                            rfl
                          refine pure_ (i := 4) (N := some 28) (v := ?_) (a' := ?_) #[true, true, true, true, true, false, false, false, false, false, false, false, false, false, false, false, false, false, false, false, false, false, false, false, false, false, false, false, false, false] rfl rfl (any_of HT_.out (by kernel_rfl)) (fun _ _ _ h => h) (Or.inl ⟨by rfl, ?_⟩) ?_ ?_
                          rotate_left
                          · intro w'
                            go_simp
                            with_reducible rfl
                          rotate_left
                          · simp only [Act.put, List.setIfInBounds_toArray, List.set_cons_zero, List.set_cons_succ, i64_w, i32_w]
                            rfl
                          refine pure_ (i := 5) (N := some 29) (v := ?_) (a' := ?_) #[true, true, true, true, true, true, false, false, false, false, false, false, false, false, false, false, false, false, false, false, false, false, false, false, false, false, false, false, false, false] rfl rfl (any_of HT_.out (by kernel_rfl)) (fun _ _ _ h => h) (Or.inl ⟨by rfl, ?_⟩) ?_ ?_
                          rotate_left
                          · intro w'
                            go_simp
                            with_reducible rfl
                          rotate_left
                          · simp only [Act.put, List.setIfInBounds_toArray, List.set_cons_zero, List.set_cons_succ, i64_w, i32_w]
                            rfl
                          refine pure_ (i := 6) (N := some 30) (v := ?_) (a' := ?_) #[true, true, true, true, true, true, true, false, false, false, false, false, false, false, false, false, false, false, false, false, false, false, false, false, false, false, false, false, false, false] rfl rfl (any_of HT_.out (by kernel_rfl)) (fun _ _ _ h => h) (Or.inl ⟨by rfl, ?_⟩) ?_ ?_
                          rotate_left
                          · intro w'
                            go_simp
                            with_reducible rfl
                          rotate_left
                          · simp only [Act.put, List.setIfInBounds_toArray, List.set_cons_zero, List.set_cons_succ, i64_w, i32_w]
                            rfl
                          refine pure_ (i := 7) (N := some 31) (v := ?_) (a' := ?_) #[true, true, true, true, true, true, true, true, false, false, false, false, false, false, false, false, false, false, false, false, false, false, false, false, false, false, false, false, false, false] rfl rfl (any_of HT_.out (by kernel_rfl)) (fun _ _ _ h => h) (Or.inl ⟨by rfl, ?_⟩) ?_ ?_
                          rotate_left
                          · intro w'
                            go_simp
                            with_reducible rfl
                          rotate_left
                          · simp only [Act.put, List.setIfInBounds_toArray, List.set_cons_zero, List.set_cons_succ, i64_w, i32_w]
                            rfl
                          refine pure_ (i := 9) (N := some 33) (v := ?_) (a' := ?_) #[true, true, true, true, true, true, true, true, false, true, false, false, false, false, false, false, false, false, false, false, false, false, false, false, false, false, false, false, false, false] rfl rfl (any_of HT_.out (by kernel_rfl)) (fun _ _ _ h => h) (Or.inl ⟨by rfl, ?_⟩) ?_ ?_
                          rotate_left
                          · intro w'
                            go_simp
                            with_reducible rfl
                          rotate_left
                          · simp only [Act.put, List.setIfInBounds_toArray, List.set_cons_zero, List.set_cons_succ, i64_w, i32_w]
                            rfl
                          refine pure_ (i := 10) (N := some 34) (v := ?_) (a' := ?_) #[true, true, true, true, true, true, true, true, false, true, true, false, false, false, false, false, false, false, false, false, false, false, false, false, false, false, false, false, false, false] rfl rfl (any_of HT_.out (by kernel_rfl)) (fun _ _ _ h => h) (Or.inl ⟨by rfl, ?_⟩) ?_ ?_
                          rotate_left
                          · intro w'
                            go_simp
                            with_reducible rfl
                          rotate_left
                          · simp only [Act.put, List.setIfInBounds_toArray, List.set_cons_zero, List.set_cons_succ, i64_w, i32_w]
                            rfl
                          refine pure_ (i := 11) (N := some 35) (v := ?_) (a' := ?_) #[true, true, true, true, true, true, true, true, false, true, true, true, false, false, false, false, false, false, false, false, false, false, false, false, false, false, false, false, false, false] rfl rfl (any_of HT_.out (by kernel_rfl)) (fun _ _ _ h => h) (Or.inl ⟨by rfl, ?_⟩) ?_ ?_
                          rotate_left
                          · intro w'
                            go_simp
                            with_reducible rfl
                          rotate_left
                          · simp only [Act.put, List.setIfInBounds_toArray, List.set_cons_zero, List.set_cons_succ, i64_w, i32_w]
                            rfl
                          refine pure_ (i := 12) (N := some 36) (v := ?_) (a' := ?_) #[true, true, true, true, true, true, true, true, false, true, true, true, true, false, false, false, false, false, false, false, false, false, false, false, false, false, false, false, false, false] rfl rfl (any_of HT_.out (by kernel_rfl)) (fun _ _ _ h => h) (Or.inl ⟨by rfl, ?_⟩) ?_ ?_
                          rotate_left
                          · intro w'
                            go_simp
                            with_reducible rfl
                          rotate_left
                          · simp only [Act.put, List.setIfInBounds_toArray, List.set_cons_zero, List.set_cons_succ, i64_w, i32_w]
                            rfl
                          refine take_ (i := 8) (N := some 32) (v := ?_) (a' := ?_) #[true, true, true, true, true, true, true, true, true, true, true, true, true, false, false, false, false, false, false, false, false, false, false, false, false, false, false, false, false, false] rfl rfl (take_ofW HT_.out HW_.out (by kernel_rfl)) (fun _ _ _ h => h) (Or.inl ⟨by rfl, ?_⟩) hHeld ?_ ?_
                          rotate_left
                          · rintro w' ⟨s0, s1, s2, s3, s4, s5, s6, s7, s8, s9, s10, s11, s12, s13, s14, s15⟩
                            go_simp
                            with_reducible rfl
                          rotate_left
                          · simp only [Act.put, List.setIfInBounds_toArray, List.set_cons_zero, List.set_cons_succ, i64_w, i32_w]
                            rfl
                          refine take_ (i := 13) (N := some 37) (v := ?_) (a' := ?_) #[true, true, true, true, true, true, true, true, true, true, true, true, true, true, false, false, false, false, false, false, false, false, false, false, false, false, false, false, false, false] rfl rfl (take_ofW HT_.out HW_.out (by kernel_rfl)) (fun _ _ _ h => h) (Or.inl ⟨by rfl, ?_⟩) hHeld ?_ ?_
                          rotate_left
                          · rintro w' ⟨s0, s1, s2, s3, s4, s5, s6, s7, s8, s9, s10, s11, s12, s13, s14, s15⟩
                            go_simp
                            with_reducible rfl
                          rotate_left
                          · simp only [Act.put, List.setIfInBounds_toArray, List.set_cons_zero, List.set_cons_succ, i64_w, i32_w]
                            rfl
                          refine pure_ (i := 14) (N := some 38) (v := ?_) (a' := ?_) #[true, true, true, true, true, true, true, true, true, true, true, true, true, true, true, false, false, false, false, false, false, false, false, false, false, false, false, false, false, false] rfl rfl (any_of HT_.out (by kernel_rfl)) (fun _ _ _ h => h) (Or.inl ⟨by rfl, ?_⟩) ?_ ?_
                          rotate_left
                          · intro w'
                            go_simp
                            with_reducible rfl
                          rotate_left
                          · simp only [Act.put, List.setIfInBounds_toArray, List.set_cons_zero, List.set_cons_succ, i64_w, i32_w]
                            rfl
                          refine pure_ (i := 15) (N := some 39) (v := ?_) (a' := ?_) #[true, true, true, true, true, true, true, true, true, true, true, true, true, true, true, true, false, false, false, false, false, false, false, false, false, false, false, false, false, false] rfl rfl (any_of HT_.out (by kernel_rfl)) (fun _ _ _ h => h) (Or.inl ⟨by rfl, ?_⟩) ?_ ?_
                          rotate_left
                          · intro w'
                            go_simp
                            with_reducible rfl
                          rotate_left
                          · simp only [Act.put, List.setIfInBounds_toArray, List.set_cons_zero, List.set_cons_succ, i64_w, i32_w]
                            rfl
                          refine pure_ (i := 16) (N := some 40) (v := ?_) (a' := ?_) #[true, true, true, true, true, true, true, true, true, true, true, true, true, true, true, true, true, false, false, false, false, false, false, false, false, false, false, false, false, false] rfl rfl (any_of HT_.out (by kernel_rfl)) (fun _ _ _ h => h) (Or.inl ⟨by rfl, ?_⟩) ?_ ?_
                          rotate_left
                          · intro w'
                            go_simp
                            with_reducible rfl
                          rotate_left
                          · simp only [Act.put, List.setIfInBounds_toArray, List.set_cons_zero, List.set_cons_succ, i64_w, i32_w]
                            rfl
                          refine pure_ (i := 17) (N := some 41) (v := ?_) (a' := ?_) #[true, true, true, true, true, true, true, true, true, true, true, true, true, true, true, true, true, true, false, false, false, false, false, false, false, false, false, false, false, false] rfl rfl (any_of HT_.out (by kernel_rfl)) (fun _ _ _ h => h) (Or.inl ⟨by rfl, ?_⟩) ?_ ?_
                          rotate_left
                          · intro w'
                            go_simp
                            with_reducible rfl
                          rotate_left
                          · simp only [Act.put, List.setIfInBounds_toArray, List.set_cons_zero, List.set_cons_succ, i64_w, i32_w]
                            rfl
                          refine pure_ (i := 18) (N := some 42) (v := ?_) (a' := ?_) #[true, true, true, true, true, true, true, true, true, true, true, true, true, true, true, true, true, true, true, false, false, false, false, false, false, false, false, false, false, false] rfl rfl (any_of HT_.out (by kernel_rfl)) (fun _ _ _ h => h) (Or.inl ⟨by rfl, ?_⟩) ?_ ?_
                          rotate_left
                          · intro w'
                            go_simp
                            with_reducible rfl
                          rotate_left
                          · simp only [Act.put, List.setIfInBounds_toArray, List.set_cons_zero, List.set_cons_succ, i64_w, i32_w]
                            rfl
                          refine pure_ (i := 19) (N := some 43) (v := ?_) (a' := ?_) #[true, true, true, true, true, true, true, true, true, true, true, true, true, true, true, true, true, true, true, true, false, false, false, false, false, false, false, false, false, false] rfl rfl (any_of HT_.out (by kernel_rfl)) (fun _ _ _ h => h) (Or.inl ⟨by rfl, ?_⟩) ?_ ?_
                          rotate_left
                          · intro w'
                            go_simp
                            with_reducible rfl
                          rotate_left
                          · simp only [Act.put, List.setIfInBounds_toArray, List.set_cons_zero, List.set_cons_succ, i64_w, i32_w]
                            rfl
                          refine pure_ (i := 20) (N := some 44) (v := ?_) (a' := ?_) #[true, true, true, true, true, true, true, true, true, true, true, true, true, true, true, true, true, true, true, true, true, false, false, false, false, false, false, false, false, false] rfl rfl (any_of HT_.out (by kernel_rfl)) (fun _ _ _ h => h) (Or.inl ⟨by rfl, ?_⟩) ?_ ?_
                          rotate_left
                          · intro w'
                            go_simp
                            with_reducible rfl
                          rotate_left
                          · simp only [Act.put, List.setIfInBounds_toArray, List.set_cons_zero, List.set_cons_succ, i64_w, i32_w]
                            rfl
                          refine pure_ (i := 21) (N := some 45) (v := ?_) (a' := ?_) #[true, true, true, true, true, true, true, true, true, true, true, true, true, true, true, true, true, true, true, true, true, true, false, false, false, false, false, false, false, false] rfl rfl (any_of HT_.out (by kernel_rfl)) (fun _ _ _ h => h) (Or.inl ⟨by rfl, ?_⟩) ?_ ?_
                          rotate_left
                          · intro w'
                            go_simp
                            with_reducible rfl
                          rotate_left
                          · simp only [Act.put, List.setIfInBounds_toArray, List.set_cons_zero, List.set_cons_succ, i64_w, i32_w]
                            rfl
                          refine pure_ (i := 23) (N := some 47) (v := ?_) (a' := ?_) #[true, true, true, true, true, true, true, true, true, true, true, true, true, true, true, true, true, true, true, true, true, true, false, true, false, false, false, false, false, false] rfl rfl (any_of HT_.out (by kernel_rfl)) (fun _ _ _ h => h) (Or.inl ⟨by rfl, ?_⟩) ?_ ?_
                          rotate_left
                          · intro w'
                            go_simp
                            with_reducible rfl
                          rotate_left
                          · simp only [Act.put, List.setIfInBounds_toArray, List.set_cons_zero, List.set_cons_succ, i64_w, i32_w]
                            rfl
                          refine pure_ (i := 24) (N := some 48) (v := ?_) (a' := ?_) #[true, true, true, true, true, true, true, true, true, true, true, true, true, true, true, true, true, true, true, true, true, true, false, true, true, false, false, false, false, false] rfl rfl (any_of HT_.out (by kernel_rfl)) (fun _ _ _ h => h) (Or.inl ⟨by rfl, ?_⟩) ?_ ?_
                          rotate_left
                          · intro w'
                            go_simp
                            with_reducible rfl
                          rotate_left
                          · simp only [Act.put, List.setIfInBounds_toArray, List.set_cons_zero, List.set_cons_succ, i64_w, i32_w]
                            rfl
                          refine pure_ (i := 25) (N := some 49) (v := ?_) (a' := ?_) #[true, true, true, true, true, true, true, true, true, true, true, true, true, true, true, true, true, true, true, true, true, true, false, true, true, true, false, false, false, false] rfl rfl (any_of HT_.out (by kernel_rfl)) (fun _ _ _ h => h) (Or.inl ⟨by rfl, ?_⟩) ?_ ?_
                          rotate_left
                          · intro w'
                            go_simp
                            with_reducible rfl
                          rotate_left
                          · simp only [Act.put, List.setIfInBounds_toArray, List.set_cons_zero, List.set_cons_succ, i64_w, i32_w]
                            rfl
                          refine pure_ (i := 26) (N := some 50) (v := ?_) (a' := ?_) #[true, true, true, true, true, true, true, true, true, true, true, true, true, true, true, true, true, true, true, true, true, true, false, true, true, true, true, false, false, false] rfl rfl (any_of HT_.out (by kernel_rfl)) (fun _ _ _ h => h) (Or.inl ⟨by rfl, ?_⟩) ?_ ?_
                          rotate_left
                          · intro w'
                            go_simp
                            with_reducible rfl
                          rotate_left
                          · simp only [Act.put, List.setIfInBounds_toArray, List.set_cons_zero, List.set_cons_succ, i64_w, i32_w]
                            rfl
                          refine take_ (i := 22) (N := some 46) (v := ?_) (a' := ?_) #[true, true, true, true, true, true, true, true, true, true, true, true, true, true, true, true, true, true, true, true, true, true, true, true, true, true, true, false, false, false] rfl rfl (take_ofW HT_.out HW_.out (by kernel_rfl)) (fun _ _ _ h => h) (Or.inl ⟨by rfl, ?_⟩) hHeld ?_ ?_
                          rotate_left
                          · rintro w' ⟨s0, s1, s2, s3, s4, s5, s6, s7, s8, s9, s10, s11, s12, s13, s14, s15⟩
                            go_simp
                            with_reducible rfl
                          rotate_left
                          · simp only [Act.put, List.setIfInBounds_toArray, List.set_cons_zero, List.set_cons_succ, i64_w, i32_w]
                            rfl
                          refine take_ (i := 27) (N := some 51) (v := ?_) (a' := ?_) #[true, true, true, true, true, true, true, true, true, true, true, true, true, true, true, true, true, true, true, true, true, true, true, true, true, true, true, true, false, false] rfl rfl (take_ofW HT_.out HW_.out (by kernel_rfl)) (fun _ _ _ h => h) (Or.inl ⟨by rfl, ?_⟩) hHeld ?_ ?_
                          rotate_left
                          · rintro w' ⟨s0, s1, s2, s3, s4, s5, s6, s7, s8, s9, s10, s11, s12, s13, s14, s15⟩
                            go_simp
                            with_reducible rfl
                          rotate_left
                          · simp only [Act.put, List.setIfInBounds_toArray, List.set_cons_zero, List.set_cons_succ, i64_w, i32_w]
                            rfl
                          refine pure_ (i := 28) (N := some 52) (v := ?_) (a' := ?_) #[true, true, true, true, true, true, true, true, true, true, true, true, true, true, true, true, true, true, true, true, true, true, true, true, true, true, true, true, true, false] rfl rfl (any_of HT_.out (by kernel_rfl)) (fun _ _ _ h => h) (Or.inl ⟨by rfl, ?_⟩) ?_ ?_
                          rotate_left
                          · intro w'
                            go_simp
                            with_reducible rfl
                          rotate_left
                          · simp only [Act.put, List.setIfInBounds_toArray, List.set_cons_zero, List.set_cons_succ, i64_w, i32_w]
                            rfl
                          refine pure_ (i := 29) (N := some 53) (v := ?_) (a' := ?_) #[true, true, true, true, true, true, true, true, true, true, true, true, true, true, true, true, true, true, true, true, true, true, true, true, true, true, true, true, true, true] rfl rfl (any_of HT_.out (by kernel_rfl)) (fun _ _ _ h => h) (Or.inl ⟨by rfl, ?_⟩) ?_ ?_
                          rotate_left
                          · intro w'
                            go_simp
                            with_reducible rfl
                          rotate_left
                          · simp only [Act.put, List.setIfInBounds_toArray, List.set_cons_zero, List.set_cons_succ, i64_w, i32_w]
                            rfl
                          refine done_ (done_of HT_.out (by kernel_rfl)) ?_
                          try go_wp2
                          go_meet
                          case rel => exact ⟨_, ((((rd_T24 x3_2 (ji14)).f2) == ((rd_T24 x0_3 x4_2).f2))), (by first | rfl | (simp; done) | (simp only [← hji14] <;> (first | rfl | simp)) | (simp [*]; done)), H', ⟨by have := HJ3.out; have := HK2.out; first | omega | exact Nat.le_refl _⟩, ⟨by (with_reducible repeat (first | apply Kd.V_alloc | apply Kd.V_drewN | apply Kd.V_drew)); exact HO_0.out⟩, ⟨by (with_reducible repeat (first | apply Kd.R_alloc | apply Kd.R_drewN | apply Kd.R_drew)); exact HO_3.out⟩, ⟨by repeat (first | (with_reducible first | exact HB.out | apply below_alloc | apply pw_below_drewN | apply below_drew1) | exact HB.out)⟩⟩
                        · rw [if_neg c18] at H
                          have c18b0 : (((rd_T24 x3_2 (ji14)).f1) == ((rd_T24 x0_3 x4_2).f1)) = false := beq_eq_false_iff_ne.mpr c18
                          have c18b1 : (((rd_T24 x3_2 (ji14)).f1) != ((rd_T24 x0_3 x4_2).f1)) = true := bne_iff_ne.mpr c18
                          have H' := Aside0.mk H
                          clear H
                          try go_wp2
                          have n0_ := Aside0.mk (Kd.V_drew HO_0.out)
                          have n1_ := Aside0.mk (Kd.R_drew HO_3.out)
                          have n2_ := Aside0.mk (below_drew1 HB.out)
                          clear HO_0
                          clear HO_3
                          clear HB
                          have HO_0 := n0_
                          have HO_3 := n1_
                          have HB := n2_
                          clear n0_ n1_ n2_
                          have p548 : 0 ≤ ((ji14) : Int) := of_decide_eq_true (by first | (with_reducible assumption) | assumption)
                          have q548 : (ji14) < (x3_2.length : Int) := of_decide_eq_true (by first | (with_reducible assumption) | assumption)
                          obtain ⟨ad548, e548, hx548_0, hx548_1, hx548_2, hx548_3⟩ := at_T24 (Kd.R_reads' HO_3.out).2.2 (ji14) p548 q548
                          cases e548
                          replace p548 := eq_true p548
                          replace q548 := eq_true q548
                          have p549 : 0 ≤ (x4_2 : Int) := of_decide_eq_true (by first | (with_reducible assumption) | assumption)
                          have q549 : x4_2 < (x0_3.length : Int) := of_decide_eq_true (by first | (with_reducible assumption) | assumption)
                          obtain ⟨ad549, e549, hx549_0, hx549_1, hx549_2, hx549_3⟩ := at_T24 (Kd.V_reads' HO_0.out).2.2 x4_2 p549 q549
                          cases e549
                          replace p549 := eq_true p549
                          replace q549 := eq_true q549
                          refine start_ (n := 30) (S := fun w' => w'.cell? (ad548.add (((ji14)).toNat * 4)) = some (.int .i64 ((rd_T24 x3_2 (ji14)).f0)) ∧ w'.cell? ⟨(ad548.add (((ji14)).toNat * 4)).block, (ad548.add (((ji14)).toNat * 4)).off + 1, none⟩ = some (.int .u32 ((rd_T24 x3_2 (ji14)).f1)) ∧ w'.cell? ⟨(ad548.add (((ji14)).toNat * 4)).block, (ad548.add (((ji14)).toNat * 4)).off + 2, none⟩ = some (.int .u32 ((rd_T24 x3_2 (ji14)).f2)) ∧ w'.cell? ⟨(ad548.add (((ji14)).toNat * 4)).block, (ad548.add (((ji14)).toNat * 4)).off + 3, none⟩ = some (.string ((rd_T24 x3_2 (ji14)).f3)) ∧ w'.cell? (ad549.add ((x4_2).toNat * 4)) = some (.int .i64 ((rd_T24 x0_3 x4_2).f0)) ∧ w'.cell? ⟨(ad549.add ((x4_2).toNat * 4)).block, (ad549.add ((x4_2).toNat * 4)).off + 1, none⟩ = some (.int .u32 ((rd_T24 x0_3 x4_2).f1)) ∧ w'.cell? ⟨(ad549.add ((x4_2).toNat * 4)).block, (ad549.add ((x4_2).toNat * 4)).off + 2, none⟩ = some (.int .u32 ((rd_T24 x0_3 x4_2).f2)) ∧ w'.cell? ⟨(ad549.add ((x4_2).toNat * 4)).block, (ad549.add ((x4_2).toNat * 4)).off + 3, none⟩ = some (.string ((rd_T24 x0_3 x4_2).f3))) (ds := []) #[false, false, false, false, false, false, false, false, false, false, false, false, false, false, false, false, false, false, false, false, false, false, false, false, false, false, false, false, false, false] (by kernel_rfl) rfl rfl ⟨hx548_0, hx548_1, hx548_2, hx548_3, hx549_0, hx549_1, hx549_2, hx549_3⟩ (fun hHeld => ?_); refine with_tabW croftlaw46_TrackStraight.tab10 croftlaw46_TrackStraight.bits10 (fun HT_ HW_ => ?_)
                          generalize wr.drew = w20 at HO_0 HO_3 HB hx548_0 hx548_1 hx548_2 hx548_3 hx549_0 hx549_1 hx549_2 hx549_3 hHeld ⊢
                          refine pure_ (i := 0) (N := some 24) (v := ?_) (a' := ?_) #[true, false, false, false, false, false, false, false, false, false, false, false, false, false, false, false, false, false, false, false, false, false, false, false, false, false, false, false, false, false] rfl rfl (any_of HT_.out (by kernel_rfl)) (fun _ _ _ h => h) (Or.inl ⟨by rfl, ?_⟩) ?_ ?_
                          rotate_left
                          · intro w'
                            go_simp
                            with_reducible rfl
                          rotate_left
                          · simp only [Act.put, List.setIfInBounds_toArray, List.set_cons_zero, List.set_cons_succ, i64_w, i32_w]
                            rfl
                          refine pure_ (i := 1) (N := some 25) (v := ?_) (a' := ?_) #[true, true, false, false, false, false, false, false, false, false, false, false, false, false, false, false, false, false, false, false, false, false, false, false, false, false, false, false, false, false] rfl rfl (any_of HT_.out (by kernel_rfl)) (fun _ _ _ h => h) (Or.inl ⟨by rfl, ?_⟩) ?_ ?_
                          rotate_left
                          · intro w'
                            go_simp
                            with_reducible rfl
                          rotate_left
                          · simp only [Act.put, List.setIfInBounds_toArray, List.set_cons_zero, List.set_cons_succ, i64_w, i32_w]
                            rfl
                          refine pure_ (i := 2) (N := some 26) (v := ?_) (a' := ?_) #[true, true, true, false, false, false, false, false, false, false, false, false, false, false, false, false, false, false, false, false, false, false, false, false, false, false, false, false, false, false] rfl rfl (any_of HT_.out (by kernel_rfl)) (fun _ _ _ h => h) (Or.inl ⟨by rfl, ?_⟩) ?_ ?_
                          rotate_left
                          · intro w'
                            go_simp
                            with_reducible rfl
                          rotate_left
                          · simp only [Act.put, List.setIfInBounds_toArray, List.set_cons_zero, List.set_cons_succ, i64_w, i32_w]
                            rfl
                          refine pure_ (i := 3) (N := some 27) (v := ?_) (a' := ?_) #[true, true, true, true, false, false, false, false, false, false, false, false, false, false, false, false, false, false, false, false, false, false, false, false, false, false, false, false, false, false] rfl rfl (any_of HT_.out (by kernel_rfl)) (fun _ _ _ h => h) (Or.inl ⟨by rfl, ?_⟩) ?_ ?_
                          rotate_left
                          · intro w'
                            go_simp
                            with_reducible rfl
                          rotate_left
                          · simp only [Act.put, List.setIfInBounds_toArray, List.set_cons_zero, List.set_cons_succ, i64_w, i32_w]
                            rfl
                          refine pure_ (i := 4) (N := some 28) (v := ?_) (a' := ?_) #[true, true, true, true, true, false, false, false, false, false, false, false, false, false, false, false, false, false, false, false, false, false, false, false, false, false, false, false, false, false] rfl rfl (any_of HT_.out (by kernel_rfl)) (fun _ _ _ h => h) (Or.inl ⟨by rfl, ?_⟩) ?_ ?_
                          rotate_left
                          · intro w'
                            go_simp
                            with_reducible rfl
                          rotate_left
                          · simp only [Act.put, List.setIfInBounds_toArray, List.set_cons_zero, List.set_cons_succ, i64_w, i32_w]
                            rfl
                          refine pure_ (i := 5) (N := some 29) (v := ?_) (a' := ?_) #[true, true, true, true, true, true, false, false, false, false, false, false, false, false, false, false, false, false, false, false, false, false, false, false, false, false, false, false, false, false] rfl rfl (any_of HT_.out (by kernel_rfl)) (fun _ _ _ h => h) (Or.inl ⟨by rfl, ?_⟩) ?_ ?_
                          rotate_left
                          · intro w'
                            go_simp
                            with_reducible rfl
                          rotate_left
                          · simp only [Act.put, List.setIfInBounds_toArray, List.set_cons_zero, List.set_cons_succ, i64_w, i32_w]
                            rfl
                          refine pure_ (i := 6) (N := some 30) (v := ?_) (a' := ?_) #[true, true, true, true, true, true, true, false, false, false, false, false, false, false, false, false, false, false, false, false, false, false, false, false, false, false, false, false, false, false] rfl rfl (any_of HT_.out (by kernel_rfl)) (fun _ _ _ h => h) (Or.inl ⟨by rfl, ?_⟩) ?_ ?_
                          rotate_left
                          · intro w'
                            go_simp
                            with_reducible rfl
                          rotate_left
                          · simp only [Act.put, List.setIfInBounds_toArray, List.set_cons_zero, List.set_cons_succ, i64_w, i32_w]
                            rfl
                          refine pure_ (i := 7) (N := some 31) (v := ?_) (a' := ?_) #[true, true, true, true, true, true, true, true, false, false, false, false, false, false, false, false, false, false, false, false, false, false, false, false, false, false, false, false, false, false] rfl rfl (any_of HT_.out (by kernel_rfl)) (fun _ _ _ h => h) (Or.inl ⟨by rfl, ?_⟩) ?_ ?_
                          rotate_left
                          · intro w'
                            go_simp
                            with_reducible rfl
                          rotate_left
                          · simp only [Act.put, List.setIfInBounds_toArray, List.set_cons_zero, List.set_cons_succ, i64_w, i32_w]
                            rfl
                          refine pure_ (i := 9) (N := some 33) (v := ?_) (a' := ?_) #[true, true, true, true, true, true, true, true, false, true, false, false, false, false, false, false, false, false, false, false, false, false, false, false, false, false, false, false, false, false] rfl rfl (any_of HT_.out (by kernel_rfl)) (fun _ _ _ h => h) (Or.inl ⟨by rfl, ?_⟩) ?_ ?_
                          rotate_left
                          · intro w'
                            go_simp
                            with_reducible rfl
                          rotate_left
                          · simp only [Act.put, List.setIfInBounds_toArray, List.set_cons_zero, List.set_cons_succ, i64_w, i32_w]
                            rfl
                          refine pure_ (i := 10) (N := some 34) (v := ?_) (a' := ?_) #[true, true, true, true, true, true, true, true, false, true, true, false, false, false, false, false, false, false, false, false, false, false, false, false, false, false, false, false, false, false] rfl rfl (any_of HT_.out (by kernel_rfl)) (fun _ _ _ h => h) (Or.inl ⟨by rfl, ?_⟩) ?_ ?_
                          rotate_left
                          · intro w'
                            go_simp
                            with_reducible rfl
                          rotate_left
                          · simp only [Act.put, List.setIfInBounds_toArray, List.set_cons_zero, List.set_cons_succ, i64_w, i32_w]
                            rfl
                          refine pure_ (i := 11) (N := some 35) (v := ?_) (a' := ?_) #[true, true, true, true, true, true, true, true, false, true, true, true, false, false, false, false, false, false, false, false, false, false, false, false, false, false, false, false, false, false] rfl rfl (any_of HT_.out (by kernel_rfl)) (fun _ _ _ h => h) (Or.inl ⟨by rfl, ?_⟩) ?_ ?_
                          rotate_left
                          · intro w'
                            go_simp
                            with_reducible rfl
                          rotate_left
                          · simp only [Act.put, List.setIfInBounds_toArray, List.set_cons_zero, List.set_cons_succ, i64_w, i32_w]
                            rfl
                          refine pure_ (i := 12) (N := some 36) (v := ?_) (a' := ?_) #[true, true, true, true, true, true, true, true, false, true, true, true, true, false, false, false, false, false, false, false, false, false, false, false, false, false, false, false, false, false] rfl rfl (any_of HT_.out (by kernel_rfl)) (fun _ _ _ h => h) (Or.inl ⟨by rfl, ?_⟩) ?_ ?_
                          rotate_left
                          · intro w'
                            go_simp
                            with_reducible rfl
                          rotate_left
                          · simp only [Act.put, List.setIfInBounds_toArray, List.set_cons_zero, List.set_cons_succ, i64_w, i32_w]
                            rfl
                          refine take_ (i := 8) (N := some 32) (v := ?_) (a' := ?_) #[true, true, true, true, true, true, true, true, true, true, true, true, true, false, false, false, false, false, false, false, false, false, false, false, false, false, false, false, false, false] rfl rfl (take_ofW HT_.out HW_.out (by kernel_rfl)) (fun _ _ _ h => h) (Or.inl ⟨by rfl, ?_⟩) hHeld ?_ ?_
                          rotate_left
                          · rintro w' ⟨s0, s1, s2, s3, s4, s5, s6, s7⟩
                            go_simp
                            with_reducible rfl
                          rotate_left
                          · simp only [Act.put, List.setIfInBounds_toArray, List.set_cons_zero, List.set_cons_succ, i64_w, i32_w]
                            rfl
                          refine take_ (i := 13) (N := some 37) (v := ?_) (a' := ?_) #[true, true, true, true, true, true, true, true, true, true, true, true, true, true, false, false, false, false, false, false, false, false, false, false, false, false, false, false, false, false] rfl rfl (take_ofW HT_.out HW_.out (by kernel_rfl)) (fun _ _ _ h => h) (Or.inl ⟨by rfl, ?_⟩) hHeld ?_ ?_
                          rotate_left
                          · rintro w' ⟨s0, s1, s2, s3, s4, s5, s6, s7⟩
                            go_simp
                            with_reducible rfl
                          rotate_left
                          · simp only [Act.put, List.setIfInBounds_toArray, List.set_cons_zero, List.set_cons_succ, i64_w, i32_w]
                            rfl
                          refine pure_ (i := 14) (N := some 38) (v := ?_) (a' := ?_) #[true, true, true, true, true, true, true, true, true, true, true, true, true, true, true, false, false, false, false, false, false, false, false, false, false, false, false, false, false, false] rfl rfl (any_of HT_.out (by kernel_rfl)) (fun _ _ _ h => h) (Or.inl ⟨by rfl, ?_⟩) ?_ ?_
                          rotate_left
                          · intro w'
                            go_simp
                            with_reducible rfl
                          rotate_left
                          · simp only [Act.put, List.setIfInBounds_toArray, List.set_cons_zero, List.set_cons_succ, i64_w, i32_w]
                            rfl
                          refine pure_ (i := 15) (N := some 39) (v := ?_) (a' := ?_) #[true, true, true, true, true, true, true, true, true, true, true, true, true, true, true, true, false, false, false, false, false, false, false, false, false, false, false, false, false, false] rfl rfl (any_of HT_.out (by kernel_rfl)) (fun _ _ _ h => h) (Or.inl ⟨by rfl, ?_⟩) ?_ ?_
                          rotate_left
                          · intro w'
                            go_simp
                            with_reducible rfl
                          rotate_left
                          · simp only [Act.put, List.setIfInBounds_toArray, List.set_cons_zero, List.set_cons_succ, i64_w, i32_w]
                            rfl
                          refine pure_ (i := 16) (N := some 40) (v := ?_) (a' := ?_) #[true, true, true, true, true, true, true, true, true, true, true, true, true, true, true, true, true, false, false, false, false, false, false, false, false, false, false, false, false, false] rfl rfl (any_of HT_.out (by kernel_rfl)) (fun _ _ _ h => h) (Or.inl ⟨by rfl, ?_⟩) ?_ ?_
                          rotate_left
                          · intro w'
                            go_simp
                            with_reducible rfl
                          rotate_left
                          · simp only [Act.put, List.setIfInBounds_toArray, List.set_cons_zero, List.set_cons_succ, i64_w, i32_w]
                            rfl
                          refine pure_ (i := 17) (N := some 41) (v := undef) (a' := ?_) #[true, true, true, true, true, true, true, true, true, true, true, true, true, true, true, true, true, true, false, false, false, false, false, false, false, false, false, false, false, false] rfl rfl (any_of HT_.out (by kernel_rfl)) (fun _ _ _ h => h) (Or.inr ⟨by rfl, rfl⟩) ?_ ?_
                          rotate_left
                          · simp only [Act.put, List.setIfInBounds_toArray, List.set_cons_zero, List.set_cons_succ, i64_w, i32_w]
                            rfl
                          refine pure_ (i := 18) (N := some 42) (v := undef) (a' := ?_) #[true, true, true, true, true, true, true, true, true, true, true, true, true, true, true, true, true, true, true, false, false, false, false, false, false, false, false, false, false, false] rfl rfl (any_of HT_.out (by kernel_rfl)) (fun _ _ _ h => h) (Or.inr ⟨by rfl, rfl⟩) ?_ ?_
                          rotate_left
                          · simp only [Act.put, List.setIfInBounds_toArray, List.set_cons_zero, List.set_cons_succ, i64_w, i32_w]
                            rfl
                          refine pure_ (i := 19) (N := some 43) (v := undef) (a' := ?_) #[true, true, true, true, true, true, true, true, true, true, true, true, true, true, true, true, true, true, true, true, false, false, false, false, false, false, false, false, false, false] rfl rfl (any_of HT_.out (by kernel_rfl)) (fun _ _ _ h => h) (Or.inr ⟨by rfl, rfl⟩) ?_ ?_
                          rotate_left
                          · simp only [Act.put, List.setIfInBounds_toArray, List.set_cons_zero, List.set_cons_succ, i64_w, i32_w]
                            rfl
                          refine pure_ (i := 20) (N := some 44) (v := undef) (a' := ?_) #[true, true, true, true, true, true, true, true, true, true, true, true, true, true, true, true, true, true, true, true, true, false, false, false, false, false, false, false, false, false] rfl rfl (any_of HT_.out (by kernel_rfl)) (fun _ _ _ h => h) (Or.inr ⟨by rfl, rfl⟩) ?_ ?_
                          rotate_left
                          · simp only [Act.put, List.setIfInBounds_toArray, List.set_cons_zero, List.set_cons_succ, i64_w, i32_w]
                            rfl
                          refine pure_ (i := 21) (N := some 45) (v := undef) (a' := ?_) #[true, true, true, true, true, true, true, true, true, true, true, true, true, true, true, true, true, true, true, true, true, true, false, false, false, false, false, false, false, false] rfl rfl (any_of HT_.out (by kernel_rfl)) (fun _ _ _ h => h) (Or.inr ⟨by rfl, rfl⟩) ?_ ?_
                          rotate_left
                          · simp only [Act.put, List.setIfInBounds_toArray, List.set_cons_zero, List.set_cons_succ, i64_w, i32_w]
                            rfl
                          refine pure_ (i := 22) (N := some 46) (v := undef) (a' := ?_) #[true, true, true, true, true, true, true, true, true, true, true, true, true, true, true, true, true, true, true, true, true, true, true, false, false, false, false, false, false, false] rfl rfl (any_of HT_.out (by kernel_rfl)) (fun _ _ _ h => h) (Or.inr ⟨by rfl, rfl⟩) ?_ ?_
                          rotate_left
                          · simp only [Act.put, List.setIfInBounds_toArray, List.set_cons_zero, List.set_cons_succ, i64_w, i32_w]
                            rfl
                          refine pure_ (i := 23) (N := some 47) (v := undef) (a' := ?_) #[true, true, true, true, true, true, true, true, true, true, true, true, true, true, true, true, true, true, true, true, true, true, true, true, false, false, false, false, false, false] rfl rfl (any_of HT_.out (by kernel_rfl)) (fun _ _ _ h => h) (Or.inr ⟨by rfl, rfl⟩) ?_ ?_
                          rotate_left
                          · simp only [Act.put, List.setIfInBounds_toArray, List.set_cons_zero, List.set_cons_succ, i64_w, i32_w]
                            rfl
                          refine pure_ (i := 24) (N := some 48) (v := undef) (a' := ?_) #[true, true, true, true, true, true, true, true, true, true, true, true, true, true, true, true, true, true, true, true, true, true, true, true, true, false, false, false, false, false] rfl rfl (any_of HT_.out (by kernel_rfl)) (fun _ _ _ h => h) (Or.inr ⟨by rfl, rfl⟩) ?_ ?_
                          rotate_left
                          · simp only [Act.put, List.setIfInBounds_toArray, List.set_cons_zero, List.set_cons_succ, i64_w, i32_w]
                            rfl
                          refine pure_ (i := 25) (N := some 49) (v := undef) (a' := ?_) #[true, true, true, true, true, true, true, true, true, true, true, true, true, true, true, true, true, true, true, true, true, true, true, true, true, true, false, false, false, false] rfl rfl (any_of HT_.out (by kernel_rfl)) (fun _ _ _ h => h) (Or.inr ⟨by rfl, rfl⟩) ?_ ?_
                          rotate_left
                          · simp only [Act.put, List.setIfInBounds_toArray, List.set_cons_zero, List.set_cons_succ, i64_w, i32_w]
                            rfl
                          refine pure_ (i := 26) (N := some 50) (v := undef) (a' := ?_) #[true, true, true, true, true, true, true, true, true, true, true, true, true, true, true, true, true, true, true, true, true, true, true, true, true, true, true, false, false, false] rfl rfl (any_of HT_.out (by kernel_rfl)) (fun _ _ _ h => h) (Or.inr ⟨by rfl, rfl⟩) ?_ ?_
                          rotate_left
                          · simp only [Act.put, List.setIfInBounds_toArray, List.set_cons_zero, List.set_cons_succ, i64_w, i32_w]
                            rfl
                          refine pure_ (i := 27) (N := some 51) (v := undef) (a' := ?_) #[true, true, true, true, true, true, true, true, true, true, true, true, true, true, true, true, true, true, true, true, true, true, true, true, true, true, true, true, false, false] rfl rfl (any_of HT_.out (by kernel_rfl)) (fun _ _ _ h => h) (Or.inr ⟨by rfl, rfl⟩) ?_ ?_
                          rotate_left
                          · simp only [Act.put, List.setIfInBounds_toArray, List.set_cons_zero, List.set_cons_succ, i64_w, i32_w]
                            rfl
                          refine pure_ (i := 28) (N := some 52) (v := undef) (a' := ?_) #[true, true, true, true, true, true, true, true, true, true, true, true, true, true, true, true, true, true, true, true, true, true, true, true, true, true, true, true, true, false] rfl rfl (any_of HT_.out (by kernel_rfl)) (fun _ _ _ h => h) (Or.inr ⟨by rfl, rfl⟩) ?_ ?_
                          rotate_left
                          · simp only [Act.put, List.setIfInBounds_toArray, List.set_cons_zero, List.set_cons_succ, i64_w, i32_w]
                            rfl
                          refine pure_ (i := 29) (N := some 53) (v := ?_) (a' := ?_) #[true, true, true, true, true, true, true, true, true, true, true, true, true, true, true, true, true, true, true, true, true, true, true, true, true, true, true, true, true, true] rfl rfl (any_of HT_.out (by kernel_rfl)) (fun _ _ _ h => h) (Or.inl ⟨by rfl, ?_⟩) ?_ ?_
                          rotate_left
                          · intro w'
                            go_simp
                            with_reducible rfl
                          rotate_left
                          · simp only [Act.put, List.setIfInBounds_toArray, List.set_cons_zero, List.set_cons_succ, i64_w, i32_w]
                            rfl
                          refine done_ (done_of HT_.out (by kernel_rfl)) ?_
                          try go_wp2
                          go_meet
                          case rel => exact ⟨_, (false), (by first | rfl | (simp; done) | (simp [*]; done)), H', ⟨by have := HJ3.out; have := HK2.out; first | omega | exact Nat.le_refl _⟩, ⟨by (with_reducible repeat (first | apply Kd.V_alloc | apply Kd.V_drewN | apply Kd.V_drew)); exact HO_0.out⟩, ⟨by (with_reducible repeat (first | apply Kd.R_alloc | apply Kd.R_drewN | apply Kd.R_drew)); exact HO_3.out⟩, ⟨by repeat (first | (with_reducible first | exact HB.out | apply below_alloc | apply pw_below_drewN | apply below_drew1) | exact HB.out)⟩⟩
                      · rw [if_neg c17] at H
                        exact absurd H (by simp)
                    · rw [if_neg c16] at H
                      exact absurd H (by simp)
                  · rw [if_neg c15] at H
                    exact absurd H (by simp)
                · rw [if_neg c13] at H
                  have c13b0 : decide (0 < (x3_2.length : Int)) = false := decide_eq_false c13
                  have c13b1 : decide (0 < x3_2.length) = false := decide_eq_false (by omega)
                  clear c13
                  (first | rw [c13b0] | (simp only [i64_w, i32_w]; rw [c13b0]) | skip)
                  have H' := Aside0.mk H
                  clear H
                  try go_wp2
                  have n0_ := Aside0.mk (Kd.V_drew HO_0.out)
                  have n1_ := Aside0.mk (Kd.R_drew HO_3.out)
                  have n2_ := Aside0.mk (below_drew1 HB.out)
                  clear HO_0
                  clear HO_3
                  clear HB
                  have HO_0 := n0_
                  have HO_3 := n1_
                  have HB := n2_
                  clear n0_ n1_ n2_
                  refine start_ (n := 30) (S := fun w' => True) (ds := []) #[false, false, false, false, false, false, false, false, false, false, false, false, false, false, false, false, false, false, false, false, false, false, false, false, false, false, false, false, false, false] (by kernel_rfl) rfl rfl trivial (fun hHeld => ?_); refine with_tabW croftlaw46_TrackStraight.tab10 croftlaw46_TrackStraight.bits10 (fun HT_ HW_ => ?_)
                  generalize wr.drew = w21 at HO_0 HO_3 HB hHeld ⊢
                  refine pure_ (i := 0) (N := some 24) (v := ?_) (a' := ?_) #[true, false, false, false, false, false, false, false, false, false, false, false, false, false, false, false, false, false, false, false, false, false, false, false, false, false, false, false, false, false] rfl rfl (any_of HT_.out (by kernel_rfl)) (fun _ _ _ h => h) (Or.inl ⟨by rfl, ?_⟩) ?_ ?_
                  rotate_left
                  · intro w'
                    go_simp
                    with_reducible rfl
                  rotate_left
                  · simp only [Act.put, List.setIfInBounds_toArray, List.set_cons_zero, List.set_cons_succ, i64_w, i32_w]
                    rfl
                  refine pure_ (i := 1) (N := some 25) (v := ?_) (a' := ?_) #[true, true, false, false, false, false, false, false, false, false, false, false, false, false, false, false, false, false, false, false, false, false, false, false, false, false, false, false, false, false] rfl rfl (any_of HT_.out (by kernel_rfl)) (fun _ _ _ h => h) (Or.inl ⟨by rfl, ?_⟩) ?_ ?_
                  rotate_left
                  · intro w'
                    go_simp
                    with_reducible rfl
                  rotate_left
                  · simp only [Act.put, List.setIfInBounds_toArray, List.set_cons_zero, List.set_cons_succ, i64_w, i32_w]
                    rfl
                  refine pure_ (i := 2) (N := some 26) (v := ?_) (a' := ?_) #[true, true, true, false, false, false, false, false, false, false, false, false, false, false, false, false, false, false, false, false, false, false, false, false, false, false, false, false, false, false] rfl rfl (any_of HT_.out (by kernel_rfl)) (fun _ _ _ h => h) (Or.inl ⟨by rfl, ?_⟩) ?_ ?_
                  rotate_left
                  · intro w'
                    go_simp
                    with_reducible rfl
                  rotate_left
                  · simp only [Act.put, List.setIfInBounds_toArray, List.set_cons_zero, List.set_cons_succ, i64_w, i32_w]
                    rfl
                  refine pure_ (i := 3) (N := some 27) (v := undef) (a' := ?_) #[true, true, true, true, false, false, false, false, false, false, false, false, false, false, false, false, false, false, false, false, false, false, false, false, false, false, false, false, false, false] rfl rfl (any_of HT_.out (by kernel_rfl)) (fun _ _ _ h => h) (Or.inr ⟨by rfl, rfl⟩) ?_ ?_
                  rotate_left
                  · simp only [Act.put, List.setIfInBounds_toArray, List.set_cons_zero, List.set_cons_succ, i64_w, i32_w]
                    rfl
                  refine pure_ (i := 4) (N := some 28) (v := undef) (a' := ?_) #[true, true, true, true, true, false, false, false, false, false, false, false, false, false, false, false, false, false, false, false, false, false, false, false, false, false, false, false, false, false] rfl rfl (any_of HT_.out (by kernel_rfl)) (fun _ _ _ h => h) (Or.inr ⟨by rfl, rfl⟩) ?_ ?_
                  rotate_left
                  · simp only [Act.put, List.setIfInBounds_toArray, List.set_cons_zero, List.set_cons_succ, i64_w, i32_w]
                    rfl
                  refine pure_ (i := 5) (N := some 29) (v := undef) (a' := ?_) #[true, true, true, true, true, true, false, false, false, false, false, false, false, false, false, false, false, false, false, false, false, false, false, false, false, false, false, false, false, false] rfl rfl (any_of HT_.out (by kernel_rfl)) (fun _ _ _ h => h) (Or.inr ⟨by rfl, rfl⟩) ?_ ?_
                  rotate_left
                  · simp only [Act.put, List.setIfInBounds_toArray, List.set_cons_zero, List.set_cons_succ, i64_w, i32_w]
                    rfl
                  refine pure_ (i := 6) (N := some 30) (v := undef) (a' := ?_) #[true, true, true, true, true, true, true, false, false, false, false, false, false, false, false, false, false, false, false, false, false, false, false, false, false, false, false, false, false, false] rfl rfl (any_of HT_.out (by kernel_rfl)) (fun _ _ _ h => h) (Or.inr ⟨by rfl, rfl⟩) ?_ ?_
                  rotate_left
                  · simp only [Act.put, List.setIfInBounds_toArray, List.set_cons_zero, List.set_cons_succ, i64_w, i32_w]
                    rfl
                  refine pure_ (i := 7) (N := some 31) (v := undef) (a' := ?_) #[true, true, true, true, true, true, true, true, false, false, false, false, false, false, false, false, false, false, false, false, false, false, false, false, false, false, false, false, false, false] rfl rfl (any_of HT_.out (by kernel_rfl)) (fun _ _ _ h => h) (Or.inr ⟨by rfl, rfl⟩) ?_ ?_
                  rotate_left
                  · simp only [Act.put, List.setIfInBounds_toArray, List.set_cons_zero, List.set_cons_succ, i64_w, i32_w]
                    rfl
                  refine pure_ (i := 8) (N := some 32) (v := undef) (a' := ?_) #[true, true, true, true, true, true, true, true, true, false, false, false, false, false, false, false, false, false, false, false, false, false, false, false, false, false, false, false, false, false] rfl rfl (any_of HT_.out (by kernel_rfl)) (fun _ _ _ h => h) (Or.inr ⟨by rfl, rfl⟩) ?_ ?_
                  rotate_left
                  · simp only [Act.put, List.setIfInBounds_toArray, List.set_cons_zero, List.set_cons_succ, i64_w, i32_w]
                    rfl
                  refine pure_ (i := 9) (N := some 33) (v := undef) (a' := ?_) #[true, true, true, true, true, true, true, true, true, true, false, false, false, false, false, false, false, false, false, false, false, false, false, false, false, false, false, false, false, false] rfl rfl (any_of HT_.out (by kernel_rfl)) (fun _ _ _ h => h) (Or.inr ⟨by rfl, rfl⟩) ?_ ?_
                  rotate_left
                  · simp only [Act.put, List.setIfInBounds_toArray, List.set_cons_zero, List.set_cons_succ, i64_w, i32_w]
                    rfl
                  refine pure_ (i := 10) (N := some 34) (v := undef) (a' := ?_) #[true, true, true, true, true, true, true, true, true, true, true, false, false, false, false, false, false, false, false, false, false, false, false, false, false, false, false, false, false, false] rfl rfl (any_of HT_.out (by kernel_rfl)) (fun _ _ _ h => h) (Or.inr ⟨by rfl, rfl⟩) ?_ ?_
                  rotate_left
                  · simp only [Act.put, List.setIfInBounds_toArray, List.set_cons_zero, List.set_cons_succ, i64_w, i32_w]
                    rfl
                  refine pure_ (i := 11) (N := some 35) (v := undef) (a' := ?_) #[true, true, true, true, true, true, true, true, true, true, true, true, false, false, false, false, false, false, false, false, false, false, false, false, false, false, false, false, false, false] rfl rfl (any_of HT_.out (by kernel_rfl)) (fun _ _ _ h => h) (Or.inr ⟨by rfl, rfl⟩) ?_ ?_
                  rotate_left
                  · simp only [Act.put, List.setIfInBounds_toArray, List.set_cons_zero, List.set_cons_succ, i64_w, i32_w]
                    rfl
                  refine pure_ (i := 12) (N := some 36) (v := undef) (a' := ?_) #[true, true, true, true, true, true, true, true, true, true, true, true, true, false, false, false, false, false, false, false, false, false, false, false, false, false, false, false, false, false] rfl rfl (any_of HT_.out (by kernel_rfl)) (fun _ _ _ h => h) (Or.inr ⟨by rfl, rfl⟩) ?_ ?_
                  rotate_left
                  · simp only [Act.put, List.setIfInBounds_toArray, List.set_cons_zero, List.set_cons_succ, i64_w, i32_w]
                    rfl
                  refine pure_ (i := 13) (N := some 37) (v := undef) (a' := ?_) #[true, true, true, true, true, true, true, true, true, true, true, true, true, true, false, false, false, false, false, false, false, false, false, false, false, false, false, false, false, false] rfl rfl (any_of HT_.out (by kernel_rfl)) (fun _ _ _ h => h) (Or.inr ⟨by rfl, rfl⟩) ?_ ?_
                  rotate_left
                  · simp only [Act.put, List.setIfInBounds_toArray, List.set_cons_zero, List.set_cons_succ, i64_w, i32_w]
                    rfl
                  refine pure_ (i := 14) (N := some 38) (v := undef) (a' := ?_) #[true, true, true, true, true, true, true, true, true, true, true, true, true, true, true, false, false, false, false, false, false, false, false, false, false, false, false, false, false, false] rfl rfl (any_of HT_.out (by kernel_rfl)) (fun _ _ _ h => h) (Or.inr ⟨by rfl, rfl⟩) ?_ ?_
                  rotate_left
                  · simp only [Act.put, List.setIfInBounds_toArray, List.set_cons_zero, List.set_cons_succ, i64_w, i32_w]
                    rfl
                  refine pure_ (i := 15) (N := some 39) (v := ?_) (a' := ?_) #[true, true, true, true, true, true, true, true, true, true, true, true, true, true, true, true, false, false, false, false, false, false, false, false, false, false, false, false, false, false] rfl rfl (any_of HT_.out (by kernel_rfl)) (fun _ _ _ h => h) (Or.inl ⟨by rfl, ?_⟩) ?_ ?_
                  rotate_left
                  · intro w'
                    go_simp
                    with_reducible rfl
                  rotate_left
                  · simp only [Act.put, List.setIfInBounds_toArray, List.set_cons_zero, List.set_cons_succ, i64_w, i32_w]
                    rfl
                  refine pure_ (i := 16) (N := some 40) (v := ?_) (a' := ?_) #[true, true, true, true, true, true, true, true, true, true, true, true, true, true, true, true, true, false, false, false, false, false, false, false, false, false, false, false, false, false] rfl rfl (any_of HT_.out (by kernel_rfl)) (fun _ _ _ h => h) (Or.inl ⟨by rfl, ?_⟩) ?_ ?_
                  rotate_left
                  · intro w'
                    go_simp
                    with_reducible rfl
                  rotate_left
                  · simp only [Act.put, List.setIfInBounds_toArray, List.set_cons_zero, List.set_cons_succ, i64_w, i32_w]
                    rfl
                  refine pure_ (i := 17) (N := some 41) (v := undef) (a' := ?_) #[true, true, true, true, true, true, true, true, true, true, true, true, true, true, true, true, true, true, false, false, false, false, false, false, false, false, false, false, false, false] rfl rfl (any_of HT_.out (by kernel_rfl)) (fun _ _ _ h => h) (Or.inr ⟨by rfl, rfl⟩) ?_ ?_
                  rotate_left
                  · simp only [Act.put, List.setIfInBounds_toArray, List.set_cons_zero, List.set_cons_succ, i64_w, i32_w]
                    rfl
                  refine pure_ (i := 18) (N := some 42) (v := undef) (a' := ?_) #[true, true, true, true, true, true, true, true, true, true, true, true, true, true, true, true, true, true, true, false, false, false, false, false, false, false, false, false, false, false] rfl rfl (any_of HT_.out (by kernel_rfl)) (fun _ _ _ h => h) (Or.inr ⟨by rfl, rfl⟩) ?_ ?_
                  rotate_left
                  · simp only [Act.put, List.setIfInBounds_toArray, List.set_cons_zero, List.set_cons_succ, i64_w, i32_w]
                    rfl
                  refine pure_ (i := 19) (N := some 43) (v := undef) (a' := ?_) #[true, true, true, true, true, true, true, true, true, true, true, true, true, true, true, true, true, true, true, true, false, false, false, false, false, false, false, false, false, false] rfl rfl (any_of HT_.out (by kernel_rfl)) (fun _ _ _ h => h) (Or.inr ⟨by rfl, rfl⟩) ?_ ?_
                  rotate_left
                  · simp only [Act.put, List.setIfInBounds_toArray, List.set_cons_zero, List.set_cons_succ, i64_w, i32_w]
                    rfl
                  refine pure_ (i := 20) (N := some 44) (v := undef) (a' := ?_) #[true, true, true, true, true, true, true, true, true, true, true, true, true, true, true, true, true, true, true, true, true, false, false, false, false, false, false, false, false, false] rfl rfl (any_of HT_.out (by kernel_rfl)) (fun _ _ _ h => h) (Or.inr ⟨by rfl, rfl⟩) ?_ ?_
                  rotate_left
                  · simp only [Act.put, List.setIfInBounds_toArray, List.set_cons_zero, List.set_cons_succ, i64_w, i32_w]
                    rfl
                  refine pure_ (i := 21) (N := some 45) (v := undef) (a' := ?_) #[true, true, true, true, true, true, true, true, true, true, true, true, true, true, true, true, true, true, true, true, true, true, false, false, false, false, false, false, false, false] rfl rfl (any_of HT_.out (by kernel_rfl)) (fun _ _ _ h => h) (Or.inr ⟨by rfl, rfl⟩) ?_ ?_
                  rotate_left
                  · simp only [Act.put, List.setIfInBounds_toArray, List.set_cons_zero, List.set_cons_succ, i64_w, i32_w]
                    rfl
                  refine pure_ (i := 22) (N := some 46) (v := undef) (a' := ?_) #[true, true, true, true, true, true, true, true, true, true, true, true, true, true, true, true, true, true, true, true, true, true, true, false, false, false, false, false, false, false] rfl rfl (any_of HT_.out (by kernel_rfl)) (fun _ _ _ h => h) (Or.inr ⟨by rfl, rfl⟩) ?_ ?_
                  rotate_left
                  · simp only [Act.put, List.setIfInBounds_toArray, List.set_cons_zero, List.set_cons_succ, i64_w, i32_w]
                    rfl
                  refine pure_ (i := 23) (N := some 47) (v := undef) (a' := ?_) #[true, true, true, true, true, true, true, true, true, true, true, true, true, true, true, true, true, true, true, true, true, true, true, true, false, false, false, false, false, false] rfl rfl (any_of HT_.out (by kernel_rfl)) (fun _ _ _ h => h) (Or.inr ⟨by rfl, rfl⟩) ?_ ?_
                  rotate_left
                  · simp only [Act.put, List.setIfInBounds_toArray, List.set_cons_zero, List.set_cons_succ, i64_w, i32_w]
                    rfl
                  refine pure_ (i := 24) (N := some 48) (v := undef) (a' := ?_) #[true, true, true, true, true, true, true, true, true, true, true, true, true, true, true, true, true, true, true, true, true, true, true, true, true, false, false, false, false, false] rfl rfl (any_of HT_.out (by kernel_rfl)) (fun _ _ _ h => h) (Or.inr ⟨by rfl, rfl⟩) ?_ ?_
                  rotate_left
                  · simp only [Act.put, List.setIfInBounds_toArray, List.set_cons_zero, List.set_cons_succ, i64_w, i32_w]
                    rfl
                  refine pure_ (i := 25) (N := some 49) (v := undef) (a' := ?_) #[true, true, true, true, true, true, true, true, true, true, true, true, true, true, true, true, true, true, true, true, true, true, true, true, true, true, false, false, false, false] rfl rfl (any_of HT_.out (by kernel_rfl)) (fun _ _ _ h => h) (Or.inr ⟨by rfl, rfl⟩) ?_ ?_
                  rotate_left
                  · simp only [Act.put, List.setIfInBounds_toArray, List.set_cons_zero, List.set_cons_succ, i64_w, i32_w]
                    rfl
                  refine pure_ (i := 26) (N := some 50) (v := undef) (a' := ?_) #[true, true, true, true, true, true, true, true, true, true, true, true, true, true, true, true, true, true, true, true, true, true, true, true, true, true, true, false, false, false] rfl rfl (any_of HT_.out (by kernel_rfl)) (fun _ _ _ h => h) (Or.inr ⟨by rfl, rfl⟩) ?_ ?_
                  rotate_left
                  · simp only [Act.put, List.setIfInBounds_toArray, List.set_cons_zero, List.set_cons_succ, i64_w, i32_w]
                    rfl
                  refine pure_ (i := 27) (N := some 51) (v := undef) (a' := ?_) #[true, true, true, true, true, true, true, true, true, true, true, true, true, true, true, true, true, true, true, true, true, true, true, true, true, true, true, true, false, false] rfl rfl (any_of HT_.out (by kernel_rfl)) (fun _ _ _ h => h) (Or.inr ⟨by rfl, rfl⟩) ?_ ?_
                  rotate_left
                  · simp only [Act.put, List.setIfInBounds_toArray, List.set_cons_zero, List.set_cons_succ, i64_w, i32_w]
                    rfl
                  refine pure_ (i := 28) (N := some 52) (v := undef) (a' := ?_) #[true, true, true, true, true, true, true, true, true, true, true, true, true, true, true, true, true, true, true, true, true, true, true, true, true, true, true, true, true, false] rfl rfl (any_of HT_.out (by kernel_rfl)) (fun _ _ _ h => h) (Or.inr ⟨by rfl, rfl⟩) ?_ ?_
                  rotate_left
                  · simp only [Act.put, List.setIfInBounds_toArray, List.set_cons_zero, List.set_cons_succ, i64_w, i32_w]
                    rfl
                  refine pure_ (i := 29) (N := some 53) (v := ?_) (a' := ?_) #[true, true, true, true, true, true, true, true, true, true, true, true, true, true, true, true, true, true, true, true, true, true, true, true, true, true, true, true, true, true] rfl rfl (any_of HT_.out (by kernel_rfl)) (fun _ _ _ h => h) (Or.inl ⟨by rfl, ?_⟩) ?_ ?_
                  rotate_left
                  · intro w'
                    go_simp
                    with_reducible rfl
                  rotate_left
                  · simp only [Act.put, List.setIfInBounds_toArray, List.set_cons_zero, List.set_cons_succ, i64_w, i32_w]
                    rfl
                  refine done_ (done_of HT_.out (by kernel_rfl)) ?_
                  try go_wp2
                  go_meet
                  case rel => exact ⟨_, (false), (by first | rfl | (simp; done) | (simp [*]; done)), H', ⟨by have := HJ3.out; have := HK2.out; first | omega | exact Nat.le_refl _⟩, ⟨by (with_reducible repeat (first | apply Kd.V_alloc | apply Kd.V_drewN | apply Kd.V_drew)); exact HO_0.out⟩, ⟨by (with_reducible repeat (first | apply Kd.R_alloc | apply Kd.R_drewN | apply Kd.R_drew)); exact HO_3.out⟩, ⟨by repeat (first | (with_reducible first | exact HB.out | apply below_alloc | apply pw_below_drewN | apply below_drew1) | exact HB.out)⟩⟩
              case rest =>
                clear HC10
                try clear c1
                try clear p2
                try clear p5
                try clear q5
                try clear hx5
                try clear c13
                try clear c13b0
                try clear c13b1
                try clear c15
                try clear c16
                try clear c17
                try clear c18
                try clear c18b0
                try clear c18b1
                try clear hx548_0
                try clear hx548_1
                try clear hx548_2
                try clear hx548_3
                try clear hx549_0
                try clear hx549_1
                try clear hx549_2
                try clear hx549_3
                try clear p548
                try clear p549
                try clear q548
                try clear q549
                obtain ⟨kq, x53_9, rfl, HA, HJ9, HO_0, HO_3, HB⟩ := hcut
                cases kq with
                | zero => exact absurd HA.out (by simp [croftlaw46_TrackStraight.j2])
                | succ kj9 =>
                  have H := HA.out
                  clear HA
                  simp only [croftlaw46_TrackStraight.j2] at H
                  by_cases c22 : x53_9 = true
                  · subst c22
                    have H1 : (croftlaw46_TrackStraight.l0 kj9 x0_3 x3_2 (wrap64 (x4_2 + 1))) = some r := by rw [if_pos rfl] at H; exact H
                    clear H
                    have H := H1
                    clear H1
                    have H' := Aside0.mk H
                    clear H
                    go_wp2
                    go_roundg kj9
                    case measure => have := HJ3.out; have := HK2.out; have := HJ9.out; omega
                    case rel => exact ⟨(x3_2), (wrap64 (x4_2 + 1)), (by first | rfl | (simp; done) | (simp [*]; done)), H', ⟨by have := HJ3.out; have := HK2.out; have := HJ9.out; omega⟩, ⟨by (with_reducible repeat (first | apply Kd.V_alloc | apply Kd.V_drewN | apply Kd.V_drew)); exact HO_0.out⟩, ⟨by (with_reducible repeat (first | apply Kd.R_alloc | apply Kd.R_drewN | apply Kd.R_drew)); exact HO_3.out⟩, ⟨by repeat (first | (with_reducible first | exact HB.out | apply below_alloc | apply pw_below_drewN | apply below_drew1) | exact HB.out)⟩⟩
                  · replace c22 := Bool.eq_false_iff.mpr c22
                    subst c22
                    have H1 : (if (x3_2.length : Int) > 1 then (if 0 ≤ (wrap64 ((x3_2.length : Int) - 2)) then (if (wrap64 ((x3_2.length : Int) - 2)) < (x3_2.length : Int) then (if 0 ≤ (wrap64 ((x3_2.length : Int) - 1)) then (if (wrap64 ((x3_2.length : Int) - 1)) < (x3_2.length : Int) then (if 0 ≤ x4_2 then (if x4_2 < (x0_3.length : Int) then ((poly_Turn.f kj9 ((rd_T24 x3_2 (wrap64 ((x3_2.length : Int) - 2))).f0) ((rd_T24 x3_2 (wrap64 ((x3_2.length : Int) - 2))).f1) ((rd_T24 x3_2 (wrap64 ((x3_2.length : Int) - 2))).f2) ((rd_T24 x3_2 (wrap64 ((x3_2.length : Int) - 2))).f3) ((rd_T24 x3_2 (wrap64 ((x3_2.length : Int) - 1))).f0) ((rd_T24 x3_2 (wrap64 ((x3_2.length : Int) - 1))).f1) ((rd_T24 x3_2 (wrap64 ((x3_2.length : Int) - 1))).f2) ((rd_T24 x3_2 (wrap64 ((x3_2.length : Int) - 1))).f3) ((rd_T24 x0_3 x4_2).f0) ((rd_T24 x0_3 x4_2).f1) ((rd_T24 x0_3 x4_2).f2) ((rd_T24 x0_3 x4_2).f3)).bind fun t555 => (if t555 = 0 then ((croftlaw46_between.f ((rd_T24 x3_2 (wrap64 ((x3_2.length : Int) - 1))).f0) ((rd_T24 x3_2 (wrap64 ((x3_2.length : Int) - 1))).f1) ((rd_T24 x3_2 (wrap64 ((x3_2.length : Int) - 1))).f2) ((rd_T24 x3_2 (wrap64 ((x3_2.length : Int) - 1))).f3) ((rd_T24 x3_2 (wrap64 ((x3_2.length : Int) - 2))).f0) ((rd_T24 x3_2 (wrap64 ((x3_2.length : Int) - 2))).f1) ((rd_T24 x3_2 (wrap64 ((x3_2.length : Int) - 2))).f2) ((rd_T24 x3_2 (wrap64 ((x3_2.length : Int) - 2))).f3) ((rd_T24 x0_3 x4_2).f0) ((rd_T24 x0_3 x4_2).f1) ((rd_T24 x0_3 x4_2).f2) ((rd_T24 x0_3 x4_2).f3)).bind fun t559 => (croftlaw46_TrackStraight.j3 kj9 x0_3 x3_2 x4_2 (x3_2.length : Int) t559)) else (croftlaw46_TrackStraight.j3 kj9 x0_3 x3_2 x4_2 (x3_2.length : Int) false))) else (none)) else (none)) else (none)) else (none)) else (none)) else (none)) else (croftlaw46_TrackStraight.j3 kj9 x0_3 x3_2 x4_2 (x3_2.length : Int) false)) = some r := by rw [if_neg (show ¬ (false = true) by decide)] at H; exact H
                    clear H
                    have H := H1
                    clear H1
                    have HC23 := Aside0.mk H
                    clear H
                    go_upto_region 11 with (fail)
                    go_cut [90] (fun v90 wc => ∃ (kq : Nat) (x90_22 : Bool), v90 = .bool x90_22 ∧ Aside0 (croftlaw46_TrackStraight.j3 kq x0_3 x3_2 x4_2 (x3_2.length : Int) x90_22 = some r) ∧ Aside0 (kq ≤ kj9) ∧ Aside0 (Kd.V k24 24 wc w.heap.size (fun k_ => (P0_ k_ ∨ w.heap.size ≤ k_) ∧ some k_ ≠ ((.slice Ao12 x3_2.length co12) : Value).ownBlock) (.slice Ao11 x0_3.length co11) x0_3) ∧ Aside0 (Kd.R k24 24 wc w.heap.size (fun k_ => (w.heap.size ≤ k_)) (.slice Ao12 x3_2.length co12) x3_2) ∧ Aside0 (Below w.heap.size w wc))
                    case first =>
                      rename_i Qz0_ HBz1_ wcz2_ u16z3_ u17z4_ u18z5_ u19z6_ u20z7_ u21z8_ u22z9_ u23z10_ u24z11_ u25z12_ u26z13_ u27z14_ u28z15_ u29z16_ u30z17_ u31z18_ u32z19_ u33z20_ u34z21_ u35z22_ u36z23_ u37z24_ u38z25_ u39z26_ u40z27_ u41z28_ u42z29_ u43z30_ u44z31_ u45z32_ u46z33_ u47z34_ u48z35_ u49z36_ u50z37_ u51z38_ u52z39_ u53z40_ u54z41_ u55z42_ u56z43_ u57z44_ u58z45_ u59z46_ u60z47_ u61z48_ u62z49_ u63z50_ u64z51_ u65z52_ u66z53_ u67z54_ u68z55_ u69z56_ u70z57_ u71z58_ u72z59_ u73z60_ u74z61_ u75z62_ u76z63_ u77z64_ u78z65_ u79z66_ u80z67_ u81z68_ u82z69_ u83z70_ u84z71_ u85z72_ u86z73_ u87z74_ u88z75_ u89z76_ u90z77_ u91z78_ u92z79_ u93z80_ u94z81_ u95z82_ u96z83_ u97z84_ u98z85_ u99z86_ u100z87_ u101z88_ u102z89_ u103z90_ HBz91_ Kz92_ az93_ u16z94_ u17z95_ u18z96_ u19z97_ u20z98_ u21z99_ u22z100_ u23z101_ u24z102_ u25z103_ u26z104_ u27z105_ u28z106_ u29z107_ u30z108_ u31z109_ u32z110_ u33z111_ u34z112_ u35z113_ u36z114_ u37z115_ u38z116_ u39z117_ u40z118_ u41z119_ u42z120_ u43z121_ u44z122_ u45z123_ u46z124_ u47z125_ u48z126_ u49z127_ u50z128_ u51z129_ u52z130_ u54z131_ u55z132_ u56z133_ u57z134_ u58z135_ u59z136_ u60z137_ u61z138_ u62z139_ u63z140_ u64z141_ u65z142_ u66z143_ u67z144_ u68z145_ u69z146_ u70z147_ u71z148_ u72z149_ u73z150_ u74z151_ u75z152_ u76z153_ u77z154_ u78z155_ u79z156_ u80z157_ u81z158_ u82z159_ u83z160_ u84z161_ u85z162_ u86z163_ u87z164_ u88z165_ u89z166_ u90z167_ u91z168_ u92z169_ u93z170_ u94z171_ u95z172_ u96z173_ u97z174_ u98z175_ u99z176_ u100z177_ u101z178_ u102z179_ u103z180_ Jz181_ Kz182_ HBz183_ az184_ HO_0z185_ az186_ HO_3z187_ HO_0z188_ Kz189_ az190_ Kz191_ az192_ Kz193_ az194_ Jz195_ Kz196_ az197_ az198_
                      revert k P0_ A0 c0 l0 r w hs0 hu24 HT A2 Qz0_ w5 HO0 HBz1_ wcz2_ u9 u10 u11 u12 u13 u14 u15 u16z3_ u17z4_ u18z5_ u19z6_ u20z7_ u21z8_ u22z9_ u23z10_ u24z11_ u25z12_ u26z13_ u27z14_ u28z15_ u29z16_ u30z17_ u31z18_ u32z19_ u33z20_ u34z21_ u35z22_ u36z23_ u37z24_ u38z25_ u39z26_ u40z27_ u41z28_ u42z29_ u43z30_ u44z31_ u45z32_ u46z33_ u47z34_ u48z35_ u49z36_ u50z37_ u51z38_ u52z39_ u53z40_ u54z41_ u55z42_ u56z43_ u57z44_ u58z45_ u59z46_ u60z47_ u61z48_ u62z49_ u63z50_ u64z51_ u65z52_ u66z53_ u67z54_ u68z55_ u69z56_ u70z57_ u71z58_ u72z59_ u73z60_ u74z61_ u75z62_ u76z63_ u77z64_ u78z65_ u79z66_ u80z67_ u81z68_ u82z69_ u83z70_ u84z71_ u85z72_ u86z73_ u87z74_ u88z75_ u89z76_ u90z77_ u91z78_ u92z79_ u93z80_ u94z81_ u95z82_ u96z83_ u97z84_ u98z85_ u99z86_ u100z87_ u101z88_ u102z89_ u103z90_ u104 u105 u106 u107 u108 u109 u110 u111 u112 u113 u114 u115 u116 u117 u118 u119 u120 u121 u122 u123 u124 u125 u126 u127 u128 u129 u130 u131 u132 u133 u134 u135 u136 u137 u138 u139 u140 u141 u142 u143 u144 u145 u146 u147 u148 u149 u150 u151 u152 u153 x0_3 HBz91_ kj3 HJ3 Kz92_ az93_ wr u5 u16z94_ u17z95_ u18z96_ u19z97_ u20z98_ u21z99_ u22z100_ u23z101_ u24z102_ u25z103_ u26z104_ u27z105_ u28z106_ u29z107_ u30z108_ u31z109_ u32z110_ u33z111_ u34z112_ u35z113_ u36z114_ u37z115_ u38z116_ u39z117_ u40z118_ u41z119_ u42z120_ u43z121_ u44z122_ u45z123_ u46z124_ u47z125_ u48z126_ u49z127_ u50z128_ u51z129_ u52z130_ u53 u54z131_ u55z132_ u56z133_ u57z134_ u58z135_ u59z136_ u60z137_ u61z138_ u62z139_ u63z140_ u64z141_ u65z142_ u66z143_ u67z144_ u68z145_ u69z146_ u70z147_ u71z148_ u72z149_ u73z150_ u74z151_ u75z152_ u76z153_ u77z154_ u78z155_ u79z156_ u80z157_ u81z158_ u82z159_ u83z160_ u84z161_ u85z162_ u86z163_ u87z164_ u88z165_ u89z166_ u90z167_ u91z168_ u92z169_ u93z170_ u94z171_ u95z172_ u96z173_ u97z174_ u98z175_ u99z176_ u100z177_ u101z178_ u102z179_ u103z180_ Jz181_ Kz182_ x3_2 x4_2 HBz183_ k2 az184_ HK2 c9b0 Ao11 co11 HO_0z185_ az186_ Ao12 co12 HO_3z187_ HO_0z188_ Kz189_ az190_ wc u16 u17 u18 u19 u20 u21 u22 u23 u24 u25 u26 u27 u28 u29 u30 u31 u32 u33 u34 u35 u36 u37 u38 u39 u40 u41 u42 u43 u44 u45 u46 u47 u48 u49 u50 u51 u52 u54 u55 u56 u57 u58 u59 u60 u61 u62 u63 u64 u65 u66 u67 u68 u69 u70 u71 u72 u73 u74 u75 u76 u77 u78 u79 u80 u81 u82 u83 u84 u85 u86 u87 u88 u89 u90 u91 u92 u93 u94 u95 u96 u97 u98 u99 u100 u101 u102 u103 HO_0 HO_3 HB kj9 HJ9 HC23 Kz191_ az192_ Kz193_ az194_ Jz195_ Kz196_ az197_ az198_
                      exact g0_.out
                    case rest =>
                      rename_i Qz0_ HBz1_ wcz2_ u16z3_ u17z4_ u18z5_ u19z6_ u20z7_ u21z8_ u22z9_ u23z10_ u24z11_ u25z12_ u26z13_ u27z14_ u28z15_ u29z16_ u30z17_ u31z18_ u32z19_ u33z20_ u34z21_ u35z22_ u36z23_ u37z24_ u38z25_ u39z26_ u40z27_ u41z28_ u42z29_ u43z30_ u44z31_ u45z32_ u46z33_ u47z34_ u48z35_ u49z36_ u50z37_ u51z38_ u52z39_ u53z40_ u54z41_ u55z42_ u56z43_ u57z44_ u58z45_ u59z46_ u60z47_ u61z48_ u62z49_ u63z50_ u64z51_ u65z52_ u66z53_ u67z54_ u68z55_ u69z56_ u70z57_ u71z58_ u72z59_ u73z60_ u74z61_ u75z62_ u76z63_ u77z64_ u78z65_ u79z66_ u80z67_ u81z68_ u82z69_ u83z70_ u84z71_ u85z72_ u86z73_ u87z74_ u88z75_ u89z76_ u90z77_ u91z78_ u92z79_ u93z80_ u94z81_ u95z82_ u96z83_ u97z84_ u98z85_ u99z86_ u100z87_ u101z88_ u102z89_ u103z90_ HBz91_ Kz92_ az93_ u16z94_ u17z95_ u18z96_ u19z97_ u20z98_ u21z99_ u22z100_ u23z101_ u24z102_ u25z103_ u26z104_ u27z105_ u28z106_ u29z107_ u30z108_ u31z109_ u32z110_ u33z111_ u34z112_ u35z113_ u36z114_ u37z115_ u38z116_ u39z117_ u40z118_ u41z119_ u42z120_ u43z121_ u44z122_ u45z123_ u46z124_ u47z125_ u48z126_ u49z127_ u50z128_ u51z129_ u52z130_ u53z131_ u54z132_ u55z133_ u56z134_ u57z135_ u58z136_ u59z137_ u60z138_ u61z139_ u62z140_ u63z141_ u64z142_ u65z143_ u66z144_ u67z145_ u68z146_ u69z147_ u70z148_ u71z149_ u72z150_ u73z151_ u74z152_ u75z153_ u76z154_ u77z155_ u78z156_ u79z157_ u80z158_ u81z159_ u82z160_ u83z161_ u84z162_ u85z163_ u86z164_ u87z165_ u88z166_ u89z167_ u90z168_ u91z169_ u92z170_ u93z171_ u94z172_ u95z173_ u96z174_ u97z175_ u98z176_ u99z177_ u100z178_ u101z179_ u102z180_ u103z181_ Jz182_ Kz183_ HBz184_ az185_ HO_0z186_ az187_ HO_3z188_ HO_0z189_ Kz190_ az191_ wcz192_ u16z193_ u17z194_ u18z195_ u19z196_ u20z197_ u21z198_ u22z199_ u23z200_ u24z201_ u25z202_ u26z203_ u27z204_ u28z205_ u29z206_ u30z207_ u31z208_ u32z209_ u33z210_ u34z211_ u35z212_ u36z213_ u37z214_ u38z215_ u39z216_ u40z217_ u41z218_ u42z219_ u43z220_ u44z221_ u45z222_ u46z223_ u47z224_ u48z225_ u49z226_ u50z227_ u51z228_ u52z229_ u54z230_ u55z231_ u56z232_ u57z233_ u58z234_ u59z235_ u60z236_ u61z237_ u62z238_ u63z239_ u64z240_ u65z241_ u66z242_ u67z243_ u68z244_ u69z245_ u70z246_ u71z247_ u72z248_ u73z249_ u74z250_ u75z251_ u76z252_ u77z253_ u78z254_ u79z255_ u80z256_ u81z257_ u82z258_ u83z259_ u84z260_ u85z261_ u86z262_ u87z263_ u88z264_ u89z265_ u90z266_ u91z267_ u92z268_ u93z269_ u94z270_ u95z271_ u96z272_ u97z273_ u98z274_ u99z275_ u100z276_ u101z277_ u102z278_ u103z279_ Kz280_ az281_ Kz282_ az283_
                      revert k P0_ A0 c0 l0 r w hs0 hu24 HT A2 Qz0_ w5 HO0 HBz1_ wcz2_ u9 u10 u11 u12 u13 u14 u15 u16z3_ u17z4_ u18z5_ u19z6_ u20z7_ u21z8_ u22z9_ u23z10_ u24z11_ u25z12_ u26z13_ u27z14_ u28z15_ u29z16_ u30z17_ u31z18_ u32z19_ u33z20_ u34z21_ u35z22_ u36z23_ u37z24_ u38z25_ u39z26_ u40z27_ u41z28_ u42z29_ u43z30_ u44z31_ u45z32_ u46z33_ u47z34_ u48z35_ u49z36_ u50z37_ u51z38_ u52z39_ u53z40_ u54z41_ u55z42_ u56z43_ u57z44_ u58z45_ u59z46_ u60z47_ u61z48_ u62z49_ u63z50_ u64z51_ u65z52_ u66z53_ u67z54_ u68z55_ u69z56_ u70z57_ u71z58_ u72z59_ u73z60_ u74z61_ u75z62_ u76z63_ u77z64_ u78z65_ u79z66_ u80z67_ u81z68_ u82z69_ u83z70_ u84z71_ u85z72_ u86z73_ u87z74_ u88z75_ u89z76_ u90z77_ u91z78_ u92z79_ u93z80_ u94z81_ u95z82_ u96z83_ u97z84_ u98z85_ u99z86_ u100z87_ u101z88_ u102z89_ u103z90_ u104 u105 u106 u107 u108 u109 u110 u111 u112 u113 u114 u115 u116 u117 u118 u119 u120 u121 u122 u123 u124 u125 u126 u127 u128 u129 u130 u131 u132 u133 u134 u135 u136 u137 u138 u139 u140 u141 u142 u143 u144 u145 u146 u147 u148 u149 u150 u151 u152 u153 x0_3 HBz91_ kj3 HJ3 Kz92_ az93_ wr u5 u16z94_ u17z95_ u18z96_ u19z97_ u20z98_ u21z99_ u22z100_ u23z101_ u24z102_ u25z103_ u26z104_ u27z105_ u28z106_ u29z107_ u30z108_ u31z109_ u32z110_ u33z111_ u34z112_ u35z113_ u36z114_ u37z115_ u38z116_ u39z117_ u40z118_ u41z119_ u42z120_ u43z121_ u44z122_ u45z123_ u46z124_ u47z125_ u48z126_ u49z127_ u50z128_ u51z129_ u52z130_ u53z131_ u54z132_ u55z133_ u56z134_ u57z135_ u58z136_ u59z137_ u60z138_ u61z139_ u62z140_ u63z141_ u64z142_ u65z143_ u66z144_ u67z145_ u68z146_ u69z147_ u70z148_ u71z149_ u72z150_ u73z151_ u74z152_ u75z153_ u76z154_ u77z155_ u78z156_ u79z157_ u80z158_ u81z159_ u82z160_ u83z161_ u84z162_ u85z163_ u86z164_ u87z165_ u88z166_ u89z167_ u90z168_ u91z169_ u92z170_ u93z171_ u94z172_ u95z173_ u96z174_ u97z175_ u98z176_ u99z177_ u100z178_ u101z179_ u102z180_ u103z181_ Jz182_ Kz183_ x3_2 x4_2 HBz184_ k2 az185_ HK2 c9b0 Ao11 co11 HO_0z186_ az187_ Ao12 co12 HO_3z188_ HO_0z189_ Kz190_ az191_ wcz192_ u16z193_ u17z194_ u18z195_ u19z196_ u20z197_ u21z198_ u22z199_ u23z200_ u24z201_ u25z202_ u26z203_ u27z204_ u28z205_ u29z206_ u30z207_ u31z208_ u32z209_ u33z210_ u34z211_ u35z212_ u36z213_ u37z214_ u38z215_ u39z216_ u40z217_ u41z218_ u42z219_ u43z220_ u44z221_ u45z222_ u46z223_ u47z224_ u48z225_ u49z226_ u50z227_ u51z228_ u52z229_ u54z230_ u55z231_ u56z232_ u57z233_ u58z234_ u59z235_ u60z236_ u61z237_ u62z238_ u63z239_ u64z240_ u65z241_ u66z242_ u67z243_ u68z244_ u69z245_ u70z246_ u71z247_ u72z248_ u73z249_ u74z250_ u75z251_ u76z252_ u77z253_ u78z254_ u79z255_ u80z256_ u81z257_ u82z258_ u83z259_ u84z260_ u85z261_ u86z262_ u87z263_ u88z264_ u89z265_ u90z266_ u91z267_ u92z268_ u93z269_ u94z270_ u95z271_ u96z272_ u97z273_ u98z274_ u99z275_ u100z276_ u101z277_ u102z278_ u103z279_ HO_0 HO_3 HB kj9 HJ9 HC23 Kz280_ az281_ Kz282_ az283_ wc u16 u17 u18 u19 u20 u21 u22 u23 u24 u25 u26 u27 u28 u29 u30 u31 u32 u33 u34 u35 u36 u37 u38 u39 u40 u41 u42 u43 u44 u45 u46 u47 u48 u49 u50 u51 u52 u53 u54 u55 u56 u57 u58 u59 u60 u61 u62 u63 u64 u65 u66 u67 u68 u69 u70 u71 u72 u73 u74 u75 u76 u77 u78 u79 u80 u81 u82 u83 u84 u85 u86 u87 u88 u89 u90 u91 u92 u93 u94 u95 u96 u97 u98 u99 u100 u101 u102 u103 hcut
                      exact g1_.out
            · rw [if_neg c9] at H
              have c9b0 : decide (x4_2 < (x0_3.length : Int)) = false := decide_eq_false c9
              clear c9
              replace H := Option.bind_eq_some_iff.mp H
              obtain ⟨t589, A730, H⟩ := H
              replace H : ((croftplain_Points.f k2 t589 x3_2).bind fun t592 => (if t592 = true then (if (x0_3.length : Int) = 0 then (some ((t589.length : Int) == 0)) else (if 0 < (t589.length : Int) then (if 0 ≤ (wrap64 ((t589.length : Int) - 1)) then (if (wrap64 ((t589.length : Int) - 1)) < (t589.length : Int) then (if 0 < (x0_3.length : Int) then (if (((rd_T24 t589 0).f0) == ((rd_T24 x0_3 0).f0) && (((rd_T24 t589 0).f1) == ((rd_T24 x0_3 0).f1) && (((rd_T24 t589 0).f2) == ((rd_T24 x0_3 0).f2) && ((((rd_T24 t589 0).f3).toList) == (((rd_T24 x0_3 0).f3).toList))))) = true then (if 0 ≤ (wrap64 ((x0_3.length : Int) - 1)) then (if (wrap64 ((x0_3.length : Int) - 1)) < (x0_3.length : Int) then (if ((rd_T24 t589 (wrap64 ((t589.length : Int) - 1))).f1) = ((rd_T24 x0_3 (wrap64 ((x0_3.length : Int) - 1))).f1) then (some (((rd_T24 t589 (wrap64 ((t589.length : Int) - 1))).f2) == ((rd_T24 x0_3 (wrap64 ((x0_3.length : Int) - 1))).f2))) else (some false)) else (none)) else (none)) else (some false)) else (none)) else (none)) else (none)) else (none))) else (some false))) = some r := H
              have A73 := Aside0.mk A730
              clear A730
              replace H := Option.bind_eq_some_iff.mp H
              obtain ⟨t592, A740, H⟩ := H
              replace H : (if t592 = true then (if (x0_3.length : Int) = 0 then (some ((t589.length : Int) == 0)) else (if 0 < (t589.length : Int) then (if 0 ≤ (wrap64 ((t589.length : Int) - 1)) then (if (wrap64 ((t589.length : Int) - 1)) < (t589.length : Int) then (if 0 < (x0_3.length : Int) then (if (((rd_T24 t589 0).f0) == ((rd_T24 x0_3 0).f0) && (((rd_T24 t589 0).f1) == ((rd_T24 x0_3 0).f1) && (((rd_T24 t589 0).f2) == ((rd_T24 x0_3 0).f2) && ((((rd_T24 t589 0).f3).toList) == (((rd_T24 x0_3 0).f3).toList))))) = true then (if 0 ≤ (wrap64 ((x0_3.length : Int) - 1)) then (if (wrap64 ((x0_3.length : Int) - 1)) < (x0_3.length : Int) then (if ((rd_T24 t589 (wrap64 ((t589.length : Int) - 1))).f1) = ((rd_T24 x0_3 (wrap64 ((x0_3.length : Int) - 1))).f1) then (some (((rd_T24 t589 (wrap64 ((t589.length : Int) - 1))).f2) == ((rd_T24 x0_3 (wrap64 ((x0_3.length : Int) - 1))).f2))) else (some false)) else (none)) else (none)) else (some false)) else (none)) else (none)) else (none)) else (none))) else (some false)) = some r := H
              have A74 := Aside0.mk A740
              clear A740
              by_cases c75 : t592 = true
              · subst c75
                have H1 : (if (x0_3.length : Int) = 0 then (some ((t589.length : Int) == 0)) else (if 0 < (t589.length : Int) then (if 0 ≤ (wrap64 ((t589.length : Int) - 1)) then (if (wrap64 ((t589.length : Int) - 1)) < (t589.length : Int) then (if 0 < (x0_3.length : Int) then (if (((rd_T24 t589 0).f0) == ((rd_T24 x0_3 0).f0) && (((rd_T24 t589 0).f1) == ((rd_T24 x0_3 0).f1) && (((rd_T24 t589 0).f2) == ((rd_T24 x0_3 0).f2) && ((((rd_T24 t589 0).f3).toList) == (((rd_T24 x0_3 0).f3).toList))))) = true then (if 0 ≤ (wrap64 ((x0_3.length : Int) - 1)) then (if (wrap64 ((x0_3.length : Int) - 1)) < (x0_3.length : Int) then (if ((rd_T24 t589 (wrap64 ((t589.length : Int) - 1))).f1) = ((rd_T24 x0_3 (wrap64 ((x0_3.length : Int) - 1))).f1) then (some (((rd_T24 t589 (wrap64 ((t589.length : Int) - 1))).f2) == ((rd_T24 x0_3 (wrap64 ((x0_3.length : Int) - 1))).f2))) else (some false)) else (none)) else (none)) else (some false)) else (none)) else (none)) else (none)) else (none))) = some r := by rw [if_pos rfl] at H; exact H
                clear H
                have H := H1
                clear H1
                by_cases c76 : (x0_3.length : Int) = 0
                · rw [if_pos c76] at H
                  have c76b0 : ((x0_3.length : Int) == 0) = true := beq_iff_eq.mpr c76
                  have c76b1 : ((x0_3.length : Int) != 0) = false := bne_eq_false_iff_eq.mpr c76
                  clear c76
                  obtain rfl := Option.some.inj H
                  simp only [Option.some.injEq, Prod.mk.injEq] at H
                  obtain ⟨rfl⟩ := H
                  obtain ⟨Ao77, co77, eo77⟩ := Kd.V_slice HO_0.out
                  subst eo77
                  go_wp2_with (first | ((with_reducible refine gate_callee (f := 32) rfl ?_); refine goesL_ (some 105) rfl rfl Try.func32 (by kernel_rfl) rfl #[.slice Ao77 x0_3.length co77] rfl (by (try simp only [List.map_toArray, List.map_cons, List.map_nil]); first | done | rfl | (simp only [List.length_drop, List.length_take]; rfl)) ?_; (with_reducible refine (track_Straight.calls k2 _ _ x0_3 t589 _ ?side1 ?side2 A73.out).mono ?_); (case side1 => repeat (first | exact (Kd.V_reads' HO_0.out).2.2 | (with_reducible refine Kd.C_alloc ?_ _) | (with_reducible refine Kd.C_drewN ?_ _) | (with_reducible refine Kd.C_drew ?_))); (case side2 => exact (Kd.V_reads' HO_0.out).2.1); rintro e w78 ⟨v590, rfl, ho0, hb⟩; refine ⟨_, rfl, ?_⟩; have n0_ := Aside0.mk (Kd.V_elder' (by (with_reducible repeat (first | apply Kd.V_alloc | apply Kd.V_drewN | apply Kd.V_drew)); exact HO_0.out) (Kd.R_base ho0) hb); have n1_ := Aside0.mk (Kd.R_elder' (by (with_reducible repeat (first | apply Kd.R_alloc | apply Kd.R_drewN | apply Kd.R_drew)); exact HO_3.out) (Kd.R_base ho0) hb); have n2_ := Aside0.mk (Kd.R_lower (Kd.R_new' (Kd.R_newM (M := fun k_ => (w.heap.size ≤ k_)) ho0 (below_size (by repeat (first | (with_reducible first | exact HB.out | apply below_alloc | apply pw_below_drewN | apply below_drew1) | exact HB.out))) (fun k_ h_ => h_)) (Kd.R_lt (by (with_reducible repeat (first | apply Kd.R_alloc | apply Kd.R_drewN | apply Kd.R_drew)); exact HO_3.out))) (below_size (by repeat (first | (with_reducible first | exact HB.out | apply below_alloc | apply pw_below_drewN | apply below_drew1) | exact HB.out)))); have n3_ := Aside0.mk (below_step (by repeat (first | (with_reducible first | exact HB.out | apply below_alloc | apply pw_below_drewN | apply below_drew1) | exact HB.out)) hb); clear HO_0; clear HO_3; clear HB; have HO_0 := n0_; have HO_3 := n1_; have HO591 := n2_; have HB := n3_; clear n0_ n1_ n2_ n3_; (try clear hb); (try clear hb2); (try clear hk); (try clear hi); (try clear ho0); obtain ⟨Ao79, co79, eo79⟩ := Kd.R_slice HO591.out; subst eo79; obtain ⟨Ao80, co80, eo80⟩ := Kd.R_slice HO_3.out; subst eo80) | ((with_reducible refine gate_callee (f := 33) rfl ?_); refine goesL_ (some 108) rfl rfl Try.func33 (by kernel_rfl) rfl #[.slice Ao79 t589.length co79, .slice Ao80 x3_2.length co80] rfl (by (try simp only [List.map_toArray, List.map_cons, List.map_nil]); first | done | rfl | (simp only [List.length_drop, List.length_take]; rfl)) ?_; (with_reducible refine (croftplain_Points.calls k2 _ _ t589 _ _ x3_2 true _ ?side1 ?side2 ?side3 ?side4 A74.out).mono ?_); (case side1 => repeat (first | exact (Kd.R_reads' HO591.out).2.2 | (with_reducible refine Kd.C_alloc ?_ _) | (with_reducible refine Kd.C_drewN ?_ _) | (with_reducible refine Kd.C_drew ?_))); (case side2 => exact (Kd.R_reads' HO591.out).2.1); (case side3 => repeat (first | exact (Kd.R_reads' HO_3.out).2.2 | (with_reducible refine Kd.C_alloc ?_ _) | (with_reducible refine Kd.C_drewN ?_ _) | (with_reducible refine Kd.C_drew ?_))); (case side4 => exact (Kd.R_reads' HO_3.out).2.1); rintro e w' ⟨rfl, ⟨nd, rfl⟩⟩; refine ⟨_, rfl, ?_⟩))
                  go_ret
                  exact ⟨by first | rfl | (simp [errW_none, errW_some] <;> rfl) | (simp [*, errW_none, errW_some] <;> rfl), by repeat (first | (with_reducible first | exact HB.out | apply below_alloc | apply pw_below_drewN | apply below_drew1) | exact HB.out)⟩
                · rw [if_neg c76] at H
                  have c76b0 : ((x0_3.length : Int) == 0) = false := beq_eq_false_iff_ne.mpr c76
                  have c76b1 : ((x0_3.length : Int) != 0) = true := bne_iff_ne.mpr c76
                  have c76b2 : ¬ (x0_3 = []) := fun h_ => c76 (by rw [h_]; rfl)
                  by_cases c81 : 0 < (t589.length : Int)
                  · rw [if_pos c81] at H
                    have c81b0 : decide (0 < (t589.length : Int)) = true := decide_eq_true c81
                    have c81b1 : decide (0 < t589.length) = true := decide_eq_true (by omega)
                    clear c81
                    obtain ⟨ji82, hji82⟩ : ∃ j_ : Int, (wrap64 ((t589.length : Int) - 1)) = j_ := ⟨_, rfl⟩
                    replace H : (if 0 ≤ (ji82) then (if (ji82) < (t589.length : Int) then (if 0 < (x0_3.length : Int) then (if (((rd_T24 t589 0).f0) == ((rd_T24 x0_3 0).f0) && (((rd_T24 t589 0).f1) == ((rd_T24 x0_3 0).f1) && (((rd_T24 t589 0).f2) == ((rd_T24 x0_3 0).f2) && ((((rd_T24 t589 0).f3).toList) == (((rd_T24 x0_3 0).f3).toList))))) = true then (if 0 ≤ (wrap64 ((x0_3.length : Int) - 1)) then (if (wrap64 ((x0_3.length : Int) - 1)) < (x0_3.length : Int) then (if ((rd_T24 t589 (ji82)).f1) = ((rd_T24 x0_3 (wrap64 ((x0_3.length : Int) - 1))).f1) then (some (((rd_T24 t589 (ji82)).f2) == ((rd_T24 x0_3 (wrap64 ((x0_3.length : Int) - 1))).f2))) else (some false)) else (none)) else (none)) else (some false)) else (none)) else (none)) else (none)) = some r := by first | (rw [hji82] at H; exact H) | (simp only [hji82] at H ⊢; exact H)
                    (try rw [hji82] at A73)
                    (try rw [hji82] at A74)
                    have hji82w : (IntKind.i64.wrap ((t589.length : Int) - 1)) = ji82 := (i64_w _).trans hji82
                    by_cases c83 : 0 ≤ (ji82)
                    · rw [if_pos c83] at H
                      have c83b0 : decide (0 ≤ (ji82)) = true := decide_eq_true c83
                      clear c83
                      by_cases c84 : (ji82) < (t589.length : Int)
                      · rw [if_pos c84] at H
                        have c84b0 : decide ((ji82) < (t589.length : Int)) = true := decide_eq_true c84
                        clear c84
                        by_cases c85 : 0 < (x0_3.length : Int)
                        · rw [if_pos c85] at H
                          have c85b0 : decide (0 < (x0_3.length : Int)) = true := decide_eq_true c85
                          have c85b1 : decide (0 < x0_3.length) = true := decide_eq_true (by omega)
                          clear c85
                          by_cases c86 : (((rd_T24 t589 0).f0) == ((rd_T24 x0_3 0).f0) && (((rd_T24 t589 0).f1) == ((rd_T24 x0_3 0).f1) && (((rd_T24 t589 0).f2) == ((rd_T24 x0_3 0).f2) && ((((rd_T24 t589 0).f3).toList) == (((rd_T24 x0_3 0).f3).toList))))) = true
                          · rw [if_pos c86] at H
                            have c86b0 : (((rd_T24 t589 0).f0) == ((rd_T24 x0_3 0).f0) && (((rd_T24 t589 0).f1) == ((rd_T24 x0_3 0).f1) && (((rd_T24 t589 0).f2) == ((rd_T24 x0_3 0).f2) && ((((rd_T24 t589 0).f3).toList) == (((rd_T24 x0_3 0).f3).toList))))) = true := c86
                            (try (have c86b1 : decide (((rd_T24 t589 0).f0) = ((rd_T24 x0_3 0).f0) && (((rd_T24 t589 0).f1) == ((rd_T24 x0_3 0).f1) && (((rd_T24 t589 0).f2) == ((rd_T24 x0_3 0).f2) && ((((rd_T24 t589 0).f3).toList) == (((rd_T24 x0_3 0).f3).toList))))) = true := by simpa using c86))
                            (try (have c86b2 : (((rd_T24 t589 0).f0) == ((rd_T24 x0_3 0).f0) && (((rd_T24 t589 0).f1) == ((rd_T24 x0_3 0).f1) && (((rd_T24 t589 0).f2) == ((rd_T24 x0_3 0).f2) && ((((rd_T24 t589 0).f3).toList) == (((rd_T24 x0_3 0).f3).toList))))) = true := by simpa using c86))
                            clear c86
                            obtain ⟨ji87, hji87⟩ : ∃ j_ : Int, (wrap64 ((x0_3.length : Int) - 1)) = j_ := ⟨_, rfl⟩
                            replace H : (if 0 ≤ (ji87) then (if (ji87) < (x0_3.length : Int) then (if ((rd_T24 t589 (ji82)).f1) = ((rd_T24 x0_3 (ji87)).f1) then (some (((rd_T24 t589 (ji82)).f2) == ((rd_T24 x0_3 (ji87)).f2))) else (some false)) else (none)) else (none)) = some r := by first | (rw [hji87] at H; exact H) | (simp only [hji87] at H ⊢; exact H)
                            (try rw [hji87] at A73)
                            (try rw [hji87] at A74)
                            have hji87w : (IntKind.i64.wrap ((x0_3.length : Int) - 1)) = ji87 := (i64_w _).trans hji87
                            by_cases c88 : 0 ≤ (ji87)
                            · rw [if_pos c88] at H
                              have c88b0 : decide (0 ≤ (ji87)) = true := decide_eq_true c88
                              clear c88
                              by_cases c89 : (ji87) < (x0_3.length : Int)
                              · rw [if_pos c89] at H
                                have c89b0 : decide ((ji87) < (x0_3.length : Int)) = true := decide_eq_true c89
                                clear c89
                                by_cases c90 : ((rd_T24 t589 (ji82)).f1) = ((rd_T24 x0_3 (ji87)).f1)
                                · rw [if_pos c90] at H
                                  have c90b0 : (((rd_T24 t589 (ji82)).f1) == ((rd_T24 x0_3 (ji87)).f1)) = true := beq_iff_eq.mpr c90
                                  have c90b1 : (((rd_T24 t589 (ji82)).f1) != ((rd_T24 x0_3 (ji87)).f1)) = false := bne_eq_false_iff_eq.mpr c90
                                  clear c90
                                  obtain rfl := Option.some.inj H
                                  simp only [Option.some.injEq, Prod.mk.injEq] at H
                                  obtain ⟨rfl⟩ := H
                                  obtain ⟨Ao91, co91, eo91⟩ := Kd.V_slice HO_0.out
                                  subst eo91
                                  try go_wp2_with (first | ((with_reducible refine gate_callee (f := 32) rfl ?_); refine goesL_ (some 105) rfl rfl Try.func32 (by kernel_rfl) rfl #[.slice Ao91 x0_3.length co91] rfl (by (try simp only [List.map_toArray, List.map_cons, List.map_nil]); first | done | rfl | (simp only [List.length_drop, List.length_take]; rfl)) ?_; (with_reducible refine (track_Straight.calls k2 _ _ x0_3 t589 _ ?side1 ?side2 A73.out).mono ?_); (case side1 => repeat (first | exact (Kd.V_reads' HO_0.out).2.2 | (with_reducible refine Kd.C_alloc ?_ _) | (with_reducible refine Kd.C_drewN ?_ _) | (with_reducible refine Kd.C_drew ?_))); (case side2 => exact (Kd.V_reads' HO_0.out).2.1); rintro e w92 ⟨v590, rfl, ho0, hb⟩; refine ⟨_, rfl, ?_⟩; have n0_ := Aside0.mk (Kd.V_elder' (by (with_reducible repeat (first | apply Kd.V_alloc | apply Kd.V_drewN | apply Kd.V_drew)); exact HO_0.out) (Kd.R_base ho0) hb); have n1_ := Aside0.mk (Kd.R_elder' (by (with_reducible repeat (first | apply Kd.R_alloc | apply Kd.R_drewN | apply Kd.R_drew)); exact HO_3.out) (Kd.R_base ho0) hb); have n2_ := Aside0.mk (Kd.R_lower (Kd.R_new' (Kd.R_newM (M := fun k_ => (w.heap.size ≤ k_)) ho0 (below_size (by repeat (first | (with_reducible first | exact HB.out | apply below_alloc | apply pw_below_drewN | apply below_drew1) | exact HB.out))) (fun k_ h_ => h_)) (Kd.R_lt (by (with_reducible repeat (first | apply Kd.R_alloc | apply Kd.R_drewN | apply Kd.R_drew)); exact HO_3.out))) (below_size (by repeat (first | (with_reducible first | exact HB.out | apply below_alloc | apply pw_below_drewN | apply below_drew1) | exact HB.out)))); have n3_ := Aside0.mk (below_step (by repeat (first | (with_reducible first | exact HB.out | apply below_alloc | apply pw_below_drewN | apply below_drew1) | exact HB.out)) hb); clear HO_0; clear HO_3; clear HB; have HO_0 := n0_; have HO_3 := n1_; have HO591 := n2_; have HB := n3_; clear n0_ n1_ n2_ n3_; (try clear hb); (try clear hb2); (try clear hk); (try clear hi); (try clear ho0); obtain ⟨Ao93, co93, eo93⟩ := Kd.R_slice HO591.out; subst eo93; obtain ⟨Ao94, co94, eo94⟩ := Kd.R_slice HO_3.out; subst eo94) | ((with_reducible refine gate_callee (f := 33) rfl ?_); refine goesL_ (some 108) rfl rfl Try.func33 (by kernel_rfl) rfl #[.slice Ao93 t589.length co93, .slice Ao94 x3_2.length co94] rfl (by (try simp only [List.map_toArray, List.map_cons, List.map_nil]); first | done | rfl | (simp only [List.length_drop, List.length_take]; rfl)) ?_; (with_reducible refine (croftplain_Points.calls k2 _ _ t589 _ _ x3_2 true _ ?side1 ?side2 ?side3 ?side4 A74.out).mono ?_); (case side1 => repeat (first | exact (Kd.R_reads' HO591.out).2.2 | (with_reducible refine Kd.C_alloc ?_ _) | (with_reducible refine Kd.C_drewN ?_ _) | (with_reducible refine Kd.C_drew ?_))); (case side2 => exact (Kd.R_reads' HO591.out).2.1); (case side3 => repeat (first | exact (Kd.R_reads' HO_3.out).2.2 | (with_reducible refine Kd.C_alloc ?_ _) | (with_reducible refine Kd.C_drewN ?_ _) | (with_reducible refine Kd.C_drew ?_))); (case side4 => exact (Kd.R_reads' HO_3.out).2.1); rintro e w' ⟨rfl, ⟨nd, rfl⟩⟩; refine ⟨_, rfl, ?_⟩; (try (rw [drewN_self w92]; generalize hq_ : World.drewN w92 _ = w92; have n0_ : Aside0 (Kd.R k24 24 w92 w.heap.size (fun k_ => (w.heap.size ≤ k_) ∧ some k_ ≠ (.slice Ao94 x3_2.length co94 : Value).ownBlock) (.slice Ao93 t589.length co93) t589) := ⟨by rw [← hq_]; exact (by (with_reducible repeat (first | apply Kd.R_alloc | apply Kd.R_drewN | apply Kd.R_drew)); exact Kd.R_mono HO591.out (fun _ hk => ⟨hk.1.1, hk.2⟩))⟩; have n1_ : Aside0 (Kd.V k24 24 w92 w.heap.size (fun k_ => (P0_ k_ ∨ w.heap.size ≤ k_) ∧ some k_ ≠ (.slice Ao93 t589.length co93 : Value).ownBlock ∧ some k_ ≠ (.slice Ao94 x3_2.length co94 : Value).ownBlock) (.slice Ao91 x0_3.length co91) x0_3) := ⟨by rw [← hq_]; exact (by (with_reducible repeat (first | apply Kd.V_alloc | apply Kd.V_drewN | apply Kd.V_drew)); exact Kd.V_mono HO_0.out (fun _ hk => ⟨hk.1.1, ⟨hk.2, hk.1.2⟩⟩))⟩; have n2_ : Aside0 (Kd.R k24 24 w92 w.heap.size (fun k_ => (w.heap.size ≤ k_) ∧ some k_ ≠ (.slice Ao93 t589.length co93 : Value).ownBlock) (.slice Ao94 x3_2.length co94) x3_2) := ⟨by rw [← hq_]; exact (by (with_reducible repeat (first | apply Kd.R_alloc | apply Kd.R_drewN | apply Kd.R_drew)); exact HO_3.out)⟩; have n3_ : Aside0 (Below w.heap.size w w92) := ⟨by rw [← hq_]; exact (by repeat (first | (with_reducible first | exact HB.out | apply below_alloc | apply pw_below_drewN | apply below_drew1) | exact HB.out))⟩; clear HO591 HO_0 HO_3 HB hq_; have HO591 := n0_; have HO_0 := n1_; have HO_3 := n2_; have HB := n3_; clear n0_ n1_ n2_ n3_))))
                                  have n0_ := Aside0.mk (Kd.V_drew HO_0.out)
                                  have n1_ := Aside0.mk (Kd.R_drew HO_3.out)
                                  have n2_ := Aside0.mk (Kd.R_drew HO591.out)
                                  have n3_ := Aside0.mk (below_drew1 HB.out)
                                  clear HO_0
                                  clear HO_3
                                  clear HO591
                                  clear HB
                                  have HO_0 := n0_
                                  have HO_3 := n1_
                                  have HO591 := n2_
                                  have HB := n3_
                                  clear n0_ n1_ n2_ n3_
                                  have p593 : 0 ≤ (0 : Int) := (by omega)
                                  have q593 : 0 < (t589.length : Int) := of_decide_eq_true (by first | (with_reducible assumption) | assumption)
                                  obtain ⟨ad593, e593, hx593_0, hx593_1, hx593_2, hx593_3⟩ := at_T24 (Kd.R_reads' HO591.out).2.2 0 p593 q593
                                  cases e593
                                  have qi593 : (0 < t589.length) = True := eq_true (by omega)
                                  (try rw [show ((0 : Int)).toNat = 0 from rfl] at hx593_0)
                                  (try rw [show 0 * 4 = 0 from rfl] at hx593_0)
                                  (try rw [Addr.add_zero'] at hx593_0)
                                  (try rw [show ((0 : Int)).toNat = 0 from rfl] at hx593_1)
                                  (try rw [show 0 * 4 = 0 from rfl] at hx593_1)
                                  (try rw [Addr.add_zero'] at hx593_1)
                                  (try rw [show ((0 : Int)).toNat = 0 from rfl] at hx593_2)
                                  (try rw [show 0 * 4 = 0 from rfl] at hx593_2)
                                  (try rw [Addr.add_zero'] at hx593_2)
                                  (try rw [show ((0 : Int)).toNat = 0 from rfl] at hx593_3)
                                  (try rw [show 0 * 4 = 0 from rfl] at hx593_3)
                                  (try rw [Addr.add_zero'] at hx593_3)
                                  replace p593 := eq_true p593
                                  replace q593 := eq_true q593
                                  have p594 : 0 ≤ ((ji82) : Int) := of_decide_eq_true (by first | (with_reducible assumption) | assumption)
                                  have q594 : (ji82) < (t589.length : Int) := of_decide_eq_true (by first | (with_reducible assumption) | assumption)
                                  obtain ⟨ad594, e594, hx594_0, hx594_1, hx594_2, hx594_3⟩ := at_T24 (Kd.R_reads' HO591.out).2.2 (ji82) p594 q594
                                  obtain rfl : ad593 = ad594 := (by injection e594)
                                  replace p594 := eq_true p594
                                  replace q594 := eq_true q594
                                  refine start_ (n := 13) (S := fun w' => w'.cell? ad593 = some (.int .i64 ((rd_T24 t589 0).f0)) ∧ w'.cell? ⟨ad593.block, ad593.off + 1, none⟩ = some (.int .u32 ((rd_T24 t589 0).f1)) ∧ w'.cell? ⟨ad593.block, ad593.off + 2, none⟩ = some (.int .u32 ((rd_T24 t589 0).f2)) ∧ w'.cell? ⟨ad593.block, ad593.off + 3, none⟩ = some (.string ((rd_T24 t589 0).f3)) ∧ w'.cell? (ad593.add (((ji82)).toNat * 4)) = some (.int .i64 ((rd_T24 t589 (ji82)).f0)) ∧ w'.cell? ⟨(ad593.add (((ji82)).toNat * 4)).block, (ad593.add (((ji82)).toNat * 4)).off + 1, none⟩ = some (.int .u32 ((rd_T24 t589 (ji82)).f1)) ∧ w'.cell? ⟨(ad593.add (((ji82)).toNat * 4)).block, (ad593.add (((ji82)).toNat * 4)).off + 2, none⟩ = some (.int .u32 ((rd_T24 t589 (ji82)).f2)) ∧ w'.cell? ⟨(ad593.add (((ji82)).toNat * 4)).block, (ad593.add (((ji82)).toNat * 4)).off + 3, none⟩ = some (.string ((rd_T24 t589 (ji82)).f3))) (ds := []) #[false, false, false, false, false, false, false, false, false, false, false, false, false] (by kernel_rfl) rfl rfl ⟨hx593_0, hx593_1, hx593_2, hx593_3, hx594_0, hx594_1, hx594_2, hx594_3⟩ (fun hHeld => ?_); refine with_tabW croftlaw46_TrackStraight.tab19 croftlaw46_TrackStraight.bits19 (fun HT_ HW_ => ?_)
                                  generalize w92.drew = w95 at HO_0 HO_3 HO591 HB hx593_0 hx593_1 hx593_2 hx593_3 hx594_0 hx594_1 hx594_2 hx594_3 hHeld ⊢
                                  refine pure_ (i := 0) (N := some 116) (v := ?_) (a' := ?_) #[true, false, false, false, false, false, false, false, false, false, false, false, false] rfl rfl (any_of HT_.out (by kernel_rfl)) (fun _ _ _ h => h) (Or.inl ⟨by rfl, ?_⟩) ?_ ?_
                                  rotate_left
                                  · intro w'
                                    go_simp
                                    with_reducible rfl
                                  rotate_left
                                  · simp only [Act.put, List.setIfInBounds_toArray, List.set_cons_zero, List.set_cons_succ, i64_w, i32_w]
                                    rfl
                                  refine pure_ (i := 1) (N := some 117) (v := ?_) (a' := ?_) #[true, true, false, false, false, false, false, false, false, false, false, false, false] rfl rfl (any_of HT_.out (by kernel_rfl)) (fun _ _ _ h => h) (Or.inl ⟨by rfl, ?_⟩) ?_ ?_
                                  rotate_left
                                  · intro w'
                                    go_simp
                                    with_reducible rfl
                                  rotate_left
                                  · simp only [Act.put, List.setIfInBounds_toArray, List.set_cons_zero, List.set_cons_succ, i64_w, i32_w]
                                    rfl
                                  refine pure_ (i := 3) (N := some 119) (v := ?_) (a' := ?_) #[true, true, false, true, false, false, false, false, false, false, false, false, false] rfl rfl (any_of HT_.out (by kernel_rfl)) (fun _ _ _ h => h) (Or.inl ⟨by rfl, ?_⟩) ?_ ?_
                                  rotate_left
                                  · intro w'
                                    go_simp
                                    with_reducible rfl
                                  rotate_left
                                  · simp only [Act.put, List.setIfInBounds_toArray, List.set_cons_zero, List.set_cons_succ, i64_w, i32_w]
                                    rfl
                                  refine pure_ (i := 4) (N := some 120) (v := ?_) (a' := ?_) #[true, true, false, true, true, false, false, false, false, false, false, false, false] rfl rfl (any_of HT_.out (by kernel_rfl)) (fun _ _ _ h => h) (Or.inl ⟨by rfl, ?_⟩) ?_ ?_
                                  rotate_left
                                  · intro w'
                                    go_simp
                                    with_reducible rfl
                                  rotate_left
                                  · simp only [Act.put, List.setIfInBounds_toArray, List.set_cons_zero, List.set_cons_succ, i64_w, i32_w]
                                    rfl
                                  refine pure_ (i := 5) (N := some 121) (v := ?_) (a' := ?_) #[true, true, false, true, true, true, false, false, false, false, false, false, false] rfl rfl (any_of HT_.out (by kernel_rfl)) (fun _ _ _ h => h) (Or.inl ⟨by rfl, ?_⟩) ?_ ?_
                                  rotate_left
                                  · intro w'
                                    go_simp
                                    with_reducible rfl
                                  rotate_left
                                  · simp only [Act.put, List.setIfInBounds_toArray, List.set_cons_zero, List.set_cons_succ, i64_w, i32_w]
                                    rfl
                                  refine pure_ (i := 6) (N := some 122) (v := ?_) (a' := ?_) #[true, true, false, true, true, true, true, false, false, false, false, false, false] rfl rfl (any_of HT_.out (by kernel_rfl)) (fun _ _ _ h => h) (Or.inl ⟨by rfl, ?_⟩) ?_ ?_
                                  rotate_left
                                  · intro w'
                                    go_simp
                                    with_reducible rfl
                                  rotate_left
                                  · simp only [Act.put, List.setIfInBounds_toArray, List.set_cons_zero, List.set_cons_succ, i64_w, i32_w]
                                    rfl
                                  refine pure_ (i := 7) (N := some 123) (v := ?_) (a' := ?_) #[true, true, false, true, true, true, true, true, false, false, false, false, false] rfl rfl (any_of HT_.out (by kernel_rfl)) (fun _ _ _ h => h) (Or.inl ⟨by rfl, ?_⟩) ?_ ?_
                                  rotate_left
                                  · intro w'
                                    go_simp
                                    with_reducible rfl
                                  rotate_left
                                  · simp only [Act.put, List.setIfInBounds_toArray, List.set_cons_zero, List.set_cons_succ, i64_w, i32_w]
                                    rfl
                                  refine take_ (i := 2) (N := some 118) (v := ?_) (a' := ?_) #[true, true, true, true, true, true, true, true, false, false, false, false, false] rfl rfl (take_ofW HT_.out HW_.out (by kernel_rfl)) (fun _ _ _ h => h) (Or.inl ⟨by rfl, ?_⟩) hHeld ?_ ?_
                                  rotate_left
                                  · rintro w' ⟨s0, s1, s2, s3, s4, s5, s6, s7⟩
                                    go_simp
                                    with_reducible rfl
                                  rotate_left
                                  · simp only [Act.put, List.setIfInBounds_toArray, List.set_cons_zero, List.set_cons_succ, i64_w, i32_w]
                                    rfl
                                  refine take_ (i := 8) (N := some 124) (v := ?_) (a' := ?_) #[true, true, true, true, true, true, true, true, true, false, false, false, false] rfl rfl (take_ofW HT_.out HW_.out (by kernel_rfl)) (fun _ _ _ h => h) (Or.inl ⟨by rfl, ?_⟩) hHeld ?_ ?_
                                  rotate_left
                                  · rintro w' ⟨s0, s1, s2, s3, s4, s5, s6, s7⟩
                                    go_simp
                                    with_reducible rfl
                                  rotate_left
                                  · simp only [Act.put, List.setIfInBounds_toArray, List.set_cons_zero, List.set_cons_succ, i64_w, i32_w]
                                    rfl
                                  refine join_ (σ := Nat × Nat) 2 #[true, true, true, true, true, true, true, true, true, true, true, false, false] (fun s_ => [(7, .pointer (some ⟨s_.1, 0, none⟩)), (8, .pointer (some ⟨s_.2, 0, none⟩))]) (fun s_ w' => (w'.cell? ad593 = some (.int .i64 ((rd_T24 t589 0).f0)) ∧ w'.cell? ⟨ad593.block, ad593.off + 1, none⟩ = some (.int .u32 ((rd_T24 t589 0).f1)) ∧ w'.cell? ⟨ad593.block, ad593.off + 2, none⟩ = some (.int .u32 ((rd_T24 t589 0).f2)) ∧ w'.cell? ⟨ad593.block, ad593.off + 3, none⟩ = some (.string ((rd_T24 t589 0).f3)) ∧ w'.cell? (ad593.add (((ji82)).toNat * 4)) = some (.int .i64 ((rd_T24 t589 (ji82)).f0)) ∧ w'.cell? ⟨(ad593.add (((ji82)).toNat * 4)).block, (ad593.add (((ji82)).toNat * 4)).off + 1, none⟩ = some (.int .u32 ((rd_T24 t589 (ji82)).f1)) ∧ w'.cell? ⟨(ad593.add (((ji82)).toNat * 4)).block, (ad593.add (((ji82)).toNat * 4)).off + 2, none⟩ = some (.int .u32 ((rd_T24 t589 (ji82)).f2)) ∧ w'.cell? ⟨(ad593.add (((ji82)).toNat * 4)).block, (ad593.add (((ji82)).toNat * 4)).off + 3, none⟩ = some (.string ((rd_T24 t589 (ji82)).f3))) ∧ (Kd.R k24 24 w' w.heap.size (fun k_ => (w.heap.size ≤ k_) ∧ some k_ ≠ (.slice Ao94 x3_2.length co94 : Value).ownBlock ∧ k_ ≠ s_.1 ∧ k_ ≠ s_.2) (.slice (some ad593) t589.length co93) t589) ∧ (Kd.V k24 24 w' w.heap.size (fun k_ => (P0_ k_ ∨ w.heap.size ≤ k_) ∧ some k_ ≠ (.slice (some ad593) t589.length co93 : Value).ownBlock ∧ some k_ ≠ (.slice Ao94 x3_2.length co94 : Value).ownBlock ∧ k_ ≠ s_.1 ∧ k_ ≠ s_.2) (.slice Ao91 x0_3.length co91) x0_3) ∧ (Kd.R k24 24 w' w.heap.size (fun k_ => (w.heap.size ≤ k_) ∧ some k_ ≠ (.slice (some ad593) t589.length co93 : Value).ownBlock ∧ k_ ≠ s_.1 ∧ k_ ≠ s_.2) (.slice Ao94 x3_2.length co94) x3_2) ∧ (w'.heap[s_.1]? = some (.cells #[.int .i64 0, .int .u32 0, .int .u32 0, .string (⟨#[]⟩ : ByteArray)] 24 (0, 0))) ∧ (w'.heap[s_.2]? = some (.cells #[.int .i64 0, .int .u32 0, .int .u32 0, .string (⟨#[]⟩ : ByteArray)] 24 (0, 0))) ∧ (w.heap.size ≤ s_.1) ∧ (w.heap.size ≤ s_.1) ∧ (s_.2 ≠ s_.1) ∧ (s_.1 ≠ s_.2) ∧ (w.heap.size ≤ s_.2) ∧ (w.heap.size ≤ s_.2) ∧ (Below w.heap.size w w')) ?_ ?_
                                  rotate_left
                                  · intro hCont
                                    refine two_ (i := 9) (j := 10) (Ni := some 7) (Nj := some 8) #[true, true, true, true, true, true, true, true, true, true, false, false, false] #[true, true, true, true, true, true, true, true, true, false, true, false, false] rfl rfl rfl rfl (two_of HT_.out (by kernel_rfl)) (by decide) (by decide) (fun K hK => ?_) (fun K hK => ?_)
                                    · skip
                                      refine box_step ?hg (N := 7) ?hd (cs := #[.int .i64 0, .int .u32 0, .int .u32 0, .string (⟨#[]⟩ : ByteArray)]) (t := 24) ?hr ?_; (case hd => rfl); (case hg => rfl); (case hr => first | (go_simp; done) | (go_simp; rfl))
                                      intro gb595 hg w96 hbox hb
                                      have HS0_ := (hb.cell (World.block_lt_of_cell? _ _ (hHeld.1))).trans (hHeld.1)
                                      have HS1_ := (hb.cell (World.block_lt_of_cell? _ _ (hHeld.2.1))).trans (hHeld.2.1)
                                      have HS2_ := (hb.cell (World.block_lt_of_cell? _ _ (hHeld.2.2.1))).trans (hHeld.2.2.1)
                                      have HS3_ := (hb.cell (World.block_lt_of_cell? _ _ (hHeld.2.2.2.1))).trans (hHeld.2.2.2.1)
                                      have HS4_ := (hb.cell (World.block_lt_of_cell? _ _ (hHeld.2.2.2.2.1))).trans (hHeld.2.2.2.2.1)
                                      have HS5_ := (hb.cell (World.block_lt_of_cell? _ _ (hHeld.2.2.2.2.2.1))).trans (hHeld.2.2.2.2.2.1)
                                      have HS6_ := (hb.cell (World.block_lt_of_cell? _ _ (hHeld.2.2.2.2.2.2.1))).trans (hHeld.2.2.2.2.2.2.1)
                                      have HS7_ := (hb.cell (World.block_lt_of_cell? _ _ (hHeld.2.2.2.2.2.2.2))).trans (hHeld.2.2.2.2.2.2.2)
                                      have n0_ := Aside0.mk (Kd.V_below (Kd.V_elderB (by (with_reducible repeat (first | apply Kd.V_alloc | apply Kd.V_drewN | apply Kd.V_drew)); exact HO_0.out) gb595 (Nat.le_of_eq hg.symm)) hb)
                                      have n1_ := Aside0.mk (Kd.R_below (Kd.R_elderB (by (with_reducible repeat (first | apply Kd.R_alloc | apply Kd.R_drewN | apply Kd.R_drew)); exact HO_3.out) gb595 (Nat.le_of_eq hg.symm)) hb)
                                      have n2_ := Aside0.mk (Kd.R_below (Kd.R_elderB (by (with_reducible repeat (first | apply Kd.R_alloc | apply Kd.R_drewN | apply Kd.R_drew)); exact HO591.out) gb595 (Nat.le_of_eq hg.symm)) hb)
                                      have n3_ := Aside0.mk (below_step (by repeat (first | (with_reducible first | exact HB.out | apply below_alloc | apply pw_below_drewN | apply below_drew1) | exact HB.out)) hb)
                                      have n4_ := Aside0.mk (hbox)
                                      have n5_ := Aside0.mk ((by rw [hg]; exact (below_size (by repeat (first | (with_reducible first | exact HB.out | apply below_alloc | apply pw_below_drewN | apply below_drew1) | exact HB.out))) : w.heap.size ≤ gb595))
                                      have n6_ := Aside0.mk ((by rw [hg]; exact (below_size (by repeat (first | (with_reducible first | exact HB.out | apply below_alloc | apply pw_below_drewN | apply below_drew1) | exact HB.out))) : w.heap.size ≤ gb595))
                                      clear HO_0
                                      clear HO_3
                                      clear HO591
                                      clear HB
                                      have HO_0 := n0_
                                      have HO_3 := n1_
                                      have HO591 := n2_
                                      have HB := n3_
                                      have BK595 := n4_
                                      have GW595 := n5_
                                      have GE595 := n6_
                                      clear n0_ n1_ n2_ n3_ n4_ n5_ n6_
                                      clear hb hbox hg
                                      refine hK.out _ _ ⟨HS0_, HS1_, HS2_, HS3_, HS4_, HS5_, HS6_, HS7_⟩ (fun hHeld => ?_)
                                      clear hK K
                                      refine norm_ (a' := ?_) ?_ ?_
                                      rotate_left
                                      · show Act.put _ (some 7) _ = _
                                        simp only [Act.put, List.setIfInBounds_toArray, List.set_cons_zero, List.set_cons_succ, i64_w, i32_w]
                                        rfl
                                      refine one_ (i := 10) (N := some 8) #[true, true, true, true, true, true, true, true, true, true, true, false, false] rfl rfl (one_of HT_.out (by kernel_rfl)) (by decide) (fun K hK => ?_)
                                      refine box_step ?hg (N := 8) ?hd (cs := #[.int .i64 0, .int .u32 0, .int .u32 0, .string (⟨#[]⟩ : ByteArray)]) (t := 24) ?hr ?_; (case hd => rfl); (case hg => rfl); (case hr => first | (go_simp; done) | (go_simp; rfl))
                                      intro gb596 hg w97 hbox hb
                                      have HS0_ := (hb.cell (World.block_lt_of_cell? _ _ (hHeld.1))).trans (hHeld.1)
                                      have HS1_ := (hb.cell (World.block_lt_of_cell? _ _ (hHeld.2.1))).trans (hHeld.2.1)
                                      have HS2_ := (hb.cell (World.block_lt_of_cell? _ _ (hHeld.2.2.1))).trans (hHeld.2.2.1)
                                      have HS3_ := (hb.cell (World.block_lt_of_cell? _ _ (hHeld.2.2.2.1))).trans (hHeld.2.2.2.1)
                                      have HS4_ := (hb.cell (World.block_lt_of_cell? _ _ (hHeld.2.2.2.2.1))).trans (hHeld.2.2.2.2.1)
                                      have HS5_ := (hb.cell (World.block_lt_of_cell? _ _ (hHeld.2.2.2.2.2.1))).trans (hHeld.2.2.2.2.2.1)
                                      have HS6_ := (hb.cell (World.block_lt_of_cell? _ _ (hHeld.2.2.2.2.2.2.1))).trans (hHeld.2.2.2.2.2.2.1)
                                      have HS7_ := (hb.cell (World.block_lt_of_cell? _ _ (hHeld.2.2.2.2.2.2.2))).trans (hHeld.2.2.2.2.2.2.2)
                                      have n0_ := Aside0.mk (Kd.V_below (Kd.V_elderB (by (with_reducible repeat (first | apply Kd.V_alloc | apply Kd.V_drewN | apply Kd.V_drew)); exact HO_0.out) gb596 (Nat.le_of_eq hg.symm)) hb)
                                      have n1_ := Aside0.mk (Kd.R_below (Kd.R_elderB (by (with_reducible repeat (first | apply Kd.R_alloc | apply Kd.R_drewN | apply Kd.R_drew)); exact HO_3.out) gb596 (Nat.le_of_eq hg.symm)) hb)
                                      have n2_ := Aside0.mk (Kd.R_below (Kd.R_elderB (by (with_reducible repeat (first | apply Kd.R_alloc | apply Kd.R_drewN | apply Kd.R_drew)); exact HO591.out) gb596 (Nat.le_of_eq hg.symm)) hb)
                                      have n3_ := Aside0.mk (blk_below (g := gb595) (o := .cells #[.int .i64 0, .int .u32 0, .int .u32 0, .string (⟨#[]⟩ : ByteArray)] 24 (0, 0)) (by (with_reducible repeat (first | refine blk_drewN ?_ _ | refine blk_drew ?_ | refine blk_alloc ?_ _)); exact BK595.out) hb)
                                      have n4_ := Aside0.mk (below_step (by repeat (first | (with_reducible first | exact HB.out | apply below_alloc | apply pw_below_drewN | apply below_drew1 | refine below_set ?_ GE595.out) | exact HB.out)) hb)
                                      have n5_ := Aside0.mk (hbox)
                                      have n6_ := Aside0.mk ((by rw [hg]; exact (below_size (by repeat (first | (with_reducible first | exact HB.out | apply below_alloc | apply pw_below_drewN | apply below_drew1 | refine below_set ?_ GE595.out) | exact HB.out))) : w.heap.size ≤ gb596))
                                      have n7_ := Aside0.mk ((by rw [hg]; exact (below_size (by repeat (first | (with_reducible first | exact HB.out | apply below_alloc | apply pw_below_drewN | apply below_drew1 | refine below_set ?_ GE595.out) | exact HB.out))) : w.heap.size ≤ gb596))
                                      have n8_ := Aside0.mk ((by rw [hg]; exact Nat.ne_of_lt (blk_lt (g := gb595) (o := .cells #[.int .i64 0, .int .u32 0, .int .u32 0, .string (⟨#[]⟩ : ByteArray)] 24 (0, 0)) (by (with_reducible repeat (first | refine blk_drewN ?_ _ | refine blk_drew ?_ | refine blk_alloc ?_ _)); exact BK595.out)) : gb595 ≠ gb596))
                                      have n9_ := Aside0.mk ((by rw [hg]; exact Nat.ne_of_gt (blk_lt (g := gb595) (o := .cells #[.int .i64 0, .int .u32 0, .int .u32 0, .string (⟨#[]⟩ : ByteArray)] 24 (0, 0)) (by (with_reducible repeat (first | refine blk_drewN ?_ _ | refine blk_drew ?_ | refine blk_alloc ?_ _)); exact BK595.out)) : gb596 ≠ gb595))
                                      clear HO_0
                                      clear HO_3
                                      clear HO591
                                      clear BK595
                                      clear HB
                                      have HO_0 := n0_
                                      have HO_3 := n1_
                                      have HO591 := n2_
                                      have BK595 := n3_
                                      have HB := n4_
                                      have BK596 := n5_
                                      have GW596 := n6_
                                      have GE596 := n7_
                                      have NB595_596 := n8_
                                      have NB596_595 := n9_
                                      clear n0_ n1_ n2_ n3_ n4_ n5_ n6_ n7_ n8_ n9_
                                      clear hb hbox hg
                                      refine hK.out _ _ ⟨HS0_, HS1_, HS2_, HS3_, HS4_, HS5_, HS6_, HS7_⟩ (fun hHeld => ?_)
                                      clear hK K
                                      refine norm_ (a' := ?_) ?_ ?_
                                      rotate_left
                                      · show Act.put _ (some 8) _ = _
                                        simp only [Act.put, List.setIfInBounds_toArray, List.set_cons_zero, List.set_cons_succ, i64_w, i32_w]
                                        rfl
                                      exact norm_ (by simp only [putAll, Act.put, List.setIfInBounds_toArray, List.set_cons_zero, List.set_cons_succ]) (hCont (gb595, gb596) _ ⟨hHeld, (by (with_reducible repeat (first | apply Kd.R_alloc | apply Kd.R_drewN | apply Kd.R_drew)); exact Kd.R_mono HO591.out (fun _ hk => ⟨hk.1.1.1, ⟨hk.1.1.2, ⟨hk.1.2, hk.2⟩⟩⟩)), (by (with_reducible repeat (first | apply Kd.V_alloc | apply Kd.V_drewN | apply Kd.V_drew)); exact Kd.V_mono HO_0.out (fun _ hk => ⟨hk.1.1.1, ⟨hk.1.1.2.1, ⟨hk.1.1.2.2, ⟨hk.1.2, hk.2⟩⟩⟩⟩)), (by (with_reducible repeat (first | apply Kd.R_alloc | apply Kd.R_drewN | apply Kd.R_drew)); exact Kd.R_mono HO_3.out (fun _ hk => ⟨hk.1.1.1, ⟨hk.1.1.2, ⟨hk.1.2, hk.2⟩⟩⟩)), (by (with_reducible repeat (first | refine blk_drewN ?_ _ | refine blk_drew ?_ | refine blk_alloc ?_ _)); exact BK595.out), (by (with_reducible repeat (first | refine blk_drewN ?_ _ | refine blk_drew ?_ | refine blk_alloc ?_ _)); exact BK596.out), GW595.out, GE595.out, NB596_595.out, NB595_596.out, GW596.out, GE596.out, (by repeat (first | (with_reducible first | exact HB.out | apply below_alloc | apply pw_below_drewN | apply below_drew1 | refine below_set ?_ GE595.out | refine below_set ?_ GE596.out) | exact HB.out))⟩)
                                    · skip
                                      refine box_step ?hg (N := 8) ?hd (cs := #[.int .i64 0, .int .u32 0, .int .u32 0, .string (⟨#[]⟩ : ByteArray)]) (t := 24) ?hr ?_; (case hd => rfl); (case hg => rfl); (case hr => first | (go_simp; done) | (go_simp; rfl))
                                      intro gb596 hg w96 hbox hb
                                      have HS0_ := (hb.cell (World.block_lt_of_cell? _ _ (hHeld.1))).trans (hHeld.1)
                                      have HS1_ := (hb.cell (World.block_lt_of_cell? _ _ (hHeld.2.1))).trans (hHeld.2.1)
                                      have HS2_ := (hb.cell (World.block_lt_of_cell? _ _ (hHeld.2.2.1))).trans (hHeld.2.2.1)
                                      have HS3_ := (hb.cell (World.block_lt_of_cell? _ _ (hHeld.2.2.2.1))).trans (hHeld.2.2.2.1)
                                      have HS4_ := (hb.cell (World.block_lt_of_cell? _ _ (hHeld.2.2.2.2.1))).trans (hHeld.2.2.2.2.1)
                                      have HS5_ := (hb.cell (World.block_lt_of_cell? _ _ (hHeld.2.2.2.2.2.1))).trans (hHeld.2.2.2.2.2.1)
                                      have HS6_ := (hb.cell (World.block_lt_of_cell? _ _ (hHeld.2.2.2.2.2.2.1))).trans (hHeld.2.2.2.2.2.2.1)
                                      have HS7_ := (hb.cell (World.block_lt_of_cell? _ _ (hHeld.2.2.2.2.2.2.2))).trans (hHeld.2.2.2.2.2.2.2)
                                      have n0_ := Aside0.mk (Kd.V_below (Kd.V_elderB (by (with_reducible repeat (first | apply Kd.V_alloc | apply Kd.V_drewN | apply Kd.V_drew)); exact HO_0.out) gb596 (Nat.le_of_eq hg.symm)) hb)
                                      have n1_ := Aside0.mk (Kd.R_below (Kd.R_elderB (by (with_reducible repeat (first | apply Kd.R_alloc | apply Kd.R_drewN | apply Kd.R_drew)); exact HO_3.out) gb596 (Nat.le_of_eq hg.symm)) hb)
                                      have n2_ := Aside0.mk (Kd.R_below (Kd.R_elderB (by (with_reducible repeat (first | apply Kd.R_alloc | apply Kd.R_drewN | apply Kd.R_drew)); exact HO591.out) gb596 (Nat.le_of_eq hg.symm)) hb)
                                      have n3_ := Aside0.mk (below_step (by repeat (first | (with_reducible first | exact HB.out | apply below_alloc | apply pw_below_drewN | apply below_drew1) | exact HB.out)) hb)
                                      have n4_ := Aside0.mk (hbox)
                                      have n5_ := Aside0.mk ((by rw [hg]; exact (below_size (by repeat (first | (with_reducible first | exact HB.out | apply below_alloc | apply pw_below_drewN | apply below_drew1) | exact HB.out))) : w.heap.size ≤ gb596))
                                      have n6_ := Aside0.mk ((by rw [hg]; exact (below_size (by repeat (first | (with_reducible first | exact HB.out | apply below_alloc | apply pw_below_drewN | apply below_drew1) | exact HB.out))) : w.heap.size ≤ gb596))
                                      clear HO_0
                                      clear HO_3
                                      clear HO591
                                      clear HB
                                      have HO_0 := n0_
                                      have HO_3 := n1_
                                      have HO591 := n2_
                                      have HB := n3_
                                      have BK596 := n4_
                                      have GW596 := n5_
                                      have GE596 := n6_
                                      clear n0_ n1_ n2_ n3_ n4_ n5_ n6_
                                      clear hb hbox hg
                                      refine hK.out _ _ ⟨HS0_, HS1_, HS2_, HS3_, HS4_, HS5_, HS6_, HS7_⟩ (fun hHeld => ?_)
                                      clear hK K
                                      refine norm_ (a' := ?_) ?_ ?_
                                      rotate_left
                                      · show Act.put _ (some 8) _ = _
                                        simp only [Act.put, List.setIfInBounds_toArray, List.set_cons_zero, List.set_cons_succ, i64_w, i32_w]
                                        rfl
                                      refine one_ (i := 9) (N := some 7) #[true, true, true, true, true, true, true, true, true, true, true, false, false] rfl rfl (one_of HT_.out (by kernel_rfl)) (by decide) (fun K hK => ?_)
                                      refine box_step ?hg (N := 7) ?hd (cs := #[.int .i64 0, .int .u32 0, .int .u32 0, .string (⟨#[]⟩ : ByteArray)]) (t := 24) ?hr ?_; (case hd => rfl); (case hg => rfl); (case hr => first | (go_simp; done) | (go_simp; rfl))
                                      intro gb595 hg w97 hbox hb
                                      have HS0_ := (hb.cell (World.block_lt_of_cell? _ _ (hHeld.1))).trans (hHeld.1)
                                      have HS1_ := (hb.cell (World.block_lt_of_cell? _ _ (hHeld.2.1))).trans (hHeld.2.1)
                                      have HS2_ := (hb.cell (World.block_lt_of_cell? _ _ (hHeld.2.2.1))).trans (hHeld.2.2.1)
                                      have HS3_ := (hb.cell (World.block_lt_of_cell? _ _ (hHeld.2.2.2.1))).trans (hHeld.2.2.2.1)
                                      have HS4_ := (hb.cell (World.block_lt_of_cell? _ _ (hHeld.2.2.2.2.1))).trans (hHeld.2.2.2.2.1)
                                      have HS5_ := (hb.cell (World.block_lt_of_cell? _ _ (hHeld.2.2.2.2.2.1))).trans (hHeld.2.2.2.2.2.1)
                                      have HS6_ := (hb.cell (World.block_lt_of_cell? _ _ (hHeld.2.2.2.2.2.2.1))).trans (hHeld.2.2.2.2.2.2.1)
                                      have HS7_ := (hb.cell (World.block_lt_of_cell? _ _ (hHeld.2.2.2.2.2.2.2))).trans (hHeld.2.2.2.2.2.2.2)
                                      have n0_ := Aside0.mk (Kd.V_below (Kd.V_elderB (by (with_reducible repeat (first | apply Kd.V_alloc | apply Kd.V_drewN | apply Kd.V_drew)); exact HO_0.out) gb595 (Nat.le_of_eq hg.symm)) hb)
                                      have n1_ := Aside0.mk (Kd.R_below (Kd.R_elderB (by (with_reducible repeat (first | apply Kd.R_alloc | apply Kd.R_drewN | apply Kd.R_drew)); exact HO_3.out) gb595 (Nat.le_of_eq hg.symm)) hb)
                                      have n2_ := Aside0.mk (Kd.R_below (Kd.R_elderB (by (with_reducible repeat (first | apply Kd.R_alloc | apply Kd.R_drewN | apply Kd.R_drew)); exact HO591.out) gb595 (Nat.le_of_eq hg.symm)) hb)
                                      have n3_ := Aside0.mk (blk_below (g := gb596) (o := .cells #[.int .i64 0, .int .u32 0, .int .u32 0, .string (⟨#[]⟩ : ByteArray)] 24 (0, 0)) (by (with_reducible repeat (first | refine blk_drewN ?_ _ | refine blk_drew ?_ | refine blk_alloc ?_ _)); exact BK596.out) hb)
                                      have n4_ := Aside0.mk (below_step (by repeat (first | (with_reducible first | exact HB.out | apply below_alloc | apply pw_below_drewN | apply below_drew1 | refine below_set ?_ GE596.out) | exact HB.out)) hb)
                                      have n5_ := Aside0.mk (hbox)
                                      have n6_ := Aside0.mk ((by rw [hg]; exact (below_size (by repeat (first | (with_reducible first | exact HB.out | apply below_alloc | apply pw_below_drewN | apply below_drew1 | refine below_set ?_ GE596.out) | exact HB.out))) : w.heap.size ≤ gb595))
                                      have n7_ := Aside0.mk ((by rw [hg]; exact (below_size (by repeat (first | (with_reducible first | exact HB.out | apply below_alloc | apply pw_below_drewN | apply below_drew1 | refine below_set ?_ GE596.out) | exact HB.out))) : w.heap.size ≤ gb595))
                                      have n8_ := Aside0.mk ((by rw [hg]; exact Nat.ne_of_lt (blk_lt (g := gb596) (o := .cells #[.int .i64 0, .int .u32 0, .int .u32 0, .string (⟨#[]⟩ : ByteArray)] 24 (0, 0)) (by (with_reducible repeat (first | refine blk_drewN ?_ _ | refine blk_drew ?_ | refine blk_alloc ?_ _)); exact BK596.out)) : gb596 ≠ gb595))
                                      have n9_ := Aside0.mk ((by rw [hg]; exact Nat.ne_of_gt (blk_lt (g := gb596) (o := .cells #[.int .i64 0, .int .u32 0, .int .u32 0, .string (⟨#[]⟩ : ByteArray)] 24 (0, 0)) (by (with_reducible repeat (first | refine blk_drewN ?_ _ | refine blk_drew ?_ | refine blk_alloc ?_ _)); exact BK596.out)) : gb595 ≠ gb596))
                                      clear HO_0
                                      clear HO_3
                                      clear HO591
                                      clear BK596
                                      clear HB
                                      have HO_0 := n0_
                                      have HO_3 := n1_
                                      have HO591 := n2_
                                      have BK596 := n3_
                                      have HB := n4_
                                      have BK595 := n5_
                                      have GW595 := n6_
                                      have GE595 := n7_
                                      have NB596_595 := n8_
                                      have NB595_596 := n9_
                                      clear n0_ n1_ n2_ n3_ n4_ n5_ n6_ n7_ n8_ n9_
                                      clear hb hbox hg
                                      refine hK.out _ _ ⟨HS0_, HS1_, HS2_, HS3_, HS4_, HS5_, HS6_, HS7_⟩ (fun hHeld => ?_)
                                      clear hK K
                                      refine norm_ (a' := ?_) ?_ ?_
                                      rotate_left
                                      · show Act.put _ (some 7) _ = _
                                        simp only [Act.put, List.setIfInBounds_toArray, List.set_cons_zero, List.set_cons_succ, i64_w, i32_w]
                                        rfl
                                      exact norm_ (by simp only [putAll, Act.put, List.setIfInBounds_toArray, List.set_cons_zero, List.set_cons_succ]) (hCont (gb595, gb596) _ ⟨hHeld, (by (with_reducible repeat (first | apply Kd.R_alloc | apply Kd.R_drewN | apply Kd.R_drew)); exact Kd.R_mono HO591.out (fun _ hk => ⟨hk.1.1.1, ⟨hk.1.1.2, ⟨hk.2, hk.1.2⟩⟩⟩)), (by (with_reducible repeat (first | apply Kd.V_alloc | apply Kd.V_drewN | apply Kd.V_drew)); exact Kd.V_mono HO_0.out (fun _ hk => ⟨hk.1.1.1, ⟨hk.1.1.2.1, ⟨hk.1.1.2.2, ⟨hk.2, hk.1.2⟩⟩⟩⟩)), (by (with_reducible repeat (first | apply Kd.R_alloc | apply Kd.R_drewN | apply Kd.R_drew)); exact Kd.R_mono HO_3.out (fun _ hk => ⟨hk.1.1.1, ⟨hk.1.1.2, ⟨hk.2, hk.1.2⟩⟩⟩)), (by (with_reducible repeat (first | refine blk_drewN ?_ _ | refine blk_drew ?_ | refine blk_alloc ?_ _)); exact BK595.out), (by (with_reducible repeat (first | refine blk_drewN ?_ _ | refine blk_drew ?_ | refine blk_alloc ?_ _)); exact BK596.out), GW595.out, GE595.out, NB596_595.out, NB595_596.out, GW596.out, GE596.out, (by repeat (first | (with_reducible first | exact HB.out | apply below_alloc | apply pw_below_drewN | apply below_drew1 | refine below_set ?_ GE596.out | refine below_set ?_ GE595.out) | exact HB.out))⟩)
                                  rintro ⟨gb595, gb596⟩ w98 ⟨hS_, h0_, h1_, h2_, h3_, h4_, h5_, h6_, h7_, h8_, h9_, h10_, h11_⟩
                                  have n0_ : Aside0 (Kd.R k24 24 w98 w.heap.size (fun k_ => (w.heap.size ≤ k_) ∧ some k_ ≠ (.slice Ao94 x3_2.length co94 : Value).ownBlock ∧ k_ ≠ gb595 ∧ k_ ≠ gb596) (.slice (some ad593) t589.length co93) t589) := ⟨h0_⟩
                                  have n1_ : Aside0 (Kd.V k24 24 w98 w.heap.size (fun k_ => (P0_ k_ ∨ w.heap.size ≤ k_) ∧ some k_ ≠ (.slice (some ad593) t589.length co93 : Value).ownBlock ∧ some k_ ≠ (.slice Ao94 x3_2.length co94 : Value).ownBlock ∧ k_ ≠ gb595 ∧ k_ ≠ gb596) (.slice Ao91 x0_3.length co91) x0_3) := ⟨h1_⟩
                                  have n2_ : Aside0 (Kd.R k24 24 w98 w.heap.size (fun k_ => (w.heap.size ≤ k_) ∧ some k_ ≠ (.slice (some ad593) t589.length co93 : Value).ownBlock ∧ k_ ≠ gb595 ∧ k_ ≠ gb596) (.slice Ao94 x3_2.length co94) x3_2) := ⟨h2_⟩
                                  have n3_ : Aside0 (w98.heap[gb595]? = some (.cells #[.int .i64 0, .int .u32 0, .int .u32 0, .string (⟨#[]⟩ : ByteArray)] 24 (0, 0))) := ⟨h3_⟩
                                  have n4_ : Aside0 (w98.heap[gb596]? = some (.cells #[.int .i64 0, .int .u32 0, .int .u32 0, .string (⟨#[]⟩ : ByteArray)] 24 (0, 0))) := ⟨h4_⟩
                                  have n5_ : Aside0 (w.heap.size ≤ gb595) := ⟨h5_⟩
                                  have n6_ : Aside0 (w.heap.size ≤ gb595) := ⟨h6_⟩
                                  have n7_ : Aside0 (gb596 ≠ gb595) := ⟨h7_⟩
                                  have n8_ : Aside0 (gb595 ≠ gb596) := ⟨h8_⟩
                                  have n9_ : Aside0 (w.heap.size ≤ gb596) := ⟨h9_⟩
                                  have n10_ : Aside0 (w.heap.size ≤ gb596) := ⟨h10_⟩
                                  have n11_ : Aside0 (Below w.heap.size w w98) := ⟨h11_⟩
                                  clear HO_0
                                  clear HO_3
                                  clear HO591
                                  clear HB
                                  clear h0_ h1_ h2_ h3_ h4_ h5_ h6_ h7_ h8_ h9_ h10_ h11_
                                  have HO591 := n0_
                                  have HO_0 := n1_
                                  have HO_3 := n2_
                                  have BK595 := n3_
                                  have BK596 := n4_
                                  have GW595 := n5_
                                  have GE595 := n6_
                                  have NB596_595 := n7_
                                  have NB595_596 := n8_
                                  have GW596 := n9_
                                  have GE596 := n10_
                                  have HB := n11_
                                  clear n0_ n1_ n2_ n3_ n4_ n5_ n6_ n7_ n8_ n9_ n10_ n11_
                                  have hHeld : w98.cell? ad593 = some (.int .i64 ((rd_T24 t589 0).f0)) ∧ w98.cell? ⟨ad593.block, ad593.off + 1, none⟩ = some (.int .u32 ((rd_T24 t589 0).f1)) ∧ w98.cell? ⟨ad593.block, ad593.off + 2, none⟩ = some (.int .u32 ((rd_T24 t589 0).f2)) ∧ w98.cell? ⟨ad593.block, ad593.off + 3, none⟩ = some (.string ((rd_T24 t589 0).f3)) ∧ w98.cell? (ad593.add (((ji82)).toNat * 4)) = some (.int .i64 ((rd_T24 t589 (ji82)).f0)) ∧ w98.cell? ⟨(ad593.add (((ji82)).toNat * 4)).block, (ad593.add (((ji82)).toNat * 4)).off + 1, none⟩ = some (.int .u32 ((rd_T24 t589 (ji82)).f1)) ∧ w98.cell? ⟨(ad593.add (((ji82)).toNat * 4)).block, (ad593.add (((ji82)).toNat * 4)).off + 2, none⟩ = some (.int .u32 ((rd_T24 t589 (ji82)).f2)) ∧ w98.cell? ⟨(ad593.add (((ji82)).toNat * 4)).block, (ad593.add (((ji82)).toNat * 4)).off + 3, none⟩ = some (.string ((rd_T24 t589 (ji82)).f3)) := hS_
                                  refine norm_ (a' := ?_) ?_ ?_
                                  rotate_left
                                  · simp only [putAll, Act.put, List.setIfInBounds_toArray, List.set_cons_zero, List.set_cons_succ]
                                    rfl
                                  refine one_ (i := 11) (N := none) #[true, true, true, true, true, true, true, true, true, true, true, true, false] rfl rfl (one_of HT_.out (by kernel_rfl)) (by decide) (fun K hK => ?_)
                                  have hs99 : w98.cell? ⟨gb595, 0, none⟩ = some (.int .i64 0) := (blk_cell BK595.out 0).trans rfl
                                  have hfs99 := blk_frozen BK595.out 0
                                  have hns99_1 := NB596_595.out
                                  have hms99_1 := NB595_596.out
                                  have hs100 : w98.cell? ⟨gb595, 1, none⟩ = some (.int .u32 0) := (blk_cell BK595.out 1).trans rfl
                                  have hfs100 := blk_frozen BK595.out 1
                                  have hns100_1 := NB596_595.out
                                  have hms100_1 := NB595_596.out
                                  have hs101 : w98.cell? ⟨gb595, 2, none⟩ = some (.int .u32 0) := (blk_cell BK595.out 2).trans rfl
                                  have hfs101 := blk_frozen BK595.out 2
                                  have hns101_1 := NB596_595.out
                                  have hms101_1 := NB595_596.out
                                  have hs102 : w98.cell? ⟨gb595, 3, none⟩ = some (.string (⟨#[]⟩ : ByteArray)) := (blk_cell BK595.out 3).trans rfl
                                  have hfs102 := blk_frozen BK595.out 3
                                  have hns102_1 := NB596_595.out
                                  have hms102_1 := NB595_596.out
                                  refine skip_ (w1 := ?_) (by rfl) rfl ?_ ?_
                                  rotate_left
                                  · go_simp
                                    rfl
                                  have hfar_ : ad593.block ≠ gb595 := Kd.own_blk (Kd.R_away HO591.out (fun _ hk => hk.2.2.1))
                                  have HS0_ := four_far (g := gb595) (.int .i64 ((rd_T24 t589 0).f0)) (.int .u32 ((rd_T24 t589 0).f1)) (.int .u32 ((rd_T24 t589 0).f2)) (.string ((rd_T24 t589 0).f3)) (hHeld.1) (by first | exact hfar_ | (rw [add_block]; exact hfar_) | (show (Addr.add _ _).block ≠ _; rw [add_block]; exact hfar_))
                                  have HS1_ := four_far (g := gb595) (.int .i64 ((rd_T24 t589 0).f0)) (.int .u32 ((rd_T24 t589 0).f1)) (.int .u32 ((rd_T24 t589 0).f2)) (.string ((rd_T24 t589 0).f3)) (hHeld.2.1) (by first | exact hfar_ | (rw [add_block]; exact hfar_) | (show (Addr.add _ _).block ≠ _; rw [add_block]; exact hfar_))
                                  have HS2_ := four_far (g := gb595) (.int .i64 ((rd_T24 t589 0).f0)) (.int .u32 ((rd_T24 t589 0).f1)) (.int .u32 ((rd_T24 t589 0).f2)) (.string ((rd_T24 t589 0).f3)) (hHeld.2.2.1) (by first | exact hfar_ | (rw [add_block]; exact hfar_) | (show (Addr.add _ _).block ≠ _; rw [add_block]; exact hfar_))
                                  have HS3_ := four_far (g := gb595) (.int .i64 ((rd_T24 t589 0).f0)) (.int .u32 ((rd_T24 t589 0).f1)) (.int .u32 ((rd_T24 t589 0).f2)) (.string ((rd_T24 t589 0).f3)) (hHeld.2.2.2.1) (by first | exact hfar_ | (rw [add_block]; exact hfar_) | (show (Addr.add _ _).block ≠ _; rw [add_block]; exact hfar_))
                                  have HS4_ := four_far (g := gb595) (.int .i64 ((rd_T24 t589 0).f0)) (.int .u32 ((rd_T24 t589 0).f1)) (.int .u32 ((rd_T24 t589 0).f2)) (.string ((rd_T24 t589 0).f3)) (hHeld.2.2.2.2.1) (by first | exact hfar_ | (rw [add_block]; exact hfar_) | (show (Addr.add _ _).block ≠ _; rw [add_block]; exact hfar_))
                                  have HS5_ := four_far (g := gb595) (.int .i64 ((rd_T24 t589 0).f0)) (.int .u32 ((rd_T24 t589 0).f1)) (.int .u32 ((rd_T24 t589 0).f2)) (.string ((rd_T24 t589 0).f3)) (hHeld.2.2.2.2.2.1) (by first | exact hfar_ | (rw [add_block]; exact hfar_) | (show (Addr.add _ _).block ≠ _; rw [add_block]; exact hfar_))
                                  have HS6_ := four_far (g := gb595) (.int .i64 ((rd_T24 t589 0).f0)) (.int .u32 ((rd_T24 t589 0).f1)) (.int .u32 ((rd_T24 t589 0).f2)) (.string ((rd_T24 t589 0).f3)) (hHeld.2.2.2.2.2.2.1) (by first | exact hfar_ | (rw [add_block]; exact hfar_) | (show (Addr.add _ _).block ≠ _; rw [add_block]; exact hfar_))
                                  have HS7_ := four_far (g := gb595) (.int .i64 ((rd_T24 t589 0).f0)) (.int .u32 ((rd_T24 t589 0).f1)) (.int .u32 ((rd_T24 t589 0).f2)) (.string ((rd_T24 t589 0).f3)) (hHeld.2.2.2.2.2.2.2) (by first | exact hfar_ | (rw [add_block]; exact hfar_) | (show (Addr.add _ _).block ≠ _; rw [add_block]; exact hfar_))
                                  clear hfar_
                                  refine hK.out _ _ ⟨HS0_, HS1_, HS2_, HS3_, HS4_, HS5_, HS6_, HS7_⟩ (fun hHeld => ?_)
                                  clear hK K
                                  refine one_ (i := 12) (N := none) #[true, true, true, true, true, true, true, true, true, true, true, true, true] rfl rfl (one_of HT_.out (by kernel_rfl)) (by decide) (fun K hK => ?_)
                                  have hs103 : w98.cell? ⟨gb596, 0, none⟩ = some (.int .i64 0) := (blk_cell BK596.out 0).trans rfl
                                  have hfs103 := blk_frozen BK596.out 0
                                  have hns103_0 := NB595_596.out
                                  have hms103_0 := NB596_595.out
                                  have hs104 : w98.cell? ⟨gb596, 1, none⟩ = some (.int .u32 0) := (blk_cell BK596.out 1).trans rfl
                                  have hfs104 := blk_frozen BK596.out 1
                                  have hns104_0 := NB595_596.out
                                  have hms104_0 := NB596_595.out
                                  have hs105 : w98.cell? ⟨gb596, 2, none⟩ = some (.int .u32 0) := (blk_cell BK596.out 2).trans rfl
                                  have hfs105 := blk_frozen BK596.out 2
                                  have hns105_0 := NB595_596.out
                                  have hms105_0 := NB596_595.out
                                  have hs106 : w98.cell? ⟨gb596, 3, none⟩ = some (.string (⟨#[]⟩ : ByteArray)) := (blk_cell BK596.out 3).trans rfl
                                  have hfs106 := blk_frozen BK596.out 3
                                  have hns106_0 := NB595_596.out
                                  have hms106_0 := NB596_595.out
                                  refine skip_ (w1 := ?_) (by rfl) rfl ?_ ?_
                                  rotate_left
                                  · go_simp
                                    rfl
                                  have hfar_ : ad593.block ≠ gb596 := Kd.own_blk (Kd.R_away HO591.out (fun _ hk => hk.2.2.2))
                                  have HS0_ := four_far (g := gb596) (.int .i64 ((rd_T24 t589 (ji82)).f0)) (.int .u32 ((rd_T24 t589 (ji82)).f1)) (.int .u32 ((rd_T24 t589 (ji82)).f2)) (.string ((rd_T24 t589 (ji82)).f3)) (hHeld.1) (by first | exact hfar_ | (rw [add_block]; exact hfar_) | (show (Addr.add _ _).block ≠ _; rw [add_block]; exact hfar_))
                                  have HS1_ := four_far (g := gb596) (.int .i64 ((rd_T24 t589 (ji82)).f0)) (.int .u32 ((rd_T24 t589 (ji82)).f1)) (.int .u32 ((rd_T24 t589 (ji82)).f2)) (.string ((rd_T24 t589 (ji82)).f3)) (hHeld.2.1) (by first | exact hfar_ | (rw [add_block]; exact hfar_) | (show (Addr.add _ _).block ≠ _; rw [add_block]; exact hfar_))
                                  have HS2_ := four_far (g := gb596) (.int .i64 ((rd_T24 t589 (ji82)).f0)) (.int .u32 ((rd_T24 t589 (ji82)).f1)) (.int .u32 ((rd_T24 t589 (ji82)).f2)) (.string ((rd_T24 t589 (ji82)).f3)) (hHeld.2.2.1) (by first | exact hfar_ | (rw [add_block]; exact hfar_) | (show (Addr.add _ _).block ≠ _; rw [add_block]; exact hfar_))
                                  have HS3_ := four_far (g := gb596) (.int .i64 ((rd_T24 t589 (ji82)).f0)) (.int .u32 ((rd_T24 t589 (ji82)).f1)) (.int .u32 ((rd_T24 t589 (ji82)).f2)) (.string ((rd_T24 t589 (ji82)).f3)) (hHeld.2.2.2.1) (by first | exact hfar_ | (rw [add_block]; exact hfar_) | (show (Addr.add _ _).block ≠ _; rw [add_block]; exact hfar_))
                                  have HS4_ := four_far (g := gb596) (.int .i64 ((rd_T24 t589 (ji82)).f0)) (.int .u32 ((rd_T24 t589 (ji82)).f1)) (.int .u32 ((rd_T24 t589 (ji82)).f2)) (.string ((rd_T24 t589 (ji82)).f3)) (hHeld.2.2.2.2.1) (by first | exact hfar_ | (rw [add_block]; exact hfar_) | (show (Addr.add _ _).block ≠ _; rw [add_block]; exact hfar_))
                                  have HS5_ := four_far (g := gb596) (.int .i64 ((rd_T24 t589 (ji82)).f0)) (.int .u32 ((rd_T24 t589 (ji82)).f1)) (.int .u32 ((rd_T24 t589 (ji82)).f2)) (.string ((rd_T24 t589 (ji82)).f3)) (hHeld.2.2.2.2.2.1) (by first | exact hfar_ | (rw [add_block]; exact hfar_) | (show (Addr.add _ _).block ≠ _; rw [add_block]; exact hfar_))
                                  have HS6_ := four_far (g := gb596) (.int .i64 ((rd_T24 t589 (ji82)).f0)) (.int .u32 ((rd_T24 t589 (ji82)).f1)) (.int .u32 ((rd_T24 t589 (ji82)).f2)) (.string ((rd_T24 t589 (ji82)).f3)) (hHeld.2.2.2.2.2.2.1) (by first | exact hfar_ | (rw [add_block]; exact hfar_) | (show (Addr.add _ _).block ≠ _; rw [add_block]; exact hfar_))
                                  have HS7_ := four_far (g := gb596) (.int .i64 ((rd_T24 t589 (ji82)).f0)) (.int .u32 ((rd_T24 t589 (ji82)).f1)) (.int .u32 ((rd_T24 t589 (ji82)).f2)) (.string ((rd_T24 t589 (ji82)).f3)) (hHeld.2.2.2.2.2.2.2) (by first | exact hfar_ | (rw [add_block]; exact hfar_) | (show (Addr.add _ _).block ≠ _; rw [add_block]; exact hfar_))
                                  clear hfar_
                                  refine hK.out _ _ ⟨HS0_, HS1_, HS2_, HS3_, HS4_, HS5_, HS6_, HS7_⟩ (fun hHeld => ?_)
                                  clear hK K
                                  refine done_ (done_of HT_.out (by kernel_rfl)) ?_
                                  try go_wp2
                                  have n0_ : Aside0 (Kd.V k24 24 ((((((((w98.setCell ⟨gb595, 0, none⟩ (.int .i64 ((rd_T24 t589 0).f0))).setCell ⟨gb595, 1, none⟩ (.int .u32 ((rd_T24 t589 0).f1))).setCell ⟨gb595, 2, none⟩ (.int .u32 ((rd_T24 t589 0).f2))).setCell ⟨gb595, 3, none⟩ (.string ((rd_T24 t589 0).f3))).setCell ⟨gb596, 0, none⟩ (.int .i64 ((rd_T24 t589 (ji82)).f0))).setCell ⟨gb596, 1, none⟩ (.int .u32 ((rd_T24 t589 (ji82)).f1))).setCell ⟨gb596, 2, none⟩ (.int .u32 ((rd_T24 t589 (ji82)).f2))).setCell ⟨gb596, 3, none⟩ (.string ((rd_T24 t589 (ji82)).f3))) w.heap.size (fun k_ => (P0_ k_ ∨ w.heap.size ≤ k_) ∧ some k_ ≠ (.slice Ao94 x3_2.length co94 : Value).ownBlock ∧ some k_ ≠ (.slice (some ad593) t589.length co93 : Value).ownBlock ∧ k_ ≠ gb595 ∧ k_ ≠ gb596) (.slice Ao91 x0_3.length co91) x0_3) := ⟨by (with_reducible repeat (first | apply Kd.V_alloc | apply Kd.V_drewN | apply Kd.V_drew)); exact Kd.V_mono (Kd.V_far (p := ⟨gb596, 3, none⟩) (Kd.V_far (p := ⟨gb596, 2, none⟩) (Kd.V_far (p := ⟨gb596, 1, none⟩) (Kd.V_far (p := ⟨gb596, 0, none⟩) (Kd.V_far (p := ⟨gb595, 3, none⟩) (Kd.V_far (p := ⟨gb595, 2, none⟩) (Kd.V_far (p := ⟨gb595, 1, none⟩) (Kd.V_far (p := ⟨gb595, 0, none⟩) (Kd.V_mono (Kd.V_mono HO_0.out (fun k_ hk => (⟨hk, hk.2.2.2.1⟩ : _ ∧ k_ ≠ gb595))) (fun k_ hk => (⟨hk, hk.1.2.2.2.2⟩ : _ ∧ k_ ≠ gb596))) (fun _ hk => hk.1.2) (.int .i64 ((rd_T24 t589 0).f0))) (fun _ hk => hk.1.2) (.int .u32 ((rd_T24 t589 0).f1))) (fun _ hk => hk.1.2) (.int .u32 ((rd_T24 t589 0).f2))) (fun _ hk => hk.1.2) (.string ((rd_T24 t589 0).f3))) (fun _ hk => hk.2) (.int .i64 ((rd_T24 t589 (ji82)).f0))) (fun _ hk => hk.2) (.int .u32 ((rd_T24 t589 (ji82)).f1))) (fun _ hk => hk.2) (.int .u32 ((rd_T24 t589 (ji82)).f2))) (fun _ hk => hk.2) (.string ((rd_T24 t589 (ji82)).f3))) (fun _ hk => ⟨hk.1.1.1, ⟨hk.1.1.2.2.1, ⟨hk.1.1.2.1, ⟨hk.1.1.2.2.2.1, hk.1.1.2.2.2.2⟩⟩⟩⟩)⟩
                                  have n1_ : Aside0 (Kd.R k24 24 ((((((((w98.setCell ⟨gb595, 0, none⟩ (.int .i64 ((rd_T24 t589 0).f0))).setCell ⟨gb595, 1, none⟩ (.int .u32 ((rd_T24 t589 0).f1))).setCell ⟨gb595, 2, none⟩ (.int .u32 ((rd_T24 t589 0).f2))).setCell ⟨gb595, 3, none⟩ (.string ((rd_T24 t589 0).f3))).setCell ⟨gb596, 0, none⟩ (.int .i64 ((rd_T24 t589 (ji82)).f0))).setCell ⟨gb596, 1, none⟩ (.int .u32 ((rd_T24 t589 (ji82)).f1))).setCell ⟨gb596, 2, none⟩ (.int .u32 ((rd_T24 t589 (ji82)).f2))).setCell ⟨gb596, 3, none⟩ (.string ((rd_T24 t589 (ji82)).f3))) w.heap.size (fun k_ => (w.heap.size ≤ k_) ∧ some k_ ≠ (.slice (some ad593) t589.length co93 : Value).ownBlock ∧ k_ ≠ gb595 ∧ k_ ≠ gb596) (.slice Ao94 x3_2.length co94) x3_2) := ⟨by (with_reducible repeat (first | apply Kd.R_alloc | apply Kd.R_drewN | apply Kd.R_drew)); exact Kd.R_mono (Kd.R_far (p := ⟨gb596, 3, none⟩) (Kd.R_far (p := ⟨gb596, 2, none⟩) (Kd.R_far (p := ⟨gb596, 1, none⟩) (Kd.R_far (p := ⟨gb596, 0, none⟩) (Kd.R_far (p := ⟨gb595, 3, none⟩) (Kd.R_far (p := ⟨gb595, 2, none⟩) (Kd.R_far (p := ⟨gb595, 1, none⟩) (Kd.R_far (p := ⟨gb595, 0, none⟩) (Kd.R_mono (Kd.R_mono HO_3.out (fun k_ hk => (⟨hk, hk.2.2.1⟩ : _ ∧ k_ ≠ gb595))) (fun k_ hk => (⟨hk, hk.1.2.2.2⟩ : _ ∧ k_ ≠ gb596))) (fun _ hk => hk.1.2) (.int .i64 ((rd_T24 t589 0).f0))) (fun _ hk => hk.1.2) (.int .u32 ((rd_T24 t589 0).f1))) (fun _ hk => hk.1.2) (.int .u32 ((rd_T24 t589 0).f2))) (fun _ hk => hk.1.2) (.string ((rd_T24 t589 0).f3))) (fun _ hk => hk.2) (.int .i64 ((rd_T24 t589 (ji82)).f0))) (fun _ hk => hk.2) (.int .u32 ((rd_T24 t589 (ji82)).f1))) (fun _ hk => hk.2) (.int .u32 ((rd_T24 t589 (ji82)).f2))) (fun _ hk => hk.2) (.string ((rd_T24 t589 (ji82)).f3))) (fun _ hk => ⟨hk.1.1.1, ⟨hk.1.1.2.1, ⟨hk.1.1.2.2.1, hk.1.1.2.2.2⟩⟩⟩)⟩
                                  have n2_ : Aside0 (Kd.R k24 24 ((((((((w98.setCell ⟨gb595, 0, none⟩ (.int .i64 ((rd_T24 t589 0).f0))).setCell ⟨gb595, 1, none⟩ (.int .u32 ((rd_T24 t589 0).f1))).setCell ⟨gb595, 2, none⟩ (.int .u32 ((rd_T24 t589 0).f2))).setCell ⟨gb595, 3, none⟩ (.string ((rd_T24 t589 0).f3))).setCell ⟨gb596, 0, none⟩ (.int .i64 ((rd_T24 t589 (ji82)).f0))).setCell ⟨gb596, 1, none⟩ (.int .u32 ((rd_T24 t589 (ji82)).f1))).setCell ⟨gb596, 2, none⟩ (.int .u32 ((rd_T24 t589 (ji82)).f2))).setCell ⟨gb596, 3, none⟩ (.string ((rd_T24 t589 (ji82)).f3))) w.heap.size (fun k_ => (w.heap.size ≤ k_) ∧ some k_ ≠ (.slice Ao94 x3_2.length co94 : Value).ownBlock ∧ k_ ≠ gb595 ∧ k_ ≠ gb596) (.slice (some ad593) t589.length co93) t589) := ⟨by (with_reducible repeat (first | apply Kd.R_alloc | apply Kd.R_drewN | apply Kd.R_drew)); exact Kd.R_mono (Kd.R_far (p := ⟨gb596, 3, none⟩) (Kd.R_far (p := ⟨gb596, 2, none⟩) (Kd.R_far (p := ⟨gb596, 1, none⟩) (Kd.R_far (p := ⟨gb596, 0, none⟩) (Kd.R_far (p := ⟨gb595, 3, none⟩) (Kd.R_far (p := ⟨gb595, 2, none⟩) (Kd.R_far (p := ⟨gb595, 1, none⟩) (Kd.R_far (p := ⟨gb595, 0, none⟩) (Kd.R_mono (Kd.R_mono HO591.out (fun k_ hk => (⟨hk, hk.2.2.1⟩ : _ ∧ k_ ≠ gb595))) (fun k_ hk => (⟨hk, hk.1.2.2.2⟩ : _ ∧ k_ ≠ gb596))) (fun _ hk => hk.1.2) (.int .i64 ((rd_T24 t589 0).f0))) (fun _ hk => hk.1.2) (.int .u32 ((rd_T24 t589 0).f1))) (fun _ hk => hk.1.2) (.int .u32 ((rd_T24 t589 0).f2))) (fun _ hk => hk.1.2) (.string ((rd_T24 t589 0).f3))) (fun _ hk => hk.2) (.int .i64 ((rd_T24 t589 (ji82)).f0))) (fun _ hk => hk.2) (.int .u32 ((rd_T24 t589 (ji82)).f1))) (fun _ hk => hk.2) (.int .u32 ((rd_T24 t589 (ji82)).f2))) (fun _ hk => hk.2) (.string ((rd_T24 t589 (ji82)).f3))) (fun _ hk => ⟨hk.1.1.1, ⟨hk.1.1.2.1, ⟨hk.1.1.2.2.1, hk.1.1.2.2.2⟩⟩⟩)⟩
                                  have n3_ : Aside0 (((((((((w98.setCell ⟨gb595, 0, none⟩ (.int .i64 ((rd_T24 t589 0).f0))).setCell ⟨gb595, 1, none⟩ (.int .u32 ((rd_T24 t589 0).f1))).setCell ⟨gb595, 2, none⟩ (.int .u32 ((rd_T24 t589 0).f2))).setCell ⟨gb595, 3, none⟩ (.string ((rd_T24 t589 0).f3))).setCell ⟨gb596, 0, none⟩ (.int .i64 ((rd_T24 t589 (ji82)).f0))).setCell ⟨gb596, 1, none⟩ (.int .u32 ((rd_T24 t589 (ji82)).f1))).setCell ⟨gb596, 2, none⟩ (.int .u32 ((rd_T24 t589 (ji82)).f2))).setCell ⟨gb596, 3, none⟩ (.string ((rd_T24 t589 (ji82)).f3))).heap[gb595]? = some (.cells #[.int .i64 ((rd_T24 t589 0).f0), .int .u32 ((rd_T24 t589 0).f1), .int .u32 ((rd_T24 t589 0).f2), .string ((rd_T24 t589 0).f3)] 24 (0, 0))) := ⟨by (with_reducible repeat (first | refine blk_drewN ?_ _ | refine blk_drew ?_ | refine blk_alloc ?_ _)); refine blk_far ?_ NB595_596.out _; (with_reducible repeat (first | refine blk_drewN ?_ _ | refine blk_drew ?_ | refine blk_alloc ?_ _)); refine blk_far ?_ NB595_596.out _; (with_reducible repeat (first | refine blk_drewN ?_ _ | refine blk_drew ?_ | refine blk_alloc ?_ _)); refine blk_far ?_ NB595_596.out _; (with_reducible repeat (first | refine blk_drewN ?_ _ | refine blk_drew ?_ | refine blk_alloc ?_ _)); refine blk_far ?_ NB595_596.out _; (with_reducible repeat (first | refine blk_drewN ?_ _ | refine blk_drew ?_ | refine blk_alloc ?_ _)); refine blk_put (cs := #[.int .i64 ((rd_T24 t589 0).f0), .int .u32 ((rd_T24 t589 0).f1), .int .u32 ((rd_T24 t589 0).f2), .string (⟨#[]⟩ : ByteArray)]) ?_ 3 _ rfl; (with_reducible repeat (first | refine blk_drewN ?_ _ | refine blk_drew ?_ | refine blk_alloc ?_ _)); refine blk_put (cs := #[.int .i64 ((rd_T24 t589 0).f0), .int .u32 ((rd_T24 t589 0).f1), .int .u32 0, .string (⟨#[]⟩ : ByteArray)]) ?_ 2 _ rfl; (with_reducible repeat (first | refine blk_drewN ?_ _ | refine blk_drew ?_ | refine blk_alloc ?_ _)); refine blk_put (cs := #[.int .i64 ((rd_T24 t589 0).f0), .int .u32 0, .int .u32 0, .string (⟨#[]⟩ : ByteArray)]) ?_ 1 _ rfl; (with_reducible repeat (first | refine blk_drewN ?_ _ | refine blk_drew ?_ | refine blk_alloc ?_ _)); refine blk_put (cs := #[.int .i64 0, .int .u32 0, .int .u32 0, .string (⟨#[]⟩ : ByteArray)]) ?_ 0 _ rfl; (with_reducible repeat (first | refine blk_drewN ?_ _ | refine blk_drew ?_ | refine blk_alloc ?_ _)); exact BK595.out⟩
                                  have n4_ : Aside0 (((((((((w98.setCell ⟨gb595, 0, none⟩ (.int .i64 ((rd_T24 t589 0).f0))).setCell ⟨gb595, 1, none⟩ (.int .u32 ((rd_T24 t589 0).f1))).setCell ⟨gb595, 2, none⟩ (.int .u32 ((rd_T24 t589 0).f2))).setCell ⟨gb595, 3, none⟩ (.string ((rd_T24 t589 0).f3))).setCell ⟨gb596, 0, none⟩ (.int .i64 ((rd_T24 t589 (ji82)).f0))).setCell ⟨gb596, 1, none⟩ (.int .u32 ((rd_T24 t589 (ji82)).f1))).setCell ⟨gb596, 2, none⟩ (.int .u32 ((rd_T24 t589 (ji82)).f2))).setCell ⟨gb596, 3, none⟩ (.string ((rd_T24 t589 (ji82)).f3))).heap[gb596]? = some (.cells #[.int .i64 ((rd_T24 t589 (ji82)).f0), .int .u32 ((rd_T24 t589 (ji82)).f1), .int .u32 ((rd_T24 t589 (ji82)).f2), .string ((rd_T24 t589 (ji82)).f3)] 24 (0, 0))) := ⟨by (with_reducible repeat (first | refine blk_drewN ?_ _ | refine blk_drew ?_ | refine blk_alloc ?_ _)); refine blk_put (cs := #[.int .i64 ((rd_T24 t589 (ji82)).f0), .int .u32 ((rd_T24 t589 (ji82)).f1), .int .u32 ((rd_T24 t589 (ji82)).f2), .string (⟨#[]⟩ : ByteArray)]) ?_ 3 _ rfl; (with_reducible repeat (first | refine blk_drewN ?_ _ | refine blk_drew ?_ | refine blk_alloc ?_ _)); refine blk_put (cs := #[.int .i64 ((rd_T24 t589 (ji82)).f0), .int .u32 ((rd_T24 t589 (ji82)).f1), .int .u32 0, .string (⟨#[]⟩ : ByteArray)]) ?_ 2 _ rfl; (with_reducible repeat (first | refine blk_drewN ?_ _ | refine blk_drew ?_ | refine blk_alloc ?_ _)); refine blk_put (cs := #[.int .i64 ((rd_T24 t589 (ji82)).f0), .int .u32 0, .int .u32 0, .string (⟨#[]⟩ : ByteArray)]) ?_ 1 _ rfl; (with_reducible repeat (first | refine blk_drewN ?_ _ | refine blk_drew ?_ | refine blk_alloc ?_ _)); refine blk_put (cs := #[.int .i64 0, .int .u32 0, .int .u32 0, .string (⟨#[]⟩ : ByteArray)]) ?_ 0 _ rfl; (with_reducible repeat (first | refine blk_drewN ?_ _ | refine blk_drew ?_ | refine blk_alloc ?_ _)); refine blk_far ?_ NB596_595.out _; (with_reducible repeat (first | refine blk_drewN ?_ _ | refine blk_drew ?_ | refine blk_alloc ?_ _)); refine blk_far ?_ NB596_595.out _; (with_reducible repeat (first | refine blk_drewN ?_ _ | refine blk_drew ?_ | refine blk_alloc ?_ _)); refine blk_far ?_ NB596_595.out _; (with_reducible repeat (first | refine blk_drewN ?_ _ | refine blk_drew ?_ | refine blk_alloc ?_ _)); refine blk_far ?_ NB596_595.out _; (with_reducible repeat (first | refine blk_drewN ?_ _ | refine blk_drew ?_ | refine blk_alloc ?_ _)); exact BK596.out⟩
                                  have n5_ : Aside0 (Below w.heap.size w ((((((((w98.setCell ⟨gb595, 0, none⟩ (.int .i64 ((rd_T24 t589 0).f0))).setCell ⟨gb595, 1, none⟩ (.int .u32 ((rd_T24 t589 0).f1))).setCell ⟨gb595, 2, none⟩ (.int .u32 ((rd_T24 t589 0).f2))).setCell ⟨gb595, 3, none⟩ (.string ((rd_T24 t589 0).f3))).setCell ⟨gb596, 0, none⟩ (.int .i64 ((rd_T24 t589 (ji82)).f0))).setCell ⟨gb596, 1, none⟩ (.int .u32 ((rd_T24 t589 (ji82)).f1))).setCell ⟨gb596, 2, none⟩ (.int .u32 ((rd_T24 t589 (ji82)).f2))).setCell ⟨gb596, 3, none⟩ (.string ((rd_T24 t589 (ji82)).f3)))) := ⟨by repeat (first | (with_reducible first | exact HB.out | apply below_alloc | apply pw_below_drewN | apply below_drew1 | refine below_set ?_ GE595.out | refine below_set ?_ GE596.out) | exact HB.out)⟩
                                  (try clear HO_0)
                                  (try clear HO_3)
                                  (try clear HO591)
                                  (try clear BK595)
                                  (try clear BK596)
                                  (try clear HB)
                                  generalize ((((((((w98.setCell ⟨gb595, 0, none⟩ (.int .i64 ((rd_T24 t589 0).f0))).setCell ⟨gb595, 1, none⟩ (.int .u32 ((rd_T24 t589 0).f1))).setCell ⟨gb595, 2, none⟩ (.int .u32 ((rd_T24 t589 0).f2))).setCell ⟨gb595, 3, none⟩ (.string ((rd_T24 t589 0).f3))).setCell ⟨gb596, 0, none⟩ (.int .i64 ((rd_T24 t589 (ji82)).f0))).setCell ⟨gb596, 1, none⟩ (.int .u32 ((rd_T24 t589 (ji82)).f1))).setCell ⟨gb596, 2, none⟩ (.int .u32 ((rd_T24 t589 (ji82)).f2))).setCell ⟨gb596, 3, none⟩ (.string ((rd_T24 t589 (ji82)).f3))) = w107 at n0_ n1_ n2_ n3_ n4_ n5_ ⊢
                                  have HO_0 := n0_
                                  have HO_3 := n1_
                                  have HO591 := n2_
                                  have BK595 := n3_
                                  have BK596 := n4_
                                  have HB := n5_
                                  clear n0_ n1_ n2_ n3_ n4_ n5_
                                  have n0_ := Aside0.mk (Kd.V_drew HO_0.out)
                                  have n1_ := Aside0.mk (Kd.R_drew HO_3.out)
                                  have n2_ := Aside0.mk (Kd.R_drew HO591.out)
                                  have n3_ := Aside0.mk (blk_drew BK595.out)
                                  have n4_ := Aside0.mk (blk_drew BK596.out)
                                  have n5_ := Aside0.mk (below_drew1 HB.out)
                                  clear HO_0
                                  clear HO_3
                                  clear HO591
                                  clear BK595
                                  clear BK596
                                  clear HB
                                  have HO_0 := n0_
                                  have HO_3 := n1_
                                  have HO591 := n2_
                                  have BK595 := n3_
                                  have BK596 := n4_
                                  have HB := n5_
                                  clear n0_ n1_ n2_ n3_ n4_ n5_
                                  have p597 : 0 ≤ (0 : Int) := (by omega)
                                  have q597 : 0 < (x0_3.length : Int) := of_decide_eq_true (by first | (with_reducible assumption) | assumption)
                                  obtain ⟨ad597, e597, hx597_0, hx597_1, hx597_2, hx597_3⟩ := at_T24 (Kd.V_reads' HO_0.out).2.2 0 p597 q597
                                  cases e597
                                  have qi597 : (0 < x0_3.length) = True := eq_true (by omega)
                                  (try rw [show ((0 : Int)).toNat = 0 from rfl] at hx597_0)
                                  (try rw [show 0 * 4 = 0 from rfl] at hx597_0)
                                  (try rw [Addr.add_zero'] at hx597_0)
                                  (try rw [show ((0 : Int)).toNat = 0 from rfl] at hx597_1)
                                  (try rw [show 0 * 4 = 0 from rfl] at hx597_1)
                                  (try rw [Addr.add_zero'] at hx597_1)
                                  (try rw [show ((0 : Int)).toNat = 0 from rfl] at hx597_2)
                                  (try rw [show 0 * 4 = 0 from rfl] at hx597_2)
                                  (try rw [Addr.add_zero'] at hx597_2)
                                  (try rw [show ((0 : Int)).toNat = 0 from rfl] at hx597_3)
                                  (try rw [show 0 * 4 = 0 from rfl] at hx597_3)
                                  (try rw [Addr.add_zero'] at hx597_3)
                                  replace p597 := eq_true p597
                                  replace q597 := eq_true q597
                                  have p598 : 0 ≤ ((ji87) : Int) := of_decide_eq_true (by first | (with_reducible assumption) | assumption)
                                  have q598 : (ji87) < (x0_3.length : Int) := of_decide_eq_true (by first | (with_reducible assumption) | assumption)
                                  obtain ⟨ad598, e598, hx598_0, hx598_1, hx598_2, hx598_3⟩ := at_T24 (Kd.V_reads' HO_0.out).2.2 (ji87) p598 q598
                                  obtain rfl : ad597 = ad598 := (by injection e598)
                                  replace p598 := eq_true p598
                                  replace q598 := eq_true q598
                                  have p599 : 0 ≤ ((ji87) : Int) := of_decide_eq_true (by first | (with_reducible assumption) | assumption)
                                  have q599 : (ji87) < (x0_3.length : Int) := of_decide_eq_true (by first | (with_reducible assumption) | assumption)
                                  obtain ⟨ad599, e599, hx599_0, hx599_1, hx599_2, hx599_3⟩ := at_T24 (Kd.V_reads' HO_0.out).2.2 (ji87) p599 q599
                                  obtain rfl : ad597 = ad599 := (by injection e599)
                                  replace p599 := eq_true p599
                                  replace q599 := eq_true q599
                                  refine start_ (n := 30) (S := fun w' => w'.cell? ⟨gb595, 0, none⟩ = some (.int .i64 ((rd_T24 t589 0).f0)) ∧ w'.cell? ⟨gb595, 1, none⟩ = some (.int .u32 ((rd_T24 t589 0).f1)) ∧ w'.cell? ⟨gb595, 2, none⟩ = some (.int .u32 ((rd_T24 t589 0).f2)) ∧ w'.cell? ⟨gb595, 3, none⟩ = some (.string ((rd_T24 t589 0).f3)) ∧ w'.cell? ⟨gb596, 0, none⟩ = some (.int .i64 ((rd_T24 t589 (ji82)).f0)) ∧ w'.cell? ⟨gb596, 1, none⟩ = some (.int .u32 ((rd_T24 t589 (ji82)).f1)) ∧ w'.cell? ⟨gb596, 2, none⟩ = some (.int .u32 ((rd_T24 t589 (ji82)).f2)) ∧ w'.cell? ⟨gb596, 3, none⟩ = some (.string ((rd_T24 t589 (ji82)).f3)) ∧ w'.cell? ad597 = some (.int .i64 ((rd_T24 x0_3 0).f0)) ∧ w'.cell? ⟨ad597.block, ad597.off + 1, none⟩ = some (.int .u32 ((rd_T24 x0_3 0).f1)) ∧ w'.cell? ⟨ad597.block, ad597.off + 2, none⟩ = some (.int .u32 ((rd_T24 x0_3 0).f2)) ∧ w'.cell? ⟨ad597.block, ad597.off + 3, none⟩ = some (.string ((rd_T24 x0_3 0).f3)) ∧ w'.cell? (ad597.add (((ji87)).toNat * 4)) = some (.int .i64 ((rd_T24 x0_3 (ji87)).f0)) ∧ w'.cell? ⟨(ad597.add (((ji87)).toNat * 4)).block, (ad597.add (((ji87)).toNat * 4)).off + 1, none⟩ = some (.int .u32 ((rd_T24 x0_3 (ji87)).f1)) ∧ w'.cell? ⟨(ad597.add (((ji87)).toNat * 4)).block, (ad597.add (((ji87)).toNat * 4)).off + 2, none⟩ = some (.int .u32 ((rd_T24 x0_3 (ji87)).f2)) ∧ w'.cell? ⟨(ad597.add (((ji87)).toNat * 4)).block, (ad597.add (((ji87)).toNat * 4)).off + 3, none⟩ = some (.string ((rd_T24 x0_3 (ji87)).f3)) ∧ w'.cell? (ad597.add (((ji87)).toNat * 4)) = some (.int .i64 ((rd_T24 x0_3 (ji87)).f0)) ∧ w'.cell? ⟨(ad597.add (((ji87)).toNat * 4)).block, (ad597.add (((ji87)).toNat * 4)).off + 1, none⟩ = some (.int .u32 ((rd_T24 x0_3 (ji87)).f1)) ∧ w'.cell? ⟨(ad597.add (((ji87)).toNat * 4)).block, (ad597.add (((ji87)).toNat * 4)).off + 2, none⟩ = some (.int .u32 ((rd_T24 x0_3 (ji87)).f2)) ∧ w'.cell? ⟨(ad597.add (((ji87)).toNat * 4)).block, (ad597.add (((ji87)).toNat * 4)).off + 3, none⟩ = some (.string ((rd_T24 x0_3 (ji87)).f3))) (ds := []) #[false, false, false, false, false, false, false, false, false, false, false, false, false, false, false, false, false, false, false, false, false, false, false, false, false, false, false, false, false, false] (by kernel_rfl) rfl rfl ⟨(blk_cell BK595.out 0).trans rfl, (blk_cell BK595.out 1).trans rfl, (blk_cell BK595.out 2).trans rfl, (blk_cell BK595.out 3).trans rfl, (blk_cell BK596.out 0).trans rfl, (blk_cell BK596.out 1).trans rfl, (blk_cell BK596.out 2).trans rfl, (blk_cell BK596.out 3).trans rfl, hx597_0, hx597_1, hx597_2, hx597_3, hx598_0, hx598_1, hx598_2, hx598_3, hx599_0, hx599_1, hx599_2, hx599_3⟩ (fun hHeld => ?_); refine with_tabW croftlaw46_TrackStraight.tab20 croftlaw46_TrackStraight.bits20 (fun HT_ HW_ => ?_)
                                  generalize w107.drew = w108 at HO_0 HO_3 HO591 BK595 BK596 HB hx597_0 hx597_1 hx597_2 hx597_3 hx598_0 hx598_1 hx598_2 hx598_3 hx599_0 hx599_1 hx599_2 hx599_3 hHeld ⊢
                                  refine pure_ (i := 1) (N := some 126) (v := ?_) (a' := ?_) #[false, true, false, false, false, false, false, false, false, false, false, false, false, false, false, false, false, false, false, false, false, false, false, false, false, false, false, false, false, false] rfl rfl (any_of HT_.out (by kernel_rfl)) (fun _ _ _ h => h) (Or.inl ⟨by rfl, ?_⟩) ?_ ?_
                                  rotate_left
                                  · intro w'
                                    go_simp
                                    with_reducible rfl
                                  rotate_left
                                  · simp only [Act.put, List.setIfInBounds_toArray, List.set_cons_zero, List.set_cons_succ, i64_w, i32_w]
                                    rfl
                                  refine pure_ (i := 2) (N := some 127) (v := ?_) (a' := ?_) #[false, true, true, false, false, false, false, false, false, false, false, false, false, false, false, false, false, false, false, false, false, false, false, false, false, false, false, false, false, false] rfl rfl (any_of HT_.out (by kernel_rfl)) (fun _ _ _ h => h) (Or.inl ⟨by rfl, ?_⟩) ?_ ?_
                                  rotate_left
                                  · intro w'
                                    go_simp
                                    with_reducible rfl
                                  rotate_left
                                  · simp only [Act.put, List.setIfInBounds_toArray, List.set_cons_zero, List.set_cons_succ, i64_w, i32_w]
                                    rfl
                                  refine take_ (i := 0) (N := some 125) (v := ?_) (a' := ?_) #[true, true, true, false, false, false, false, false, false, false, false, false, false, false, false, false, false, false, false, false, false, false, false, false, false, false, false, false, false, false] rfl rfl (take_ofW HT_.out HW_.out (by kernel_rfl)) (fun _ _ _ h => h) (Or.inl ⟨by rfl, ?_⟩) hHeld ?_ ?_
                                  rotate_left
                                  · rintro w' ⟨s0, s1, s2, s3, s4, s5, s6, s7, s8, s9, s10, s11, s12, s13, s14, s15, s16, s17, s18, s19⟩
                                    go_simp
                                    with_reducible rfl
                                  rotate_left
                                  · simp only [Act.put, List.setIfInBounds_toArray, List.set_cons_zero, List.set_cons_succ, i64_w, i32_w]
                                    rfl
                                  refine take_ (i := 3) (N := some 128) (v := ?_) (a' := ?_) #[true, true, true, true, false, false, false, false, false, false, false, false, false, false, false, false, false, false, false, false, false, false, false, false, false, false, false, false, false, false] rfl rfl (take_ofW HT_.out HW_.out (by kernel_rfl)) (fun _ _ _ h => h) (Or.inl ⟨by rfl, ?_⟩) hHeld ?_ ?_
                                  rotate_left
                                  · rintro w' ⟨s0, s1, s2, s3, s4, s5, s6, s7, s8, s9, s10, s11, s12, s13, s14, s15, s16, s17, s18, s19⟩
                                    go_simp
                                    with_reducible rfl
                                  rotate_left
                                  · simp only [Act.put, List.setIfInBounds_toArray, List.set_cons_zero, List.set_cons_succ, i64_w, i32_w]
                                    rfl
                                  refine pure_ (i := 4) (N := some 129) (v := ?_) (a' := ?_) #[true, true, true, true, true, false, false, false, false, false, false, false, false, false, false, false, false, false, false, false, false, false, false, false, false, false, false, false, false, false] rfl rfl (any_of HT_.out (by kernel_rfl)) (fun _ _ _ h => h) (Or.inl ⟨by rfl, ?_⟩) ?_ ?_
                                  rotate_left
                                  · intro w'
                                    go_simp
                                    with_reducible rfl
                                  rotate_left
                                  · simp only [Act.put, List.setIfInBounds_toArray, List.set_cons_zero, List.set_cons_succ, i64_w, i32_w]
                                    rfl
                                  refine pure_ (i := 5) (N := some 130) (v := ?_) (a' := ?_) #[true, true, true, true, true, true, false, false, false, false, false, false, false, false, false, false, false, false, false, false, false, false, false, false, false, false, false, false, false, false] rfl rfl (any_of HT_.out (by kernel_rfl)) (fun _ _ _ h => h) (Or.inl ⟨by rfl, ?_⟩) ?_ ?_
                                  rotate_left
                                  · intro w'
                                    go_simp
                                    with_reducible rfl
                                  rotate_left
                                  · simp only [Act.put, List.setIfInBounds_toArray, List.set_cons_zero, List.set_cons_succ, i64_w, i32_w]
                                    rfl
                                  refine pure_ (i := 6) (N := some 131) (v := ?_) (a' := ?_) #[true, true, true, true, true, true, true, false, false, false, false, false, false, false, false, false, false, false, false, false, false, false, false, false, false, false, false, false, false, false] rfl rfl (any_of HT_.out (by kernel_rfl)) (fun _ _ _ h => h) (Or.inl ⟨by rfl, ?_⟩) ?_ ?_
                                  rotate_left
                                  · intro w'
                                    go_simp
                                    with_reducible rfl
                                  rotate_left
                                  · simp only [Act.put, List.setIfInBounds_toArray, List.set_cons_zero, List.set_cons_succ, i64_w, i32_w]
                                    rfl
                                  refine pure_ (i := 8) (N := some 133) (v := ?_) (a' := ?_) #[true, true, true, true, true, true, true, false, true, false, false, false, false, false, false, false, false, false, false, false, false, false, false, false, false, false, false, false, false, false] rfl rfl (any_of HT_.out (by kernel_rfl)) (fun _ _ _ h => h) (Or.inl ⟨by rfl, ?_⟩) ?_ ?_
                                  rotate_left
                                  · intro w'
                                    go_simp
                                    with_reducible rfl
                                  rotate_left
                                  · simp only [Act.put, List.setIfInBounds_toArray, List.set_cons_zero, List.set_cons_succ, i64_w, i32_w]
                                    rfl
                                  refine pure_ (i := 9) (N := some 134) (v := ?_) (a' := ?_) #[true, true, true, true, true, true, true, false, true, true, false, false, false, false, false, false, false, false, false, false, false, false, false, false, false, false, false, false, false, false] rfl rfl (any_of HT_.out (by kernel_rfl)) (fun _ _ _ h => h) (Or.inl ⟨by rfl, ?_⟩) ?_ ?_
                                  rotate_left
                                  · intro w'
                                    go_simp
                                    with_reducible rfl
                                  rotate_left
                                  · simp only [Act.put, List.setIfInBounds_toArray, List.set_cons_zero, List.set_cons_succ, i64_w, i32_w]
                                    rfl
                                  refine pure_ (i := 10) (N := some 135) (v := ?_) (a' := ?_) #[true, true, true, true, true, true, true, false, true, true, true, false, false, false, false, false, false, false, false, false, false, false, false, false, false, false, false, false, false, false] rfl rfl (any_of HT_.out (by kernel_rfl)) (fun _ _ _ h => h) (Or.inl ⟨by rfl, ?_⟩) ?_ ?_
                                  rotate_left
                                  · intro w'
                                    go_simp
                                    with_reducible rfl
                                  rotate_left
                                  · simp only [Act.put, List.setIfInBounds_toArray, List.set_cons_zero, List.set_cons_succ, i64_w, i32_w]
                                    rfl
                                  refine pure_ (i := 11) (N := some 136) (v := ?_) (a' := ?_) #[true, true, true, true, true, true, true, false, true, true, true, true, false, false, false, false, false, false, false, false, false, false, false, false, false, false, false, false, false, false] rfl rfl (any_of HT_.out (by kernel_rfl)) (fun _ _ _ h => h) (Or.inl ⟨by rfl, ?_⟩) ?_ ?_
                                  rotate_left
                                  · intro w'
                                    go_simp
                                    with_reducible rfl
                                  rotate_left
                                  · simp only [Act.put, List.setIfInBounds_toArray, List.set_cons_zero, List.set_cons_succ, i64_w, i32_w]
                                    rfl
                                  refine pure_ (i := 12) (N := some 137) (v := ?_) (a' := ?_) #[true, true, true, true, true, true, true, false, true, true, true, true, true, false, false, false, false, false, false, false, false, false, false, false, false, false, false, false, false, false] rfl rfl (any_of HT_.out (by kernel_rfl)) (fun _ _ _ h => h) (Or.inl ⟨by rfl, ?_⟩) ?_ ?_
                                  rotate_left
                                  · intro w'
                                    go_simp
                                    with_reducible rfl
                                  rotate_left
                                  · simp only [Act.put, List.setIfInBounds_toArray, List.set_cons_zero, List.set_cons_succ, i64_w, i32_w]
                                    rfl
                                  refine pure_ (i := 13) (N := some 138) (v := ?_) (a' := ?_) #[true, true, true, true, true, true, true, false, true, true, true, true, true, true, false, false, false, false, false, false, false, false, false, false, false, false, false, false, false, false] rfl rfl (any_of HT_.out (by kernel_rfl)) (fun _ _ _ h => h) (Or.inl ⟨by rfl, ?_⟩) ?_ ?_
                                  rotate_left
                                  · intro w'
                                    go_simp
                                    with_reducible rfl
                                  rotate_left
                                  · simp only [Act.put, List.setIfInBounds_toArray, List.set_cons_zero, List.set_cons_succ, i64_w, i32_w]
                                    rfl
                                  refine take_ (i := 7) (N := some 132) (v := ?_) (a' := ?_) #[true, true, true, true, true, true, true, true, true, true, true, true, true, true, false, false, false, false, false, false, false, false, false, false, false, false, false, false, false, false] rfl rfl (take_ofW HT_.out HW_.out (by kernel_rfl)) (fun _ _ _ h => h) (Or.inl ⟨by rfl, ?_⟩) hHeld ?_ ?_
                                  rotate_left
                                  · rintro w' ⟨s0, s1, s2, s3, s4, s5, s6, s7, s8, s9, s10, s11, s12, s13, s14, s15, s16, s17, s18, s19⟩
                                    go_simp
                                    with_reducible rfl
                                  rotate_left
                                  · simp only [Act.put, List.setIfInBounds_toArray, List.set_cons_zero, List.set_cons_succ, i64_w, i32_w]
                                    rfl
                                  refine take_ (i := 14) (N := some 139) (v := ?_) (a' := ?_) #[true, true, true, true, true, true, true, true, true, true, true, true, true, true, true, false, false, false, false, false, false, false, false, false, false, false, false, false, false, false] rfl rfl (take_ofW HT_.out HW_.out (by kernel_rfl)) (fun _ _ _ h => h) (Or.inl ⟨by rfl, ?_⟩) hHeld ?_ ?_
                                  rotate_left
                                  · rintro w' ⟨s0, s1, s2, s3, s4, s5, s6, s7, s8, s9, s10, s11, s12, s13, s14, s15, s16, s17, s18, s19⟩
                                    go_simp
                                    with_reducible rfl
                                  rotate_left
                                  · simp only [Act.put, List.setIfInBounds_toArray, List.set_cons_zero, List.set_cons_succ, i64_w, i32_w]
                                    rfl
                                  refine pure_ (i := 15) (N := some 140) (v := ?_) (a' := ?_) #[true, true, true, true, true, true, true, true, true, true, true, true, true, true, true, true, false, false, false, false, false, false, false, false, false, false, false, false, false, false] rfl rfl (any_of HT_.out (by kernel_rfl)) (fun _ _ _ h => h) (Or.inl ⟨by rfl, ?_⟩) ?_ ?_
                                  rotate_left
                                  · intro w'
                                    go_simp
                                    with_reducible rfl
                                  rotate_left
                                  · simp only [Act.put, List.setIfInBounds_toArray, List.set_cons_zero, List.set_cons_succ, i64_w, i32_w]
                                    rfl
                                  refine pure_ (i := 16) (N := some 141) (v := ?_) (a' := ?_) #[true, true, true, true, true, true, true, true, true, true, true, true, true, true, true, true, true, false, false, false, false, false, false, false, false, false, false, false, false, false] rfl rfl (any_of HT_.out (by kernel_rfl)) (fun _ _ _ h => h) (Or.inl ⟨by rfl, ?_⟩) ?_ ?_
                                  rotate_left
                                  · intro w'
                                    go_simp
                                    with_reducible rfl
                                  rotate_left
                                  · simp only [Act.put, List.setIfInBounds_toArray, List.set_cons_zero, List.set_cons_succ, i64_w, i32_w]
                                    rfl
                                  refine pure_ (i := 17) (N := some 142) (v := ?_) (a' := ?_) #[true, true, true, true, true, true, true, true, true, true, true, true, true, true, true, true, true, true, false, false, false, false, false, false, false, false, false, false, false, false] rfl rfl (any_of HT_.out (by kernel_rfl)) (fun _ _ _ h => h) (Or.inl ⟨by rfl, ?_⟩) ?_ ?_
                                  rotate_left
                                  · intro w'
                                    go_simp
                                    with_reducible rfl
                                  rotate_left
                                  · simp only [Act.put, List.setIfInBounds_toArray, List.set_cons_zero, List.set_cons_succ, i64_w, i32_w]
                                    rfl
                                  refine pure_ (i := 18) (N := some 143) (v := ?_) (a' := ?_) #[true, true, true, true, true, true, true, true, true, true, true, true, true, true, true, true, true, true, true, false, false, false, false, false, false, false, false, false, false, false] rfl rfl (any_of HT_.out (by kernel_rfl)) (fun _ _ _ h => h) (Or.inl ⟨by rfl, ?_⟩) ?_ ?_
                                  rotate_left
                                  · intro w'
                                    go_simp
                                    with_reducible rfl
                                  rotate_left
                                  · simp only [Act.put, List.setIfInBounds_toArray, List.set_cons_zero, List.set_cons_succ, i64_w, i32_w]
                                    rfl
                                  refine pure_ (i := 20) (N := some 145) (v := ?_) (a' := ?_) #[true, true, true, true, true, true, true, true, true, true, true, true, true, true, true, true, true, true, true, false, true, false, false, false, false, false, false, false, false, false] rfl rfl (any_of HT_.out (by kernel_rfl)) (fun _ _ _ h => h) (Or.inl ⟨by rfl, ?_⟩) ?_ ?_
                                  rotate_left
                                  · intro w'
                                    go_simp
                                    with_reducible rfl
                                  rotate_left
                                  · simp only [Act.put, List.setIfInBounds_toArray, List.set_cons_zero, List.set_cons_succ, i64_w, i32_w]
                                    rfl
                                  refine pure_ (i := 21) (N := some 146) (v := ?_) (a' := ?_) #[true, true, true, true, true, true, true, true, true, true, true, true, true, true, true, true, true, true, true, false, true, true, false, false, false, false, false, false, false, false] rfl rfl (any_of HT_.out (by kernel_rfl)) (fun _ _ _ h => h) (Or.inl ⟨by rfl, ?_⟩) ?_ ?_
                                  rotate_left
                                  · intro w'
                                    go_simp
                                    with_reducible rfl
                                  rotate_left
                                  · simp only [Act.put, List.setIfInBounds_toArray, List.set_cons_zero, List.set_cons_succ, i64_w, i32_w]
                                    rfl
                                  refine pure_ (i := 22) (N := some 147) (v := ?_) (a' := ?_) #[true, true, true, true, true, true, true, true, true, true, true, true, true, true, true, true, true, true, true, false, true, true, true, false, false, false, false, false, false, false] rfl rfl (any_of HT_.out (by kernel_rfl)) (fun _ _ _ h => h) (Or.inl ⟨by rfl, ?_⟩) ?_ ?_
                                  rotate_left
                                  · intro w'
                                    go_simp
                                    with_reducible rfl
                                  rotate_left
                                  · simp only [Act.put, List.setIfInBounds_toArray, List.set_cons_zero, List.set_cons_succ, i64_w, i32_w]
                                    rfl
                                  refine pure_ (i := 23) (N := some 148) (v := ?_) (a' := ?_) #[true, true, true, true, true, true, true, true, true, true, true, true, true, true, true, true, true, true, true, false, true, true, true, true, false, false, false, false, false, false] rfl rfl (any_of HT_.out (by kernel_rfl)) (fun _ _ _ h => h) (Or.inl ⟨by rfl, ?_⟩) ?_ ?_
                                  rotate_left
                                  · intro w'
                                    go_simp
                                    with_reducible rfl
                                  rotate_left
                                  · simp only [Act.put, List.setIfInBounds_toArray, List.set_cons_zero, List.set_cons_succ, i64_w, i32_w]
                                    rfl
                                  refine pure_ (i := 24) (N := some 149) (v := ?_) (a' := ?_) #[true, true, true, true, true, true, true, true, true, true, true, true, true, true, true, true, true, true, true, false, true, true, true, true, true, false, false, false, false, false] rfl rfl (any_of HT_.out (by kernel_rfl)) (fun _ _ _ h => h) (Or.inl ⟨by rfl, ?_⟩) ?_ ?_
                                  rotate_left
                                  · intro w'
                                    go_simp
                                    with_reducible rfl
                                  rotate_left
                                  · simp only [Act.put, List.setIfInBounds_toArray, List.set_cons_zero, List.set_cons_succ, i64_w, i32_w]
                                    rfl
                                  refine pure_ (i := 25) (N := some 150) (v := ?_) (a' := ?_) #[true, true, true, true, true, true, true, true, true, true, true, true, true, true, true, true, true, true, true, false, true, true, true, true, true, true, false, false, false, false] rfl rfl (any_of HT_.out (by kernel_rfl)) (fun _ _ _ h => h) (Or.inl ⟨by rfl, ?_⟩) ?_ ?_
                                  rotate_left
                                  · intro w'
                                    go_simp
                                    with_reducible rfl
                                  rotate_left
                                  · simp only [Act.put, List.setIfInBounds_toArray, List.set_cons_zero, List.set_cons_succ, i64_w, i32_w]
                                    rfl
                                  refine take_ (i := 19) (N := some 144) (v := ?_) (a' := ?_) #[true, true, true, true, true, true, true, true, true, true, true, true, true, true, true, true, true, true, true, true, true, true, true, true, true, true, false, false, false, false] rfl rfl (take_ofW HT_.out HW_.out (by kernel_rfl)) (fun _ _ _ h => h) (Or.inl ⟨by rfl, ?_⟩) hHeld ?_ ?_
                                  rotate_left
                                  · rintro w' ⟨s0, s1, s2, s3, s4, s5, s6, s7, s8, s9, s10, s11, s12, s13, s14, s15, s16, s17, s18, s19⟩
                                    go_simp
                                    with_reducible rfl
                                  rotate_left
                                  · simp only [Act.put, List.setIfInBounds_toArray, List.set_cons_zero, List.set_cons_succ, i64_w, i32_w]
                                    rfl
                                  refine take_ (i := 26) (N := some 151) (v := ?_) (a' := ?_) #[true, true, true, true, true, true, true, true, true, true, true, true, true, true, true, true, true, true, true, true, true, true, true, true, true, true, true, false, false, false] rfl rfl (take_ofW HT_.out HW_.out (by kernel_rfl)) (fun _ _ _ h => h) (Or.inl ⟨by rfl, ?_⟩) hHeld ?_ ?_
                                  rotate_left
                                  · rintro w' ⟨s0, s1, s2, s3, s4, s5, s6, s7, s8, s9, s10, s11, s12, s13, s14, s15, s16, s17, s18, s19⟩
                                    go_simp
                                    with_reducible rfl
                                  rotate_left
                                  · simp only [Act.put, List.setIfInBounds_toArray, List.set_cons_zero, List.set_cons_succ, i64_w, i32_w]
                                    rfl
                                  refine pure_ (i := 27) (N := some 152) (v := ?_) (a' := ?_) #[true, true, true, true, true, true, true, true, true, true, true, true, true, true, true, true, true, true, true, true, true, true, true, true, true, true, true, true, false, false] rfl rfl (any_of HT_.out (by kernel_rfl)) (fun _ _ _ h => h) (Or.inl ⟨by rfl, ?_⟩) ?_ ?_
                                  rotate_left
                                  · intro w'
                                    go_simp
                                    with_reducible rfl
                                  rotate_left
                                  · simp only [Act.put, List.setIfInBounds_toArray, List.set_cons_zero, List.set_cons_succ, i64_w, i32_w]
                                    rfl
                                  refine pure_ (i := 28) (N := some 153) (v := ?_) (a' := ?_) #[true, true, true, true, true, true, true, true, true, true, true, true, true, true, true, true, true, true, true, true, true, true, true, true, true, true, true, true, true, false] rfl rfl (any_of HT_.out (by kernel_rfl)) (fun _ _ _ h => h) (Or.inl ⟨by rfl, ?_⟩) ?_ ?_
                                  rotate_left
                                  · intro w'
                                    go_simp
                                    with_reducible rfl
                                  rotate_left
                                  · simp only [Act.put, List.setIfInBounds_toArray, List.set_cons_zero, List.set_cons_succ, i64_w, i32_w]
                                    rfl
                                  refine pure_ (i := 29) (N := some 2) (v := ?_) (a' := ?_) #[true, true, true, true, true, true, true, true, true, true, true, true, true, true, true, true, true, true, true, true, true, true, true, true, true, true, true, true, true, true] rfl rfl (any_of HT_.out (by kernel_rfl)) (fun _ _ _ h => h) (Or.inl ⟨by rfl, ?_⟩) ?_ ?_
                                  rotate_left
                                  · intro w'
                                    go_simp
                                    with_reducible rfl
                                  rotate_left
                                  · simp only [Act.put, List.setIfInBounds_toArray, List.set_cons_zero, List.set_cons_succ, i64_w, i32_w]
                                    rfl
                                  refine done_ (done_of HT_.out (by kernel_rfl)) ?_
                                  try go_wp2
                                  go_ret
                                  exact ⟨by first | rfl | (simp [errW_none, errW_some] <;> rfl) | (simp only [← hji82, ← hji87]; first | rfl | (simp [errW_none, errW_some] <;> rfl)) | (simp [*, errW_none, errW_some] <;> rfl), by repeat (first | (with_reducible first | exact HB.out | apply below_alloc | apply pw_below_drewN | apply below_drew1 | refine below_set ?_ GE595.out | refine below_set ?_ GE596.out) | exact HB.out)⟩
                                · rw [if_neg c90] at H
                                  have c90b0 : (((rd_T24 t589 (ji82)).f1) == ((rd_T24 x0_3 (ji87)).f1)) = false := beq_eq_false_iff_ne.mpr c90
                                  have c90b1 : (((rd_T24 t589 (ji82)).f1) != ((rd_T24 x0_3 (ji87)).f1)) = true := bne_iff_ne.mpr c90
                                  obtain rfl := Option.some.inj H
                                  exact absurd HT.out (by simp)
                              · rw [if_neg c89] at H
                                exact absurd H (by simp)
                            · rw [if_neg c88] at H
                              exact absurd H (by simp)
                          · rw [if_neg c86] at H
                            have c86b0 : (((rd_T24 t589 0).f0) == ((rd_T24 x0_3 0).f0) && (((rd_T24 t589 0).f1) == ((rd_T24 x0_3 0).f1) && (((rd_T24 t589 0).f2) == ((rd_T24 x0_3 0).f2) && ((((rd_T24 t589 0).f3).toList) == (((rd_T24 x0_3 0).f3).toList))))) = false := by simpa using c86
                            (try (have c86b1 : decide (((rd_T24 t589 0).f0) = ((rd_T24 x0_3 0).f0) && (((rd_T24 t589 0).f1) == ((rd_T24 x0_3 0).f1) && (((rd_T24 t589 0).f2) == ((rd_T24 x0_3 0).f2) && ((((rd_T24 t589 0).f3).toList) == (((rd_T24 x0_3 0).f3).toList))))) = false := by simpa using c86))
                            (try (have c86b2 : (((rd_T24 t589 0).f0) == ((rd_T24 x0_3 0).f0) && (((rd_T24 t589 0).f1) == ((rd_T24 x0_3 0).f1) && (((rd_T24 t589 0).f2) == ((rd_T24 x0_3 0).f2) && ((((rd_T24 t589 0).f3).toList) == (((rd_T24 x0_3 0).f3).toList))))) = false := by simpa using c86))
                            (try (have c86b3 : ¬ (((rd_T24 t589 0).f0) = ((rd_T24 x0_3 0).f0) && (((rd_T24 t589 0).f1) == ((rd_T24 x0_3 0).f1) && (((rd_T24 t589 0).f2) == ((rd_T24 x0_3 0).f2) && ((((rd_T24 t589 0).f3).toList) == (((rd_T24 x0_3 0).f3).toList))))) := by simpa using c86))
                            clear c86
                            obtain rfl := Option.some.inj H
                            exact absurd HT.out (by simp)
                        · rw [if_neg c85] at H
                          exact absurd H (by simp)
                      · rw [if_neg c84] at H
                        exact absurd H (by simp)
                    · rw [if_neg c83] at H
                      exact absurd H (by simp)
                  · rw [if_neg c81] at H
                    exact absurd H (by simp)
              · replace c75 := Bool.eq_false_iff.mpr c75
                subst c75
                have H1 : (some false) = some r := by rw [if_neg (show ¬ (false = true) by decide)] at H; exact H
                clear H
                have H := H1
                clear H1
                obtain rfl := Option.some.inj H
                exact absurd HT.out (by simp)
  · replace c3 := Bool.eq_false_iff.mpr c3
    subst c3
    have H1 : (some false) = some r := by rw [if_neg (show ¬ (false = true) by decide)] at H; exact H
    clear H
    have H := H1
    clear H1
    obtain rfl := Option.some.inj H
    exact absurd HT.out (by simp)

end Go.Proofs.Ytgepbfcaimejmaa.PA
