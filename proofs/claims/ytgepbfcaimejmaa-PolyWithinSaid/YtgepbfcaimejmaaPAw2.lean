-- Printed by a program of this session (wip/tools), out of the translation: Lean checks it.
import Derived.Test.YtgepbfcaimejmaaPAx0
import Derived.Test.YtgepbfcaimejmaaPAx9
import Derived.Test.YtgepbfcaimejmaaPAx10
import Derived.Test.YtgepbfcaimejmaaPAw1
import Derived.Test.YtgepbfcaimejmaaOnA
import Derived.Test.YtgepbfcaimejmaaWithinA
namespace Go.Proofs.Ytgepbfcaimejmaa.PA
open Go.RowKit Go.Proofs.YtgepbfcaimejmaaW.PrintWords Go.Proofs.YtgepbfcaimejmaaW.PrintLast Go.Proofs.YtgepbfcaimejmaaW.PrintMore
attribute [local go_sem] max2_int min2_int max_two min_two max_three min_three max_four min_four   -- for this text's walks alone
set_option linter.unusedVariables false
set_option linter.unusedSimpArgs false

/-! ### croftlaw34_PolyWithin: function 8 -/
mutual
def croftlaw34_PolyWithin.l0 : Nat → List (S24) → Bool → Int → Int → Int → Int → ByteArray → Option (Bool)
  | 0, _, _, _, _, _, _, _ => none
  | k + 1, x0, x6, x7, x274000, x274001, x274002, x274003 => if x7 < (x0.length : Int) then (if 0 ≤ x7 then (if (x0.length : Int) = 0 then (none) else (if 0 ≤ (Int.tmod (wrap64 (x7 + 1)) (x0.length : Int)) then (if (Int.tmod (wrap64 (x7 + 1)) (x0.length : Int)) < (x0.length : Int) then (if ((rd_T24 x0 x7).f2) ≤ x274002 then (croftlaw34_PolyWithin.j1 k x0 x6 x7 (decide (x274002 < ((rd_T24 x0 (Int.tmod (wrap64 (x7 + 1)) (x0.length : Int))).f2))) x274000 x274001 x274002 x274003 ((rd_T24 x0 x7).f0) ((rd_T24 x0 x7).f1) ((rd_T24 x0 x7).f2) ((rd_T24 x0 x7).f3) ((rd_T24 x0 (Int.tmod (wrap64 (x7 + 1)) (x0.length : Int))).f0) ((rd_T24 x0 (Int.tmod (wrap64 (x7 + 1)) (x0.length : Int))).f1) ((rd_T24 x0 (Int.tmod (wrap64 (x7 + 1)) (x0.length : Int))).f2) ((rd_T24 x0 (Int.tmod (wrap64 (x7 + 1)) (x0.length : Int))).f3)) else (croftlaw34_PolyWithin.j1 k x0 x6 x7 false x274000 x274001 x274002 x274003 ((rd_T24 x0 x7).f0) ((rd_T24 x0 x7).f1) ((rd_T24 x0 x7).f2) ((rd_T24 x0 x7).f3) ((rd_T24 x0 (Int.tmod (wrap64 (x7 + 1)) (x0.length : Int))).f0) ((rd_T24 x0 (Int.tmod (wrap64 (x7 + 1)) (x0.length : Int))).f1) ((rd_T24 x0 (Int.tmod (wrap64 (x7 + 1)) (x0.length : Int))).f2) ((rd_T24 x0 (Int.tmod (wrap64 (x7 + 1)) (x0.length : Int))).f3))) else (none)) else (none))) else (none)) else ((croftlaw34_on.f k x0 x274000 x274001 x274002 x274003).bind fun t274 => ((poly_On.f k x0 x274001 x274002).bind fun t275 => (if (t275 == t274) = true then ((poly_Within.f k x0 x274001 x274002).bind fun t276 => (if t274 = true then (some (t276 == true)) else (some (t276 == x6)))) else (some false))))
def croftlaw34_PolyWithin.j1 : Nat → List (S24) → Bool → Int → Bool → Int → Int → Int → ByteArray → Int → Int → Int → ByteArray → Int → Int → Int → ByteArray → Option (Bool)
  | 0, _, _, _, _, _, _, _, _, _, _, _, _, _, _, _, _ => none
  | k + 1, x0, x6, x7, x10, x274000, x274001, x274002, x274003, x280000, x280001, x280002, x280003, x281000, x281001, x281002, x281003 => if x281002 ≤ x274002 then (croftlaw34_PolyWithin.j2 k x0 x6 x7 x10 (decide (x274002 < x280002)) x274000 x274001 x274002 x274003 x280000 x280001 x280002 x280003 x281000 x281001 x281002 x281003) else (croftlaw34_PolyWithin.j2 k x0 x6 x7 x10 false x274000 x274001 x274002 x274003 x280000 x280001 x280002 x280003 x281000 x281001 x281002 x281003)
def croftlaw34_PolyWithin.j2 : Nat → List (S24) → Bool → Int → Bool → Bool → Int → Int → Int → ByteArray → Int → Int → Int → ByteArray → Int → Int → Int → ByteArray → Option (Bool)
  | 0, _, _, _, _, _, _, _, _, _, _, _, _, _, _, _, _, _ => none
  | k + 1, x0, x6, x7, x10, x11, x274000, x274001, x274002, x274003, x280000, x280001, x280002, x280003, x281000, x281001, x281002, x281003 => if x10 = true then ((croftlaw34_turn.f x280000 x280001 x280002 x280003 x281000 x281001 x281002 x281003 x274000 x274001 x274002 x274003).bind fun t281 => (if t281 > 0 then (croftlaw34_PolyWithin.l0 k x0 (!x6) (wrap64 (x7 + 1)) x274000 x274001 x274002 x274003) else (if x11 = true then ((croftlaw34_turn.f x280000 x280001 x280002 x280003 x281000 x281001 x281002 x281003 x274000 x274001 x274002 x274003).bind fun t282 => (if t282 < 0 then (croftlaw34_PolyWithin.l0 k x0 (!x6) (wrap64 (x7 + 1)) x274000 x274001 x274002 x274003) else (croftlaw34_PolyWithin.l0 k x0 x6 (wrap64 (x7 + 1)) x274000 x274001 x274002 x274003))) else (croftlaw34_PolyWithin.l0 k x0 x6 (wrap64 (x7 + 1)) x274000 x274001 x274002 x274003)))) else (if x11 = true then ((croftlaw34_turn.f x280000 x280001 x280002 x280003 x281000 x281001 x281002 x281003 x274000 x274001 x274002 x274003).bind fun t283 => (if t283 < 0 then (croftlaw34_PolyWithin.l0 k x0 (!x6) (wrap64 (x7 + 1)) x274000 x274001 x274002 x274003) else (croftlaw34_PolyWithin.l0 k x0 x6 (wrap64 (x7 + 1)) x274000 x274001 x274002 x274003))) else (croftlaw34_PolyWithin.l0 k x0 x6 (wrap64 (x7 + 1)) x274000 x274001 x274002 x274003))
end
def croftlaw34_PolyWithin.f (k : Nat) (l0 : List (S24)) (a1_0 : Int) (a1_1 : Int) (a1_2 : Int) (a1_3 : ByteArray) : Option (Bool) := (croftlaw34_alive.f k).bind fun t262 => (if t262 = true then ((croftlaw34_cut.f k l0).bind fun t263 => ((croftlaw34_cut.f k (([(⟨a1_0, a1_1, a1_2, a1_3⟩ : S24)] : List (S24)))).bind fun t269 => (if 0 < (t269.length : Int) then (croftlaw34_PolyWithin.l0 k t263 false 0 ((rd_T24 t269 0).f0) ((rd_T24 t269 0).f1) ((rd_T24 t269 0).f2) ((rd_T24 t269 0).f3)) else (none)))) else (some false))
theorem croftlaw34_PolyWithin.mono_l : ∀ k, (∀ y0 y1 y2 y3 y4 y5 y6, LeO (croftlaw34_PolyWithin.l0 k y0 y1 y2 y3 y4 y5 y6) (croftlaw34_PolyWithin.l0 (k + 1) y0 y1 y2 y3 y4 y5 y6)) ∧ (∀ y0 y1 y2 y3 y4 y5 y6 y7 y8 y9 y10 y11 y12 y13 y14 y15, LeO (croftlaw34_PolyWithin.j1 k y0 y1 y2 y3 y4 y5 y6 y7 y8 y9 y10 y11 y12 y13 y14 y15) (croftlaw34_PolyWithin.j1 (k + 1) y0 y1 y2 y3 y4 y5 y6 y7 y8 y9 y10 y11 y12 y13 y14 y15)) ∧ (∀ y0 y1 y2 y3 y4 y5 y6 y7 y8 y9 y10 y11 y12 y13 y14 y15 y16, LeO (croftlaw34_PolyWithin.j2 k y0 y1 y2 y3 y4 y5 y6 y7 y8 y9 y10 y11 y12 y13 y14 y15 y16) (croftlaw34_PolyWithin.j2 (k + 1) y0 y1 y2 y3 y4 y5 y6 y7 y8 y9 y10 y11 y12 y13 y14 y15 y16))
  | 0 => ⟨fun _ _ _ _ _ _ _ r h => by simp [croftlaw34_PolyWithin.l0] at h, fun _ _ _ _ _ _ _ _ _ _ _ _ _ _ _ _ r h => by simp [croftlaw34_PolyWithin.j1] at h, fun _ _ _ _ _ _ _ _ _ _ _ _ _ _ _ _ _ r h => by simp [croftlaw34_PolyWithin.j2] at h⟩
  | k + 1 => by
    obtain ⟨ih0, ih1, ih2⟩ := croftlaw34_PolyWithin.mono_l k
    refine ⟨?_, ?_, ?_⟩
    · intro y0 y1 y2 y3 y4 y5 y6
      unfold croftlaw34_PolyWithin.l0
      repeat' first
      | (with_reducible exact ih0 _ _ _ _ _ _ _)
      | (with_reducible exact ih1 _ _ _ _ _ _ _ _ _ _ _ _ _ _ _ _)
      | (with_reducible exact ih2 _ _ _ _ _ _ _ _ _ _ _ _ _ _ _ _ _)
      | (with_reducible exact croftlaw34_alive.mono _)
      | (with_reducible exact croftlaw34_cut.mono _ _)
      | (with_reducible exact croftlaw34_on.mono _ _ _ _ _ _)
      | (with_reducible exact poly_On.mono _ _ _ _)
      | (with_reducible exact poly_Within.mono _ _ _ _)
      | (with_reducible exact LeO.refl _)
      | (with_reducible exact LeO.none _)
      | (with_reducible refine LeO.ite ?_ ?_)
      | (with_reducible refine LeO.bind ?_ (fun _ => ?_))
      | exact ih0 _ _ _ _ _ _ _
      | exact ih1 _ _ _ _ _ _ _ _ _ _ _ _ _ _ _ _
      | exact ih2 _ _ _ _ _ _ _ _ _ _ _ _ _ _ _ _ _
      | exact croftlaw34_alive.mono _
      | exact croftlaw34_cut.mono _ _
      | exact croftlaw34_on.mono _ _ _ _ _ _
      | exact poly_On.mono _ _ _ _
      | exact poly_Within.mono _ _ _ _
      | exact LeO.none _
      | refine LeO.ite ?_ ?_
      | refine LeO.bind ?_ (fun _ => ?_)
    · intro y0 y1 y2 y3 y4 y5 y6 y7 y8 y9 y10 y11 y12 y13 y14 y15
      unfold croftlaw34_PolyWithin.j1
      repeat' first
      | (with_reducible exact ih0 _ _ _ _ _ _ _)
      | (with_reducible exact ih1 _ _ _ _ _ _ _ _ _ _ _ _ _ _ _ _)
      | (with_reducible exact ih2 _ _ _ _ _ _ _ _ _ _ _ _ _ _ _ _ _)
      | (with_reducible exact croftlaw34_alive.mono _)
      | (with_reducible exact croftlaw34_cut.mono _ _)
      | (with_reducible exact croftlaw34_on.mono _ _ _ _ _ _)
      | (with_reducible exact poly_On.mono _ _ _ _)
      | (with_reducible exact poly_Within.mono _ _ _ _)
      | (with_reducible exact LeO.refl _)
      | (with_reducible exact LeO.none _)
      | (with_reducible refine LeO.ite ?_ ?_)
      | (with_reducible refine LeO.bind ?_ (fun _ => ?_))
      | exact ih0 _ _ _ _ _ _ _
      | exact ih1 _ _ _ _ _ _ _ _ _ _ _ _ _ _ _ _
      | exact ih2 _ _ _ _ _ _ _ _ _ _ _ _ _ _ _ _ _
      | exact croftlaw34_alive.mono _
      | exact croftlaw34_cut.mono _ _
      | exact croftlaw34_on.mono _ _ _ _ _ _
      | exact poly_On.mono _ _ _ _
      | exact poly_Within.mono _ _ _ _
      | exact LeO.none _
      | refine LeO.ite ?_ ?_
      | refine LeO.bind ?_ (fun _ => ?_)
    · intro y0 y1 y2 y3 y4 y5 y6 y7 y8 y9 y10 y11 y12 y13 y14 y15 y16
      unfold croftlaw34_PolyWithin.j2
      repeat' first
      | (with_reducible exact ih0 _ _ _ _ _ _ _)
      | (with_reducible exact ih1 _ _ _ _ _ _ _ _ _ _ _ _ _ _ _ _)
      | (with_reducible exact ih2 _ _ _ _ _ _ _ _ _ _ _ _ _ _ _ _ _)
      | (with_reducible exact croftlaw34_alive.mono _)
      | (with_reducible exact croftlaw34_cut.mono _ _)
      | (with_reducible exact croftlaw34_on.mono _ _ _ _ _ _)
      | (with_reducible exact poly_On.mono _ _ _ _)
      | (with_reducible exact poly_Within.mono _ _ _ _)
      | (with_reducible exact LeO.refl _)
      | (with_reducible exact LeO.none _)
      | (with_reducible refine LeO.ite ?_ ?_)
      | (with_reducible refine LeO.bind ?_ (fun _ => ?_))
      | exact ih0 _ _ _ _ _ _ _
      | exact ih1 _ _ _ _ _ _ _ _ _ _ _ _ _ _ _ _
      | exact ih2 _ _ _ _ _ _ _ _ _ _ _ _ _ _ _ _ _
      | exact croftlaw34_alive.mono _
      | exact croftlaw34_cut.mono _ _
      | exact croftlaw34_on.mono _ _ _ _ _ _
      | exact poly_On.mono _ _ _ _
      | exact poly_Within.mono _ _ _ _
      | exact LeO.none _
      | refine LeO.ite ?_ ?_
      | refine LeO.bind ?_ (fun _ => ?_)
theorem croftlaw34_PolyWithin.mono : ∀ a0 a1 a2 a3 a4 k, LeO (croftlaw34_PolyWithin.f k a0 a1 a2 a3 a4) (croftlaw34_PolyWithin.f (k + 1) a0 a1 a2 a3 a4) := by
  intro a0 a1 a2 a3 a4 k
  obtain ⟨ih0, ih1, ih2⟩ := croftlaw34_PolyWithin.mono_l k
  unfold croftlaw34_PolyWithin.f
  repeat' first
      | (with_reducible exact ih0 _ _ _ _ _ _ _)
      | (with_reducible exact ih1 _ _ _ _ _ _ _ _ _ _ _ _ _ _ _ _)
      | (with_reducible exact ih2 _ _ _ _ _ _ _ _ _ _ _ _ _ _ _ _ _)
      | (with_reducible exact croftlaw34_alive.mono _)
      | (with_reducible exact croftlaw34_cut.mono _ _)
      | (with_reducible exact croftlaw34_on.mono _ _ _ _ _ _)
      | (with_reducible exact poly_On.mono _ _ _ _)
      | (with_reducible exact poly_Within.mono _ _ _ _)
      | (with_reducible exact LeO.refl _)
      | (with_reducible exact LeO.none _)
      | (with_reducible refine LeO.ite ?_ ?_)
      | (with_reducible refine LeO.bind ?_ (fun _ => ?_))
      | exact ih0 _ _ _ _ _ _ _
      | exact ih1 _ _ _ _ _ _ _ _ _ _ _ _ _ _ _ _
      | exact ih2 _ _ _ _ _ _ _ _ _ _ _ _ _ _ _ _ _
      | exact croftlaw34_alive.mono _
      | exact croftlaw34_cut.mono _ _
      | exact croftlaw34_on.mono _ _ _ _ _ _
      | exact poly_On.mono _ _ _ _
      | exact poly_Within.mono _ _ _ _
      | exact LeO.none _
      | refine LeO.ite ?_ ?_
      | refine LeO.bind ?_ (fun _ => ?_)
def croftlaw34_PolyWithin.T9 : Bool × List (List Nat × List Nat) := (true, [([], []), ([], []), ([0, 1], [0, 1]), ([2], [2]), ([], []), ([], []), ([5], [5]), ([], []), ([7], [7]), ([6, 8], [6, 8]), ([4, 9], [4, 9]), ([10], [10]), ([], []), ([], []), ([12, 3, 0, 1, 2, 3, 12, 13], [3, 12]), ([13, 11, 14, 0, 1, 2, 3, 4, 5, 6, 7, 8, 9, 10, 11, 12, 13, 14], [11, 13])])
def croftlaw34_PolyWithin.B9 : List Nat := [0, 0, 3, 7, 0, 0, 32, 0, 128, 480, 1008, 2032, 0, 0, 12303, 32767]
theorem croftlaw34_PolyWithin.tab9 : rtab .any (opsOf Try.f8 9) = croftlaw34_PolyWithin.T9 := by kernel_rfl
theorem croftlaw34_PolyWithin.bits9 : waitsOk croftlaw34_PolyWithin.T9.2 croftlaw34_PolyWithin.B9 = true := by kernel_rfl
set_option maxHeartbeats 8000000 in
set_option maxRecDepth 100000 in
theorem croftlaw34_PolyWithin.calls (k : Nat) (A0 : Option Addr) (c0 : Nat) (l0 : List (S24)) (a1_0 : Int) (a1_1 : Int) (a1_2 : Int) (a1_3 : ByteArray) (r : Bool) (w : World) (hr0 : Kd.C k24 w A0 l0.length l0) (hc0 : l0.length ≤ c0) (hT : r = true) (h : croftlaw34_PolyWithin.f k l0 a1_0 a1_1 a1_2 a1_3 = some r) :
    Calls Try.prog 8 #[.slice A0 l0.length c0, .agg #[.int .i64 a1_0, .int .u32 a1_1, .int .u32 a1_2, .string a1_3]] w fun e w' => e = .returned (.bool r) ∧ Below w.heap.size w w' := by
  have hu24 := Try.underlying24
  have HT := Aside0.mk hT
  clear hT
  have HR0 := Aside0.mk hr0
  have HC0 := Aside0.mk hc0
  clear hr0 hc0
  have HB := Aside0.mk (Below.refl w.heap.size w)
  have H : ((croftlaw34_alive.f k).bind fun t262 => (if t262 = true then ((croftlaw34_cut.f k l0).bind fun t263 => ((croftlaw34_cut.f k (([(⟨a1_0, a1_1, a1_2, a1_3⟩ : S24)] : List (S24)))).bind fun t269 => (if 0 < (t269.length : Int) then (croftlaw34_PolyWithin.l0 k t263 false 0 ((rd_T24 t269 0).f0) ((rd_T24 t269 0).f1) ((rd_T24 t269 0).f2) ((rd_T24 t269 0).f3)) else (none)))) else (some false))) = some r := h
  clear h
  replace H := Option.bind_eq_some_iff.mp H
  obtain ⟨t262, A30, H⟩ := H
  replace H : (if t262 = true then ((croftlaw34_cut.f k l0).bind fun t263 => ((croftlaw34_cut.f k (([(⟨a1_0, a1_1, a1_2, a1_3⟩ : S24)] : List (S24)))).bind fun t269 => (if 0 < (t269.length : Int) then (croftlaw34_PolyWithin.l0 k t263 false 0 ((rd_T24 t269 0).f0) ((rd_T24 t269 0).f1) ((rd_T24 t269 0).f2) ((rd_T24 t269 0).f3)) else (none)))) else (some false)) = some r := H
  have A3 := Aside0.mk A30
  clear A30
  by_cases c4 : t262 = true
  · subst c4
    have H1 : ((croftlaw34_cut.f k l0).bind fun t263 => ((croftlaw34_cut.f k (([(⟨a1_0, a1_1, a1_2, a1_3⟩ : S24)] : List (S24)))).bind fun t269 => (if 0 < (t269.length : Int) then (croftlaw34_PolyWithin.l0 k t263 false 0 ((rd_T24 t269 0).f0) ((rd_T24 t269 0).f1) ((rd_T24 t269 0).f2) ((rd_T24 t269 0).f3)) else (none)))) = some r := by rw [if_pos rfl] at H; exact H
    clear H
    have H := H1
    clear H1
    replace H := Option.bind_eq_some_iff.mp H
    obtain ⟨t263, A50, H⟩ := H
    replace H : ((croftlaw34_cut.f k (([(⟨a1_0, a1_1, a1_2, a1_3⟩ : S24)] : List (S24)))).bind fun t269 => (if 0 < (t269.length : Int) then (croftlaw34_PolyWithin.l0 k t263 false 0 ((rd_T24 t269 0).f0) ((rd_T24 t269 0).f1) ((rd_T24 t269 0).f2) ((rd_T24 t269 0).f3)) else (none))) = some r := H
    have A5 := Aside0.mk A50
    clear A50
    obtain ⟨y266, hy266⟩ : ∃ y_ : List (S24), y_ = (([(⟨a1_0, a1_1, a1_2, a1_3⟩ : S24)] : List (S24))) := ⟨_, rfl⟩
    replace H : ((croftlaw34_cut.f k y266).bind fun t269 => (if 0 < (t269.length : Int) then (croftlaw34_PolyWithin.l0 k t263 false 0 ((rd_T24 t269 0).f0) ((rd_T24 t269 0).f1) ((rd_T24 t269 0).f2) ((rd_T24 t269 0).f3)) else (none))) = some r := by first | (rw [hy266]; with_reducible exact H) | (have H2_ := (Option.bind_some _ _).symm.trans H; rw [hy266]; with_reducible exact H2_) | (have H2_ := (Option.bind_some _ _).symm.trans H; with_reducible exact H2_) | with_reducible exact H | (rw [hy266]; exact H) | exact H
    have Ny266 := Aside0.mk hy266
    clear hy266
    replace H := Option.bind_eq_some_iff.mp H
    obtain ⟨t269, A60, H⟩ := H
    replace H : (if 0 < (t269.length : Int) then (croftlaw34_PolyWithin.l0 k t263 false 0 ((rd_T24 t269 0).f0) ((rd_T24 t269 0).f1) ((rd_T24 t269 0).f2) ((rd_T24 t269 0).f3)) else (none)) = some r := H
    have A6 := Aside0.mk A60
    clear A60
    by_cases c7 : 0 < (t269.length : Int)
    · rw [if_pos c7] at H
      have c7b0 : decide (0 < (t269.length : Int)) = true := decide_eq_true c7
      have c7b1 : decide (0 < t269.length) = true := decide_eq_true (by omega)
      clear c7
      have H' := Aside0.mk H
      clear H
      go_enter Try.func8, Try.ntmps8
      go_wp2_with (first | ((with_reducible refine gate_dst (N := 3) rfl ?_); refine box_event ?hg (N := 3) ?hd (cs := #[.int .i64 a1_0, .int .u32 a1_1, .int .u32 a1_2, .string a1_3]) (t := 24) ?hr ?_; (case hd => rfl); (case hg => rfl); (case hr => first | (go_simp; done) | (go_simp; rfl)); intro gb261 hg w8 hbox hb; have n0_ := Aside0.mk (below_step (by repeat (first | (with_reducible first | exact HB.out | apply below_alloc | apply pw_below_drewN | apply below_drew1) | exact HB.out)) hb); have n1_ := Aside0.mk (hbox); have n2_ := Aside0.mk ((by rw [hg]; exact (below_size (by repeat (first | (with_reducible first | exact HB.out | apply below_alloc | apply pw_below_drewN | apply below_drew1) | exact HB.out))) : w.heap.size ≤ gb261)); have n3_ := Aside0.mk ((by rw [hg]; exact (below_size (by repeat (first | (with_reducible first | exact HB.out | apply below_alloc | apply pw_below_drewN | apply below_drew1) | exact HB.out))) : w.heap.size ≤ gb261)); clear HB; have HB := n0_; have BK261 := n1_; have GW261 := n2_; have GE261 := n3_; clear n0_ n1_ n2_ n3_; clear hb hbox hg) | ((with_reducible refine gate_callee (f := 13) rfl ?_); refine goesL_ (some 13) rfl rfl Try.func13 (by kernel_rfl) rfl #[] rfl (by (try simp only [List.map_toArray, List.map_cons, List.map_nil]); first | done | rfl | (simp only [List.length_drop, List.length_take]; rfl)) ?_; (with_reducible refine (croftlaw34_alive.calls k  true _ A3.out).mono ?_); rintro e w9 ⟨rfl, hb⟩; refine ⟨_, rfl, ?_⟩; have n0_ := Aside0.mk (blk_below (g := gb261) (o := .cells #[.int .i64 a1_0, .int .u32 a1_1, .int .u32 a1_2, .string a1_3] 24 (0, 0)) (by (with_reducible repeat (first | refine blk_drewN ?_ _ | refine blk_drew ?_ | refine blk_alloc ?_ _)); exact BK261.out) hb); have n1_ := Aside0.mk (below_step (by repeat (first | (with_reducible first | exact HB.out | apply below_alloc | apply pw_below_drewN | apply below_drew1 | refine below_set ?_ GE261.out) | exact HB.out)) hb); clear BK261; clear HB; have BK261 := n0_; have HB := n1_; clear n0_ n1_; (try clear hb); (try clear hb2); (try clear hk); (try clear hi)) | ((with_reducible refine gate_callee (f := 15) rfl ?_); refine goesL_ (some 16) rfl rfl Try.func15 (by kernel_rfl) rfl #[.slice A0 l0.length c0] rfl (by (try simp only [List.map_toArray, List.map_cons, List.map_nil]); first | done | rfl | (simp only [List.length_drop, List.length_take]; rfl)) ?_; (with_reducible refine (croftlaw34_cut.calls k _ _ l0 t263 _ ?side1 ?side2 A5.out).mono ?_); (case side1 => repeat (first | exact (Kd.C_below HR0.out HB.out) | (with_reducible refine Kd.C_alloc ?_ _) | (with_reducible refine Kd.C_drewN ?_ _) | (with_reducible refine Kd.C_drew ?_))); (case side2 => exact HC0.out); rintro e w10 ⟨v264, rfl, ho0, hb⟩; refine ⟨_, rfl, ?_⟩; have n0_ := Aside0.mk (Kd.R_lower (Kd.R_newB ho0 (g := gb261) (o := .cells #[.int .i64 a1_0, .int .u32 a1_1, .int .u32 a1_2, .string a1_3] 24 (0, 0)) (by (with_reducible repeat (first | refine blk_drewN ?_ _ | refine blk_drew ?_ | refine blk_alloc ?_ _)); exact BK261.out)) (below_size (by repeat (first | (with_reducible first | exact HB.out | apply below_alloc | apply pw_below_drewN | apply below_drew1 | refine below_set ?_ GE261.out) | exact HB.out)))); have n1_ := Aside0.mk (blk_below (g := gb261) (o := .cells #[.int .i64 a1_0, .int .u32 a1_1, .int .u32 a1_2, .string a1_3] 24 (0, 0)) (by (with_reducible repeat (first | refine blk_drewN ?_ _ | refine blk_drew ?_ | refine blk_alloc ?_ _)); exact BK261.out) hb); have n2_ := Aside0.mk (below_step (by repeat (first | (with_reducible first | exact HB.out | apply below_alloc | apply pw_below_drewN | apply below_drew1 | refine below_set ?_ GE261.out) | exact HB.out)) hb); clear BK261; clear HB; have HO265 := n0_; have BK261 := n1_; have HB := n2_; clear n0_ n1_ n2_; (try clear hb); (try clear hb2); (try clear hk); (try clear hi); (try clear ho0); have hcz11_0 : w10.cell? ⟨gb261, 0, none⟩ = some (.int .i64 a1_0) := (blk_cell BK261.out 0).trans rfl; have hcz11_1 : w10.cell? ⟨gb261, 1, none⟩ = some (.int .u32 a1_1) := (blk_cell BK261.out 1).trans rfl; have hcz11_2 : w10.cell? ⟨gb261, 2, none⟩ = some (.int .u32 a1_2) := (blk_cell BK261.out 2).trans rfl; have hcz11_3 : w10.cell? ⟨gb261, 3, none⟩ = some (.string a1_3) := (blk_cell BK261.out 3).trans rfl; have hfz11_0 := blk_frozen BK261.out 0; have hfz11_1 := blk_frozen BK261.out 1; have hfz11_2 := blk_frozen BK261.out 2; have hfz11_3 := blk_frozen BK261.out 3) | ((with_reducible refine gate_dst (N := 18) rfl ?_); refine Kd.R_lit k24 _ 24 ?hg (N := 18) ?hd (xs := ([(⟨a1_0, a1_1, a1_2, a1_3⟩ : S24)] : List (S24))) (inner := [.int .i64 a1_0, .int .u32 a1_1, .int .u32 a1_2, .string a1_3]) (ok := fun _ => True) (okp := fun _ => True) ?hr ?hp (fun _ hk => hk) trivial (Below.refl _ _) (Nat.le_refl _) (by simp) ?_; (case hd => rfl); (case hg => rfl); (case hr => first | (go_simp; done) | (go_simp; rfl)); (case hp => exact (Reps.c4 (show Kd.M k24 _ _ _ (⟨a1_0, a1_1, a1_2, a1_3⟩ : S24) [.int .i64 a1_0, .int .u32 a1_1, .int .u32 a1_2, .string a1_3] from (k24_mkM _ _ _ (⟨a1_0, a1_1, a1_2, a1_3⟩ : S24) )) (Reps.none _ _))); intro v267 w12 ho13 hb hg_ hnew_; clear hg_ hnew_; (first | rw [← Ny266.out] at ho13 | (simp only [Int.reduceToNat] at ho13; rw [← Ny266.out] at ho13)); have n0_ := Aside0.mk (Kd.R_elder' (by (with_reducible repeat (first | apply Kd.R_alloc | apply Kd.R_drewN | apply Kd.R_drew)); exact HO265.out) (Kd.R_base ho13) hb); have n1_ := Aside0.mk (Kd.R_lower (Kd.R_newB (Kd.R_new' ho13 (Kd.R_lt (by (with_reducible repeat (first | apply Kd.R_alloc | apply Kd.R_drewN | apply Kd.R_drew)); exact HO265.out))) (g := gb261) (o := .cells #[.int .i64 a1_0, .int .u32 a1_1, .int .u32 a1_2, .string a1_3] 24 (0, 0)) (by (with_reducible repeat (first | refine blk_drewN ?_ _ | refine blk_drew ?_ | refine blk_alloc ?_ _)); exact BK261.out)) (below_size (by repeat (first | (with_reducible first | exact HB.out | apply below_alloc | apply pw_below_drewN | apply below_drew1 | refine below_set ?_ GE261.out) | exact HB.out)))); have n2_ := Aside0.mk (blk_below (g := gb261) (o := .cells #[.int .i64 a1_0, .int .u32 a1_1, .int .u32 a1_2, .string a1_3] 24 (0, 0)) (by (with_reducible repeat (first | refine blk_drewN ?_ _ | refine blk_drew ?_ | refine blk_alloc ?_ _)); exact BK261.out) hb); have n3_ := Aside0.mk (below_step (by repeat (first | (with_reducible first | exact HB.out | apply below_alloc | apply pw_below_drewN | apply below_drew1 | refine below_set ?_ GE261.out) | exact HB.out)) hb); clear HO265; clear BK261; clear HB; have HO265 := n0_; have HO268 := n1_; have BK261 := n2_; have HB := n3_; clear n0_ n1_ n2_ n3_; clear hb ho13; obtain ⟨Ao14, co14, eo14⟩ := Kd.R_slice HO268.out; subst eo14) | ((with_reducible refine gate_callee (f := 15) rfl ?_); refine goesL_ (some 19) rfl rfl Try.func15 (by kernel_rfl) rfl #[.slice Ao14 y266.length co14] rfl (by (try simp only [List.map_toArray, List.map_cons, List.map_nil]); first | done | rfl | (simp only [List.length_drop, List.length_take]; rfl)) ?_; (with_reducible refine (croftlaw34_cut.calls k _ _ y266 t269 _ ?side1 ?side2 A6.out).mono ?_); (case side1 => repeat (first | exact (Kd.R_reads' HO268.out).2.2 | (with_reducible refine Kd.C_alloc ?_ _) | (with_reducible refine Kd.C_drewN ?_ _) | (with_reducible refine Kd.C_drew ?_))); (case side2 => exact (Kd.R_reads' HO268.out).2.1); rintro e w15 ⟨v270, rfl, ho0, hb⟩; refine ⟨_, rfl, ?_⟩; have n0_ := Aside0.mk (Kd.R_elder' (by (with_reducible repeat (first | apply Kd.R_alloc | apply Kd.R_drewN | apply Kd.R_drew)); exact HO265.out) (Kd.R_base ho0) hb); have n1_ := Aside0.mk (Kd.R_elder' (by (with_reducible repeat (first | apply Kd.R_alloc | apply Kd.R_drewN | apply Kd.R_drew)); exact HO268.out) (Kd.R_base ho0) hb); have n2_ := Aside0.mk (Kd.R_lower (Kd.R_newB (Kd.R_new' (Kd.R_new' ho0 (Kd.R_lt (by (with_reducible repeat (first | apply Kd.R_alloc | apply Kd.R_drewN | apply Kd.R_drew)); exact HO265.out))) (Kd.R_lt (by (with_reducible repeat (first | apply Kd.R_alloc | apply Kd.R_drewN | apply Kd.R_drew)); exact HO268.out))) (g := gb261) (o := .cells #[.int .i64 a1_0, .int .u32 a1_1, .int .u32 a1_2, .string a1_3] 24 (0, 0)) (by (with_reducible repeat (first | refine blk_drewN ?_ _ | refine blk_drew ?_ | refine blk_alloc ?_ _)); exact BK261.out)) (below_size (by repeat (first | (with_reducible first | exact HB.out | apply below_alloc | apply pw_below_drewN | apply below_drew1 | refine below_set ?_ GE261.out) | exact HB.out)))); have n3_ := Aside0.mk (blk_below (g := gb261) (o := .cells #[.int .i64 a1_0, .int .u32 a1_1, .int .u32 a1_2, .string a1_3] 24 (0, 0)) (by (with_reducible repeat (first | refine blk_drewN ?_ _ | refine blk_drew ?_ | refine blk_alloc ?_ _)); exact BK261.out) hb); have n4_ := Aside0.mk (below_step (by repeat (first | (with_reducible first | exact HB.out | apply below_alloc | apply pw_below_drewN | apply below_drew1 | refine below_set ?_ GE261.out) | exact HB.out)) hb); clear HO265; clear HO268; clear BK261; clear HB; have HO265 := n0_; have HO268 := n1_; have HO271 := n2_; have BK261 := n3_; have HB := n4_; clear n0_ n1_ n2_ n3_ n4_; (try clear hb); (try clear hb2); (try clear hk); (try clear hi); (try clear ho0); obtain ⟨Ao16, co16, eo16⟩ := Kd.R_slice HO271.out; subst eo16; have p272 : 0 ≤ (0 : Int) := (by omega); have q272 : 0 < (t269.length : Int) := of_decide_eq_true (by first | (with_reducible assumption) | assumption); obtain ⟨ad272, e272, hx272_0, hx272_1, hx272_2, hx272_3⟩ := at_T24 (Kd.R_reads' HO271.out).2.2 0 p272 q272; cases e272; have qi272 : (0 < t269.length) = True := eq_true (by omega); (try rw [show ((0 : Int)).toNat = 0 from rfl] at hx272_0); (try rw [show 0 * 4 = 0 from rfl] at hx272_0); (try rw [Addr.add_zero'] at hx272_0); (try rw [show ((0 : Int)).toNat = 0 from rfl] at hx272_1); (try rw [show 0 * 4 = 0 from rfl] at hx272_1); (try rw [Addr.add_zero'] at hx272_1); (try rw [show ((0 : Int)).toNat = 0 from rfl] at hx272_2); (try rw [show 0 * 4 = 0 from rfl] at hx272_2); (try rw [Addr.add_zero'] at hx272_2); (try rw [show ((0 : Int)).toNat = 0 from rfl] at hx272_3); (try rw [show 0 * 4 = 0 from rfl] at hx272_3); (try rw [Addr.add_zero'] at hx272_3); replace p272 := eq_true p272; replace q272 := eq_true q272) | ((with_reducible refine gate_dst (N := 5) rfl ?_); refine box_event ?hg (N := 5) ?hd (cs := #[.int .i64 0, .int .u32 0, .int .u32 0, .string (⟨#[]⟩ : ByteArray)]) (t := 24) ?hr ?_; (case hd => rfl); (case hg => rfl); (case hr => first | (go_simp; done) | (go_simp; rfl)); intro gb273 hg w17 hbox hb; have n0_ := Aside0.mk (Kd.R_below (Kd.R_elderB (by (with_reducible repeat (first | apply Kd.R_alloc | apply Kd.R_drewN | apply Kd.R_drew)); exact HO265.out) gb273 (Nat.le_of_eq hg.symm)) hb); have n1_ := Aside0.mk (Kd.R_below (Kd.R_elderB (by (with_reducible repeat (first | apply Kd.R_alloc | apply Kd.R_drewN | apply Kd.R_drew)); exact HO268.out) gb273 (Nat.le_of_eq hg.symm)) hb); have n2_ := Aside0.mk (Kd.R_below (Kd.R_elderB (by (with_reducible repeat (first | apply Kd.R_alloc | apply Kd.R_drewN | apply Kd.R_drew)); exact HO271.out) gb273 (Nat.le_of_eq hg.symm)) hb); have n3_ := Aside0.mk (blk_below (g := gb261) (o := .cells #[.int .i64 a1_0, .int .u32 a1_1, .int .u32 a1_2, .string a1_3] 24 (0, 0)) (by (with_reducible repeat (first | refine blk_drewN ?_ _ | refine blk_drew ?_ | refine blk_alloc ?_ _)); exact BK261.out) hb); have n4_ := Aside0.mk (below_step (by repeat (first | (with_reducible first | exact HB.out | apply below_alloc | apply pw_below_drewN | apply below_drew1 | refine below_set ?_ GE261.out) | exact HB.out)) hb); have n5_ := Aside0.mk (hbox); have n6_ := Aside0.mk ((by rw [hg]; exact (below_size (by repeat (first | (with_reducible first | exact HB.out | apply below_alloc | apply pw_below_drewN | apply below_drew1 | refine below_set ?_ GE261.out) | exact HB.out))) : w.heap.size ≤ gb273)); have n7_ := Aside0.mk ((by rw [hg]; exact (below_size (by repeat (first | (with_reducible first | exact HB.out | apply below_alloc | apply pw_below_drewN | apply below_drew1 | refine below_set ?_ GE261.out) | exact HB.out))) : w.heap.size ≤ gb273)); have n8_ := Aside0.mk ((by rw [hg]; exact Nat.ne_of_lt (blk_lt (g := gb261) (o := .cells #[.int .i64 a1_0, .int .u32 a1_1, .int .u32 a1_2, .string a1_3] 24 (0, 0)) (by (with_reducible repeat (first | refine blk_drewN ?_ _ | refine blk_drew ?_ | refine blk_alloc ?_ _)); exact BK261.out)) : gb261 ≠ gb273)); have n9_ := Aside0.mk ((by rw [hg]; exact Nat.ne_of_gt (blk_lt (g := gb261) (o := .cells #[.int .i64 a1_0, .int .u32 a1_1, .int .u32 a1_2, .string a1_3] 24 (0, 0)) (by (with_reducible repeat (first | refine blk_drewN ?_ _ | refine blk_drew ?_ | refine blk_alloc ?_ _)); exact BK261.out)) : gb273 ≠ gb261)); clear HO265; clear HO268; clear HO271; clear BK261; clear HB; have HO265 := n0_; have HO268 := n1_; have HO271 := n2_; have BK261 := n3_; have HB := n4_; have BK273 := n5_; have GW273 := n6_; have GE273 := n7_; have NB261_273 := n8_; have NB273_261 := n9_; clear n0_ n1_ n2_ n3_ n4_ n5_ n6_ n7_ n8_ n9_; clear hb hbox hg; have hnb18 := NB273_261.out; have hnc18 := NB261_273.out; have hcz19_0 : w17.cell? ⟨gb273, 0, none⟩ = some (.int .i64 0) := (blk_cell BK273.out 0).trans rfl; have hcz19_1 : w17.cell? ⟨gb273, 1, none⟩ = some (.int .u32 0) := (blk_cell BK273.out 1).trans rfl; have hcz19_2 : w17.cell? ⟨gb273, 2, none⟩ = some (.int .u32 0) := (blk_cell BK273.out 2).trans rfl; have hcz19_3 : w17.cell? ⟨gb273, 3, none⟩ = some (.string (⟨#[]⟩ : ByteArray)) := (blk_cell BK273.out 3).trans rfl; have hfz19_0 := blk_frozen BK273.out 0; have hfz19_1 := blk_frozen BK273.out 1; have hfz19_2 := blk_frozen BK273.out 2; have hfz19_3 := blk_frozen BK273.out 3))
      go_loopg [6, 7] k (fun kq v6 v7 w' => ∃ (x6_1 : Bool) (x7_1 : Int), v6 = .bool x6_1 ∧ v7 = .int .i64 x7_1 ∧ Aside0 (croftlaw34_PolyWithin.l0 kq t263 x6_1 x7_1 ((rd_T24 t269 0).f0) ((rd_T24 t269 0).f1) ((rd_T24 t269 0).f2) ((rd_T24 t269 0).f3) = some r) ∧ Aside0 (kq ≤ k) ∧ Aside0 (Kd.R k24 24 w' w.heap.size (fun k_ => k_ ≠ gb261 ∧ k_ ≠ gb273) v264 t263) ∧ Aside0 (w'.heap[gb261]? = some (.cells #[.int .i64 a1_0, .int .u32 a1_1, .int .u32 a1_2, .string a1_3] 24 (0, 0))) ∧ Aside0 (w'.heap[gb273]? = some (.cells #[.int .i64 ((rd_T24 t269 0).f0), .int .u32 ((rd_T24 t269 0).f1), .int .u32 ((rd_T24 t269 0).f2), .string ((rd_T24 t269 0).f3)] 24 (0, 0))) ∧ Aside0 (Below w.heap.size w w'))
      case atStart => exact ⟨(false), (0), (by first | rfl | (simp; done) | (simp [*]; done)), (by first | rfl | (simp; done) | (simp [*]; done)), H', ⟨Nat.le_refl _⟩, ⟨by (with_reducible repeat (first | apply Kd.R_alloc | apply Kd.R_drewN | apply Kd.R_drew)); exact Kd.R_mono (Kd.R_far (p := ⟨gb273, 3, none⟩) (Kd.R_far (p := ⟨gb273, 2, none⟩) (Kd.R_far (p := ⟨gb273, 1, none⟩) (Kd.R_far (p := ⟨gb273, 0, none⟩) (Kd.R_mono HO265.out (fun k_ hk => (⟨hk, hk.2⟩ : _ ∧ k_ ≠ gb273))) (fun _ hk => hk.2) (.int .i64 ((rd_T24 t269 0).f0))) (fun _ hk => hk.2) (.int .u32 ((rd_T24 t269 0).f1))) (fun _ hk => hk.2) (.int .u32 ((rd_T24 t269 0).f2))) (fun _ hk => hk.2) (.string ((rd_T24 t269 0).f3))) (fun _ hk => ⟨hk.1.1.1.1.2, hk.1.2⟩)⟩, ⟨by (with_reducible repeat (first | refine blk_drewN ?_ _ | refine blk_drew ?_ | refine blk_alloc ?_ _)); refine blk_far ?_ NB261_273.out _; (with_reducible repeat (first | refine blk_drewN ?_ _ | refine blk_drew ?_ | refine blk_alloc ?_ _)); refine blk_far ?_ NB261_273.out _; (with_reducible repeat (first | refine blk_drewN ?_ _ | refine blk_drew ?_ | refine blk_alloc ?_ _)); refine blk_far ?_ NB261_273.out _; (with_reducible repeat (first | refine blk_drewN ?_ _ | refine blk_drew ?_ | refine blk_alloc ?_ _)); refine blk_far ?_ NB261_273.out _; (with_reducible repeat (first | refine blk_drewN ?_ _ | refine blk_drew ?_ | refine blk_alloc ?_ _)); exact BK261.out⟩, ⟨by (with_reducible repeat (first | refine blk_drewN ?_ _ | refine blk_drew ?_ | refine blk_alloc ?_ _)); refine blk_put (cs := #[.int .i64 ((rd_T24 t269 0).f0), .int .u32 ((rd_T24 t269 0).f1), .int .u32 ((rd_T24 t269 0).f2), .string (⟨#[]⟩ : ByteArray)]) ?_ 3 _ rfl; (with_reducible repeat (first | refine blk_drewN ?_ _ | refine blk_drew ?_ | refine blk_alloc ?_ _)); refine blk_put (cs := #[.int .i64 ((rd_T24 t269 0).f0), .int .u32 ((rd_T24 t269 0).f1), .int .u32 0, .string (⟨#[]⟩ : ByteArray)]) ?_ 2 _ rfl; (with_reducible repeat (first | refine blk_drewN ?_ _ | refine blk_drew ?_ | refine blk_alloc ?_ _)); refine blk_put (cs := #[.int .i64 ((rd_T24 t269 0).f0), .int .u32 0, .int .u32 0, .string (⟨#[]⟩ : ByteArray)]) ?_ 1 _ rfl; (with_reducible repeat (first | refine blk_drewN ?_ _ | refine blk_drew ?_ | refine blk_alloc ?_ _)); refine blk_put (cs := #[.int .i64 0, .int .u32 0, .int .u32 0, .string (⟨#[]⟩ : ByteArray)]) ?_ 0 _ rfl; (with_reducible repeat (first | refine blk_drewN ?_ _ | refine blk_drew ?_ | refine blk_alloc ?_ _)); exact BK273.out⟩, ⟨by repeat (first | (with_reducible first | exact HB.out | apply below_alloc | apply pw_below_drewN | apply below_drew1 | refine below_set ?_ GE261.out | refine below_set ?_ GE273.out) | exact HB.out)⟩⟩
      case round =>
        clear H'
        try clear c1
        try clear p2
        try clear q2
        try clear hx2
        try clear qi2
        try clear c4
        try clear c7
        try clear c7b0
        try clear c7b1
        try clear c8
        try clear c13
        try clear c15
        try clear c18
        try clear hcz11_0
        try clear hcz11_1
        try clear hcz11_2
        try clear hcz11_3
        try clear hcz19_0
        try clear hcz19_1
        try clear hcz19_2
        try clear hcz19_3
        try clear hfz11_0
        try clear hfz11_1
        try clear hfz11_2
        try clear hfz11_3
        try clear hfz19_0
        try clear hfz19_1
        try clear hfz19_2
        try clear hfz19_3
        try clear hx272_0
        try clear hx272_1
        try clear hx272_2
        try clear hx272_3
        try clear p272
        try clear q272
        obtain ⟨x6_1, x7_1, rfl, rfl, HA, HK1, HO_0, BK261, BK273, HB⟩ := hrel
        cases gk with
        | zero => exact absurd HA.out (by simp [croftlaw34_PolyWithin.l0])
        | succ k1 =>
          have H := HA.out
          clear HA
          simp only [croftlaw34_PolyWithin.l0] at H
          by_cases c20 : x7_1 < (t263.length : Int)
          · rw [if_pos c20] at H
            have c20b0 : decide (x7_1 < (t263.length : Int)) = true := decide_eq_true c20
            clear c20
            by_cases c21 : 0 ≤ x7_1
            · rw [if_pos c21] at H
              have c21b0 : decide (0 ≤ x7_1) = true := decide_eq_true c21
              clear c21
              by_cases c22 : (t263.length : Int) = 0
              · rw [if_pos c22] at H
                exact absurd H (by simp)
              · rw [if_neg c22] at H
                have c22b0 : ((t263.length : Int) == 0) = false := beq_eq_false_iff_ne.mpr c22
                have c22b1 : ((t263.length : Int) != 0) = true := bne_iff_ne.mpr c22
                have c22b2 : ¬ (t263 = []) := fun h_ => c22 (by rw [h_]; rfl)
                obtain ⟨ji23, hji23⟩ : ∃ j_ : Int, (Int.tmod (wrap64 (x7_1 + 1)) (t263.length : Int)) = j_ := ⟨_, rfl⟩
                replace H : (if 0 ≤ (ji23) then (if (ji23) < (t263.length : Int) then (if ((rd_T24 t263 x7_1).f2) ≤ ((rd_T24 t269 0).f2) then (croftlaw34_PolyWithin.j1 k1 t263 x6_1 x7_1 (decide (((rd_T24 t269 0).f2) < ((rd_T24 t263 (ji23)).f2))) ((rd_T24 t269 0).f0) ((rd_T24 t269 0).f1) ((rd_T24 t269 0).f2) ((rd_T24 t269 0).f3) ((rd_T24 t263 x7_1).f0) ((rd_T24 t263 x7_1).f1) ((rd_T24 t263 x7_1).f2) ((rd_T24 t263 x7_1).f3) ((rd_T24 t263 (ji23)).f0) ((rd_T24 t263 (ji23)).f1) ((rd_T24 t263 (ji23)).f2) ((rd_T24 t263 (ji23)).f3)) else (croftlaw34_PolyWithin.j1 k1 t263 x6_1 x7_1 false ((rd_T24 t269 0).f0) ((rd_T24 t269 0).f1) ((rd_T24 t269 0).f2) ((rd_T24 t269 0).f3) ((rd_T24 t263 x7_1).f0) ((rd_T24 t263 x7_1).f1) ((rd_T24 t263 x7_1).f2) ((rd_T24 t263 x7_1).f3) ((rd_T24 t263 (ji23)).f0) ((rd_T24 t263 (ji23)).f1) ((rd_T24 t263 (ji23)).f2) ((rd_T24 t263 (ji23)).f3))) else (none)) else (none)) = some r := by first | (rw [hji23] at H; exact H) | (simp only [hji23] at H ⊢; exact H)
                by_cases c24 : 0 ≤ (ji23)
                · rw [if_pos c24] at H
                  have c24b0 : decide (0 ≤ (ji23)) = true := decide_eq_true c24
                  clear c24
                  by_cases c25 : (ji23) < (t263.length : Int)
                  · rw [if_pos c25] at H
                    have c25b0 : decide ((ji23) < (t263.length : Int)) = true := decide_eq_true c25
                    clear c25
                    have HC26 := Aside0.mk H
                    clear H
                    obtain ⟨Ao27, co27, eo27⟩ := Kd.R_slice HO_0.out
                    subst eo27
                    try go_wp2
                    have n0_ := Aside0.mk (Kd.R_drew HO_0.out)
                    have n1_ := Aside0.mk (blk_drew BK261.out)
                    have n2_ := Aside0.mk (blk_drew BK273.out)
                    have n3_ := Aside0.mk (below_drew1 HB.out)
                    clear HO_0
                    clear BK261
                    clear BK273
                    clear HB
                    have HO_0 := n0_
                    have BK261 := n1_
                    have BK273 := n2_
                    have HB := n3_
                    clear n0_ n1_ n2_ n3_
                    have p277 : 0 ≤ (x7_1 : Int) := of_decide_eq_true (by first | (with_reducible assumption) | assumption)
                    have q277 : x7_1 < (t263.length : Int) := of_decide_eq_true (by first | (with_reducible assumption) | assumption)
                    obtain ⟨ad277, e277, hx277_0, hx277_1, hx277_2, hx277_3⟩ := at_T24 (Kd.R_reads' HO_0.out).2.2 x7_1 p277 q277
                    cases e277
                    replace p277 := eq_true p277
                    replace q277 := eq_true q277
                    have p278 : 0 ≤ ((ji23) : Int) := of_decide_eq_true (by first | (with_reducible assumption) | assumption)
                    have q278 : (ji23) < (t263.length : Int) := of_decide_eq_true (by first | (with_reducible assumption) | assumption)
                    obtain ⟨ad278, e278, hx278_0, hx278_1, hx278_2, hx278_3⟩ := at_T24 (Kd.R_reads' HO_0.out).2.2 (ji23) p278 q278
                    obtain rfl : ad277 = ad278 := (by injection e278)
                    replace p278 := eq_true p278
                    replace q278 := eq_true q278
                    refine start_ (n := 16) (S := fun w' => w'.cell? (ad277.add ((x7_1).toNat * 4)) = some (.int .i64 ((rd_T24 t263 x7_1).f0)) ∧ w'.cell? ⟨(ad277.add ((x7_1).toNat * 4)).block, (ad277.add ((x7_1).toNat * 4)).off + 1, none⟩ = some (.int .u32 ((rd_T24 t263 x7_1).f1)) ∧ w'.cell? ⟨(ad277.add ((x7_1).toNat * 4)).block, (ad277.add ((x7_1).toNat * 4)).off + 2, none⟩ = some (.int .u32 ((rd_T24 t263 x7_1).f2)) ∧ w'.cell? ⟨(ad277.add ((x7_1).toNat * 4)).block, (ad277.add ((x7_1).toNat * 4)).off + 3, none⟩ = some (.string ((rd_T24 t263 x7_1).f3)) ∧ w'.cell? (ad277.add (((ji23)).toNat * 4)) = some (.int .i64 ((rd_T24 t263 (ji23)).f0)) ∧ w'.cell? ⟨(ad277.add (((ji23)).toNat * 4)).block, (ad277.add (((ji23)).toNat * 4)).off + 1, none⟩ = some (.int .u32 ((rd_T24 t263 (ji23)).f1)) ∧ w'.cell? ⟨(ad277.add (((ji23)).toNat * 4)).block, (ad277.add (((ji23)).toNat * 4)).off + 2, none⟩ = some (.int .u32 ((rd_T24 t263 (ji23)).f2)) ∧ w'.cell? ⟨(ad277.add (((ji23)).toNat * 4)).block, (ad277.add (((ji23)).toNat * 4)).off + 3, none⟩ = some (.string ((rd_T24 t263 (ji23)).f3))) (ds := []) #[false, false, false, false, false, false, false, false, false, false, false, false, false, false, false, false] (by kernel_rfl) rfl rfl ⟨hx277_0, hx277_1, hx277_2, hx277_3, hx278_0, hx278_1, hx278_2, hx278_3⟩ (fun hHeld => ?_); refine with_tabW croftlaw34_PolyWithin.tab9 croftlaw34_PolyWithin.bits9 (fun HT_ HW_ => ?_)
                    generalize wr.drew = w28 at HO_0 BK261 BK273 HB hx277_0 hx277_1 hx277_2 hx277_3 hx278_0 hx278_1 hx278_2 hx278_3 hHeld ⊢
                    refine pure_ (i := 0) (N := some 28) (v := ?_) (a' := ?_) #[true, false, false, false, false, false, false, false, false, false, false, false, false, false, false, false] rfl rfl (any_of HT_.out (by kernel_rfl)) (fun _ _ _ h => h) (Or.inl ⟨by rfl, ?_⟩) ?_ ?_
                    rotate_left
                    · intro w'
                      go_simp
                      with_reducible rfl
                    rotate_left
                    · simp only [Act.put, List.setIfInBounds_toArray, List.set_cons_zero, List.set_cons_succ, i64_w, i32_w]
                      rfl
                    refine pure_ (i := 1) (N := some 29) (v := ?_) (a' := ?_) #[true, true, false, false, false, false, false, false, false, false, false, false, false, false, false, false] rfl rfl (any_of HT_.out (by kernel_rfl)) (fun _ _ _ h => h) (Or.inl ⟨by rfl, ?_⟩) ?_ ?_
                    rotate_left
                    · intro w'
                      go_simp
                      with_reducible rfl
                    rotate_left
                    · simp only [Act.put, List.setIfInBounds_toArray, List.set_cons_zero, List.set_cons_succ, i64_w, i32_w]
                      rfl
                    refine pure_ (i := 2) (N := some 30) (v := ?_) (a' := ?_) #[true, true, true, false, false, false, false, false, false, false, false, false, false, false, false, false] rfl rfl (any_of HT_.out (by kernel_rfl)) (fun _ _ _ h => h) (Or.inl ⟨by rfl, ?_⟩) ?_ ?_
                    rotate_left
                    · intro w'
                      go_simp
                      with_reducible rfl
                    rotate_left
                    · simp only [Act.put, List.setIfInBounds_toArray, List.set_cons_zero, List.set_cons_succ, i64_w, i32_w]
                      rfl
                    refine pure_ (i := 4) (N := some 32) (v := ?_) (a' := ?_) #[true, true, true, false, true, false, false, false, false, false, false, false, false, false, false, false] rfl rfl (any_of HT_.out (by kernel_rfl)) (fun _ _ _ h => h) (Or.inl ⟨by rfl, ?_⟩) ?_ ?_
                    rotate_left
                    · intro w'
                      go_simp
                      with_reducible rfl
                    rotate_left
                    · simp only [Act.put, List.setIfInBounds_toArray, List.set_cons_zero, List.set_cons_succ, i64_w, i32_w]
                      rfl
                    refine pure_ (i := 5) (N := some 33) (v := ?_) (a' := ?_) #[true, true, true, false, true, true, false, false, false, false, false, false, false, false, false, false] rfl rfl (any_of HT_.out (by kernel_rfl)) (fun _ _ _ h => h) (Or.inl ⟨by rfl, ?_⟩) ?_ ?_
                    rotate_left
                    · intro w'
                      go_simp
                      with_reducible rfl
                    rotate_left
                    · simp only [Act.put, List.setIfInBounds_toArray, List.set_cons_zero, List.set_cons_succ, i64_w, i32_w]
                      rfl
                    refine pure_ (i := 6) (N := some 34) (v := ?_) (a' := ?_) #[true, true, true, false, true, true, true, false, false, false, false, false, false, false, false, false] rfl rfl (any_of HT_.out (by kernel_rfl)) (fun _ _ _ h => h) (Or.inl ⟨by rfl, ?_⟩) ?_ ?_
                    rotate_left
                    · intro w'
                      go_simp
                      with_reducible rfl
                    rotate_left
                    · simp only [Act.put, List.setIfInBounds_toArray, List.set_cons_zero, List.set_cons_succ, i64_w, i32_w]
                      rfl
                    refine pure_ (i := 7) (N := some 35) (v := ?_) (a' := ?_) #[true, true, true, false, true, true, true, true, false, false, false, false, false, false, false, false] rfl rfl (any_of HT_.out (by kernel_rfl)) (fun _ _ _ h => h) (Or.inl ⟨by rfl, ?_⟩) ?_ ?_
                    rotate_left
                    · intro w'
                      go_simp
                      with_reducible rfl
                    rotate_left
                    · simp only [Act.put, List.setIfInBounds_toArray, List.set_cons_zero, List.set_cons_succ, i64_w, i32_w]
                      rfl
                    refine pure_ (i := 8) (N := some 36) (v := ?_) (a' := ?_) #[true, true, true, false, true, true, true, true, true, false, false, false, false, false, false, false] rfl rfl (any_of HT_.out (by kernel_rfl)) (fun _ _ _ h => h) (Or.inl ⟨by rfl, ?_⟩) ?_ ?_
                    rotate_left
                    · intro w'
                      go_simp
                      with_reducible rfl
                    rotate_left
                    · simp only [Act.put, List.setIfInBounds_toArray, List.set_cons_zero, List.set_cons_succ, i64_w, i32_w]
                      rfl
                    refine pure_ (i := 9) (N := some 37) (v := ?_) (a' := ?_) #[true, true, true, false, true, true, true, true, true, true, false, false, false, false, false, false] rfl rfl (any_of HT_.out (by kernel_rfl)) (fun _ _ _ h => h) (Or.inl ⟨by rfl, ?_⟩) ?_ ?_
                    rotate_left
                    · intro w'
                      go_simp
                      with_reducible rfl
                    rotate_left
                    · simp only [Act.put, List.setIfInBounds_toArray, List.set_cons_zero, List.set_cons_succ, i64_w, i32_w]
                      rfl
                    refine pure_ (i := 10) (N := some 38) (v := ?_) (a' := ?_) #[true, true, true, false, true, true, true, true, true, true, true, false, false, false, false, false] rfl rfl (any_of HT_.out (by kernel_rfl)) (fun _ _ _ h => h) (Or.inl ⟨by rfl, ?_⟩) ?_ ?_
                    rotate_left
                    · intro w'
                      go_simp
                      with_reducible rfl
                    rotate_left
                    · simp only [Act.put, List.setIfInBounds_toArray, List.set_cons_zero, List.set_cons_succ, i64_w, i32_w]
                      rfl
                    refine take_ (i := 3) (N := some 31) (v := ?_) (a' := ?_) #[true, true, true, true, true, true, true, true, true, true, true, false, false, false, false, false] rfl rfl (take_ofW HT_.out HW_.out (by kernel_rfl)) (fun _ _ _ h => h) (Or.inl ⟨by rfl, ?_⟩) hHeld ?_ ?_
                    rotate_left
                    · rintro w' ⟨s0, s1, s2, s3, s4, s5, s6, s7⟩
                      go_simp
                      with_reducible rfl
                    rotate_left
                    · simp only [Act.put, List.setIfInBounds_toArray, List.set_cons_zero, List.set_cons_succ, i64_w, i32_w]
                      rfl
                    refine take_ (i := 11) (N := some 39) (v := ?_) (a' := ?_) #[true, true, true, true, true, true, true, true, true, true, true, true, false, false, false, false] rfl rfl (take_ofW HT_.out HW_.out (by kernel_rfl)) (fun _ _ _ h => h) (Or.inl ⟨by rfl, ?_⟩) hHeld ?_ ?_
                    rotate_left
                    · rintro w' ⟨s0, s1, s2, s3, s4, s5, s6, s7⟩
                      go_simp
                      with_reducible rfl
                    rotate_left
                    · simp only [Act.put, List.setIfInBounds_toArray, List.set_cons_zero, List.set_cons_succ, i64_w, i32_w]
                      rfl
                    refine join_ (σ := Nat × Nat) 2 #[true, true, true, true, true, true, true, true, true, true, true, true, true, true, false, false] (fun s_ => [(8, .pointer (some ⟨s_.1, 0, none⟩)), (9, .pointer (some ⟨s_.2, 0, none⟩))]) (fun s_ w' => (w'.cell? (ad277.add ((x7_1).toNat * 4)) = some (.int .i64 ((rd_T24 t263 x7_1).f0)) ∧ w'.cell? ⟨(ad277.add ((x7_1).toNat * 4)).block, (ad277.add ((x7_1).toNat * 4)).off + 1, none⟩ = some (.int .u32 ((rd_T24 t263 x7_1).f1)) ∧ w'.cell? ⟨(ad277.add ((x7_1).toNat * 4)).block, (ad277.add ((x7_1).toNat * 4)).off + 2, none⟩ = some (.int .u32 ((rd_T24 t263 x7_1).f2)) ∧ w'.cell? ⟨(ad277.add ((x7_1).toNat * 4)).block, (ad277.add ((x7_1).toNat * 4)).off + 3, none⟩ = some (.string ((rd_T24 t263 x7_1).f3)) ∧ w'.cell? (ad277.add (((ji23)).toNat * 4)) = some (.int .i64 ((rd_T24 t263 (ji23)).f0)) ∧ w'.cell? ⟨(ad277.add (((ji23)).toNat * 4)).block, (ad277.add (((ji23)).toNat * 4)).off + 1, none⟩ = some (.int .u32 ((rd_T24 t263 (ji23)).f1)) ∧ w'.cell? ⟨(ad277.add (((ji23)).toNat * 4)).block, (ad277.add (((ji23)).toNat * 4)).off + 2, none⟩ = some (.int .u32 ((rd_T24 t263 (ji23)).f2)) ∧ w'.cell? ⟨(ad277.add (((ji23)).toNat * 4)).block, (ad277.add (((ji23)).toNat * 4)).off + 3, none⟩ = some (.string ((rd_T24 t263 (ji23)).f3))) ∧ (Kd.R k24 24 w' w.heap.size (fun k_ => k_ ≠ gb261 ∧ k_ ≠ gb273 ∧ k_ ≠ s_.1 ∧ k_ ≠ s_.2) (.slice (some ad277) t263.length co27) t263) ∧ (w'.heap[gb261]? = some (.cells #[.int .i64 a1_0, .int .u32 a1_1, .int .u32 a1_2, .string a1_3] 24 (0, 0))) ∧ (w'.heap[gb273]? = some (.cells #[.int .i64 ((rd_T24 t269 0).f0), .int .u32 ((rd_T24 t269 0).f1), .int .u32 ((rd_T24 t269 0).f2), .string ((rd_T24 t269 0).f3)] 24 (0, 0))) ∧ (w'.heap[s_.1]? = some (.cells #[.int .i64 0, .int .u32 0, .int .u32 0, .string (⟨#[]⟩ : ByteArray)] 24 (0, 0))) ∧ (w'.heap[s_.2]? = some (.cells #[.int .i64 0, .int .u32 0, .int .u32 0, .string (⟨#[]⟩ : ByteArray)] 24 (0, 0))) ∧ (w.heap.size ≤ s_.1) ∧ (w.heap.size ≤ s_.1) ∧ (gb261 ≠ s_.1) ∧ (s_.1 ≠ gb261) ∧ (gb273 ≠ s_.1) ∧ (s_.1 ≠ gb273) ∧ (s_.2 ≠ s_.1) ∧ (s_.1 ≠ s_.2) ∧ (w.heap.size ≤ s_.2) ∧ (w.heap.size ≤ s_.2) ∧ (gb261 ≠ s_.2) ∧ (s_.2 ≠ gb261) ∧ (gb273 ≠ s_.2) ∧ (s_.2 ≠ gb273) ∧ (Below w.heap.size w w')) ?_ ?_
                    rotate_left
                    · intro hCont
                      refine two_ (i := 12) (j := 13) (Ni := some 8) (Nj := some 9) #[true, true, true, true, true, true, true, true, true, true, true, true, true, false, false, false] #[true, true, true, true, true, true, true, true, true, true, true, true, false, true, false, false] rfl rfl rfl rfl (two_of HT_.out (by kernel_rfl)) (by decide) (by decide) (fun K hK => ?_) (fun K hK => ?_)
                      · skip
                        refine box_step ?hg (N := 8) ?hd (cs := #[.int .i64 0, .int .u32 0, .int .u32 0, .string (⟨#[]⟩ : ByteArray)]) (t := 24) ?hr ?_; (case hd => rfl); (case hg => rfl); (case hr => first | (go_simp; done) | (go_simp; rfl))
                        intro gb279 hg w29 hbox hb
                        have HS0_ := (hb.cell (World.block_lt_of_cell? _ _ (hHeld.1))).trans (hHeld.1)
                        have HS1_ := (hb.cell (World.block_lt_of_cell? _ _ (hHeld.2.1))).trans (hHeld.2.1)
                        have HS2_ := (hb.cell (World.block_lt_of_cell? _ _ (hHeld.2.2.1))).trans (hHeld.2.2.1)
                        have HS3_ := (hb.cell (World.block_lt_of_cell? _ _ (hHeld.2.2.2.1))).trans (hHeld.2.2.2.1)
                        have HS4_ := (hb.cell (World.block_lt_of_cell? _ _ (hHeld.2.2.2.2.1))).trans (hHeld.2.2.2.2.1)
                        have HS5_ := (hb.cell (World.block_lt_of_cell? _ _ (hHeld.2.2.2.2.2.1))).trans (hHeld.2.2.2.2.2.1)
                        have HS6_ := (hb.cell (World.block_lt_of_cell? _ _ (hHeld.2.2.2.2.2.2.1))).trans (hHeld.2.2.2.2.2.2.1)
                        have HS7_ := (hb.cell (World.block_lt_of_cell? _ _ (hHeld.2.2.2.2.2.2.2))).trans (hHeld.2.2.2.2.2.2.2)
                        have n0_ := Aside0.mk (Kd.R_below (Kd.R_elderB (by (with_reducible repeat (first | apply Kd.R_alloc | apply Kd.R_drewN | apply Kd.R_drew)); exact HO_0.out) gb279 (Nat.le_of_eq hg.symm)) hb)
                        have n1_ := Aside0.mk (blk_below (g := gb261) (o := .cells #[.int .i64 a1_0, .int .u32 a1_1, .int .u32 a1_2, .string a1_3] 24 (0, 0)) (by (with_reducible repeat (first | refine blk_drewN ?_ _ | refine blk_drew ?_ | refine blk_alloc ?_ _)); exact BK261.out) hb)
                        have n2_ := Aside0.mk (blk_below (g := gb273) (o := .cells #[.int .i64 ((rd_T24 t269 0).f0), .int .u32 ((rd_T24 t269 0).f1), .int .u32 ((rd_T24 t269 0).f2), .string ((rd_T24 t269 0).f3)] 24 (0, 0)) (by (with_reducible repeat (first | refine blk_drewN ?_ _ | refine blk_drew ?_ | refine blk_alloc ?_ _)); exact BK273.out) hb)
                        have n3_ := Aside0.mk (below_step (by repeat (first | (with_reducible first | exact HB.out | apply below_alloc | apply pw_below_drewN | apply below_drew1 | refine below_set ?_ GE261.out | refine below_set ?_ GE273.out) | exact HB.out)) hb)
                        have n4_ := Aside0.mk (hbox)
                        have n5_ := Aside0.mk ((by rw [hg]; exact (below_size (by repeat (first | (with_reducible first | exact HB.out | apply below_alloc | apply pw_below_drewN | apply below_drew1 | refine below_set ?_ GE261.out | refine below_set ?_ GE273.out) | exact HB.out))) : w.heap.size ≤ gb279))
                        have n6_ := Aside0.mk ((by rw [hg]; exact (below_size (by repeat (first | (with_reducible first | exact HB.out | apply below_alloc | apply pw_below_drewN | apply below_drew1 | refine below_set ?_ GE261.out | refine below_set ?_ GE273.out) | exact HB.out))) : w.heap.size ≤ gb279))
                        have n7_ := Aside0.mk ((by rw [hg]; exact Nat.ne_of_lt (blk_lt (g := gb261) (o := .cells #[.int .i64 a1_0, .int .u32 a1_1, .int .u32 a1_2, .string a1_3] 24 (0, 0)) (by (with_reducible repeat (first | refine blk_drewN ?_ _ | refine blk_drew ?_ | refine blk_alloc ?_ _)); exact BK261.out)) : gb261 ≠ gb279))
                        have n8_ := Aside0.mk ((by rw [hg]; exact Nat.ne_of_gt (blk_lt (g := gb261) (o := .cells #[.int .i64 a1_0, .int .u32 a1_1, .int .u32 a1_2, .string a1_3] 24 (0, 0)) (by (with_reducible repeat (first | refine blk_drewN ?_ _ | refine blk_drew ?_ | refine blk_alloc ?_ _)); exact BK261.out)) : gb279 ≠ gb261))
                        have n9_ := Aside0.mk ((by rw [hg]; exact Nat.ne_of_lt (blk_lt (g := gb273) (o := .cells #[.int .i64 ((rd_T24 t269 0).f0), .int .u32 ((rd_T24 t269 0).f1), .int .u32 ((rd_T24 t269 0).f2), .string ((rd_T24 t269 0).f3)] 24 (0, 0)) (by (with_reducible repeat (first | refine blk_drewN ?_ _ | refine blk_drew ?_ | refine blk_alloc ?_ _)); exact BK273.out)) : gb273 ≠ gb279))
                        have n10_ := Aside0.mk ((by rw [hg]; exact Nat.ne_of_gt (blk_lt (g := gb273) (o := .cells #[.int .i64 ((rd_T24 t269 0).f0), .int .u32 ((rd_T24 t269 0).f1), .int .u32 ((rd_T24 t269 0).f2), .string ((rd_T24 t269 0).f3)] 24 (0, 0)) (by (with_reducible repeat (first | refine blk_drewN ?_ _ | refine blk_drew ?_ | refine blk_alloc ?_ _)); exact BK273.out)) : gb279 ≠ gb273))
                        clear HO_0
                        clear BK261
                        clear BK273
                        clear HB
                        have HO_0 := n0_
                        have BK261 := n1_
                        have BK273 := n2_
                        have HB := n3_
                        have BK279 := n4_
                        have GW279 := n5_
                        have GE279 := n6_
                        have NB261_279 := n7_
                        have NB279_261 := n8_
                        have NB273_279 := n9_
                        have NB279_273 := n10_
                        clear n0_ n1_ n2_ n3_ n4_ n5_ n6_ n7_ n8_ n9_ n10_
                        clear hb hbox hg
                        refine hK.out _ _ ⟨HS0_, HS1_, HS2_, HS3_, HS4_, HS5_, HS6_, HS7_⟩ (fun hHeld => ?_)
                        clear hK K
                        refine norm_ (a' := ?_) ?_ ?_
                        rotate_left
                        · show Act.put _ (some 8) _ = _
                          simp only [Act.put, List.setIfInBounds_toArray, List.set_cons_zero, List.set_cons_succ, i64_w, i32_w]
                          rfl
                        refine one_ (i := 13) (N := some 9) #[true, true, true, true, true, true, true, true, true, true, true, true, true, true, false, false] rfl rfl (one_of HT_.out (by kernel_rfl)) (by decide) (fun K hK => ?_)
                        refine box_step ?hg (N := 9) ?hd (cs := #[.int .i64 0, .int .u32 0, .int .u32 0, .string (⟨#[]⟩ : ByteArray)]) (t := 24) ?hr ?_; (case hd => rfl); (case hg => rfl); (case hr => first | (go_simp; done) | (go_simp; rfl))
                        intro gb280 hg w30 hbox hb
                        have HS0_ := (hb.cell (World.block_lt_of_cell? _ _ (hHeld.1))).trans (hHeld.1)
                        have HS1_ := (hb.cell (World.block_lt_of_cell? _ _ (hHeld.2.1))).trans (hHeld.2.1)
                        have HS2_ := (hb.cell (World.block_lt_of_cell? _ _ (hHeld.2.2.1))).trans (hHeld.2.2.1)
                        have HS3_ := (hb.cell (World.block_lt_of_cell? _ _ (hHeld.2.2.2.1))).trans (hHeld.2.2.2.1)
                        have HS4_ := (hb.cell (World.block_lt_of_cell? _ _ (hHeld.2.2.2.2.1))).trans (hHeld.2.2.2.2.1)
                        have HS5_ := (hb.cell (World.block_lt_of_cell? _ _ (hHeld.2.2.2.2.2.1))).trans (hHeld.2.2.2.2.2.1)
                        have HS6_ := (hb.cell (World.block_lt_of_cell? _ _ (hHeld.2.2.2.2.2.2.1))).trans (hHeld.2.2.2.2.2.2.1)
                        have HS7_ := (hb.cell (World.block_lt_of_cell? _ _ (hHeld.2.2.2.2.2.2.2))).trans (hHeld.2.2.2.2.2.2.2)
                        have n0_ := Aside0.mk (Kd.R_below (Kd.R_elderB (by (with_reducible repeat (first | apply Kd.R_alloc | apply Kd.R_drewN | apply Kd.R_drew)); exact HO_0.out) gb280 (Nat.le_of_eq hg.symm)) hb)
                        have n1_ := Aside0.mk (blk_below (g := gb261) (o := .cells #[.int .i64 a1_0, .int .u32 a1_1, .int .u32 a1_2, .string a1_3] 24 (0, 0)) (by (with_reducible repeat (first | refine blk_drewN ?_ _ | refine blk_drew ?_ | refine blk_alloc ?_ _)); exact BK261.out) hb)
                        have n2_ := Aside0.mk (blk_below (g := gb273) (o := .cells #[.int .i64 ((rd_T24 t269 0).f0), .int .u32 ((rd_T24 t269 0).f1), .int .u32 ((rd_T24 t269 0).f2), .string ((rd_T24 t269 0).f3)] 24 (0, 0)) (by (with_reducible repeat (first | refine blk_drewN ?_ _ | refine blk_drew ?_ | refine blk_alloc ?_ _)); exact BK273.out) hb)
                        have n3_ := Aside0.mk (blk_below (g := gb279) (o := .cells #[.int .i64 0, .int .u32 0, .int .u32 0, .string (⟨#[]⟩ : ByteArray)] 24 (0, 0)) (by (with_reducible repeat (first | refine blk_drewN ?_ _ | refine blk_drew ?_ | refine blk_alloc ?_ _)); exact BK279.out) hb)
                        have n4_ := Aside0.mk (below_step (by repeat (first | (with_reducible first | exact HB.out | apply below_alloc | apply pw_below_drewN | apply below_drew1 | refine below_set ?_ GE261.out | refine below_set ?_ GE273.out | refine below_set ?_ GE279.out) | exact HB.out)) hb)
                        have n5_ := Aside0.mk (hbox)
                        have n6_ := Aside0.mk ((by rw [hg]; exact (below_size (by repeat (first | (with_reducible first | exact HB.out | apply below_alloc | apply pw_below_drewN | apply below_drew1 | refine below_set ?_ GE261.out | refine below_set ?_ GE273.out | refine below_set ?_ GE279.out) | exact HB.out))) : w.heap.size ≤ gb280))
                        have n7_ := Aside0.mk ((by rw [hg]; exact (below_size (by repeat (first | (with_reducible first | exact HB.out | apply below_alloc | apply pw_below_drewN | apply below_drew1 | refine below_set ?_ GE261.out | refine below_set ?_ GE273.out | refine below_set ?_ GE279.out) | exact HB.out))) : w.heap.size ≤ gb280))
                        have n8_ := Aside0.mk ((by rw [hg]; exact Nat.ne_of_lt (blk_lt (g := gb261) (o := .cells #[.int .i64 a1_0, .int .u32 a1_1, .int .u32 a1_2, .string a1_3] 24 (0, 0)) (by (with_reducible repeat (first | refine blk_drewN ?_ _ | refine blk_drew ?_ | refine blk_alloc ?_ _)); exact BK261.out)) : gb261 ≠ gb280))
                        have n9_ := Aside0.mk ((by rw [hg]; exact Nat.ne_of_gt (blk_lt (g := gb261) (o := .cells #[.int .i64 a1_0, .int .u32 a1_1, .int .u32 a1_2, .string a1_3] 24 (0, 0)) (by (with_reducible repeat (first | refine blk_drewN ?_ _ | refine blk_drew ?_ | refine blk_alloc ?_ _)); exact BK261.out)) : gb280 ≠ gb261))
                        have n10_ := Aside0.mk ((by rw [hg]; exact Nat.ne_of_lt (blk_lt (g := gb273) (o := .cells #[.int .i64 ((rd_T24 t269 0).f0), .int .u32 ((rd_T24 t269 0).f1), .int .u32 ((rd_T24 t269 0).f2), .string ((rd_T24 t269 0).f3)] 24 (0, 0)) (by (with_reducible repeat (first | refine blk_drewN ?_ _ | refine blk_drew ?_ | refine blk_alloc ?_ _)); exact BK273.out)) : gb273 ≠ gb280))
                        have n11_ := Aside0.mk ((by rw [hg]; exact Nat.ne_of_gt (blk_lt (g := gb273) (o := .cells #[.int .i64 ((rd_T24 t269 0).f0), .int .u32 ((rd_T24 t269 0).f1), .int .u32 ((rd_T24 t269 0).f2), .string ((rd_T24 t269 0).f3)] 24 (0, 0)) (by (with_reducible repeat (first | refine blk_drewN ?_ _ | refine blk_drew ?_ | refine blk_alloc ?_ _)); exact BK273.out)) : gb280 ≠ gb273))
                        have n12_ := Aside0.mk ((by rw [hg]; exact Nat.ne_of_lt (blk_lt (g := gb279) (o := .cells #[.int .i64 0, .int .u32 0, .int .u32 0, .string (⟨#[]⟩ : ByteArray)] 24 (0, 0)) (by (with_reducible repeat (first | refine blk_drewN ?_ _ | refine blk_drew ?_ | refine blk_alloc ?_ _)); exact BK279.out)) : gb279 ≠ gb280))
                        have n13_ := Aside0.mk ((by rw [hg]; exact Nat.ne_of_gt (blk_lt (g := gb279) (o := .cells #[.int .i64 0, .int .u32 0, .int .u32 0, .string (⟨#[]⟩ : ByteArray)] 24 (0, 0)) (by (with_reducible repeat (first | refine blk_drewN ?_ _ | refine blk_drew ?_ | refine blk_alloc ?_ _)); exact BK279.out)) : gb280 ≠ gb279))
                        clear HO_0
                        clear BK261
                        clear BK273
                        clear BK279
                        clear HB
                        have HO_0 := n0_
                        have BK261 := n1_
                        have BK273 := n2_
                        have BK279 := n3_
                        have HB := n4_
                        have BK280 := n5_
                        have GW280 := n6_
                        have GE280 := n7_
                        have NB261_280 := n8_
                        have NB280_261 := n9_
                        have NB273_280 := n10_
                        have NB280_273 := n11_
                        have NB279_280 := n12_
                        have NB280_279 := n13_
                        clear n0_ n1_ n2_ n3_ n4_ n5_ n6_ n7_ n8_ n9_ n10_ n11_ n12_ n13_
                        clear hb hbox hg
                        refine hK.out _ _ ⟨HS0_, HS1_, HS2_, HS3_, HS4_, HS5_, HS6_, HS7_⟩ (fun hHeld => ?_)
                        clear hK K
                        refine norm_ (a' := ?_) ?_ ?_
                        rotate_left
                        · show Act.put _ (some 9) _ = _
                          simp only [Act.put, List.setIfInBounds_toArray, List.set_cons_zero, List.set_cons_succ, i64_w, i32_w]
                          rfl
                        exact norm_ (by simp only [putAll, Act.put, List.setIfInBounds_toArray, List.set_cons_zero, List.set_cons_succ]) (hCont (gb279, gb280) _ ⟨hHeld, (by (with_reducible repeat (first | apply Kd.R_alloc | apply Kd.R_drewN | apply Kd.R_drew)); exact Kd.R_mono HO_0.out (fun _ hk => ⟨hk.1.1.1, ⟨hk.1.1.2, ⟨hk.1.2, hk.2⟩⟩⟩)), (by (with_reducible repeat (first | refine blk_drewN ?_ _ | refine blk_drew ?_ | refine blk_alloc ?_ _)); exact BK261.out), (by (with_reducible repeat (first | refine blk_drewN ?_ _ | refine blk_drew ?_ | refine blk_alloc ?_ _)); exact BK273.out), (by (with_reducible repeat (first | refine blk_drewN ?_ _ | refine blk_drew ?_ | refine blk_alloc ?_ _)); exact BK279.out), (by (with_reducible repeat (first | refine blk_drewN ?_ _ | refine blk_drew ?_ | refine blk_alloc ?_ _)); exact BK280.out), GW279.out, GE279.out, NB261_279.out, NB279_261.out, NB273_279.out, NB279_273.out, NB280_279.out, NB279_280.out, GW280.out, GE280.out, NB261_280.out, NB280_261.out, NB273_280.out, NB280_273.out, (by repeat (first | (with_reducible first | exact HB.out | apply below_alloc | apply pw_below_drewN | apply below_drew1 | refine below_set ?_ GE261.out | refine below_set ?_ GE273.out | refine below_set ?_ GE279.out | refine below_set ?_ GE280.out) | exact HB.out))⟩)
                      · skip
                        refine box_step ?hg (N := 9) ?hd (cs := #[.int .i64 0, .int .u32 0, .int .u32 0, .string (⟨#[]⟩ : ByteArray)]) (t := 24) ?hr ?_; (case hd => rfl); (case hg => rfl); (case hr => first | (go_simp; done) | (go_simp; rfl))
                        intro gb280 hg w29 hbox hb
                        have HS0_ := (hb.cell (World.block_lt_of_cell? _ _ (hHeld.1))).trans (hHeld.1)
                        have HS1_ := (hb.cell (World.block_lt_of_cell? _ _ (hHeld.2.1))).trans (hHeld.2.1)
                        have HS2_ := (hb.cell (World.block_lt_of_cell? _ _ (hHeld.2.2.1))).trans (hHeld.2.2.1)
                        have HS3_ := (hb.cell (World.block_lt_of_cell? _ _ (hHeld.2.2.2.1))).trans (hHeld.2.2.2.1)
                        have HS4_ := (hb.cell (World.block_lt_of_cell? _ _ (hHeld.2.2.2.2.1))).trans (hHeld.2.2.2.2.1)
                        have HS5_ := (hb.cell (World.block_lt_of_cell? _ _ (hHeld.2.2.2.2.2.1))).trans (hHeld.2.2.2.2.2.1)
                        have HS6_ := (hb.cell (World.block_lt_of_cell? _ _ (hHeld.2.2.2.2.2.2.1))).trans (hHeld.2.2.2.2.2.2.1)
                        have HS7_ := (hb.cell (World.block_lt_of_cell? _ _ (hHeld.2.2.2.2.2.2.2))).trans (hHeld.2.2.2.2.2.2.2)
                        have n0_ := Aside0.mk (Kd.R_below (Kd.R_elderB (by (with_reducible repeat (first | apply Kd.R_alloc | apply Kd.R_drewN | apply Kd.R_drew)); exact HO_0.out) gb280 (Nat.le_of_eq hg.symm)) hb)
                        have n1_ := Aside0.mk (blk_below (g := gb261) (o := .cells #[.int .i64 a1_0, .int .u32 a1_1, .int .u32 a1_2, .string a1_3] 24 (0, 0)) (by (with_reducible repeat (first | refine blk_drewN ?_ _ | refine blk_drew ?_ | refine blk_alloc ?_ _)); exact BK261.out) hb)
                        have n2_ := Aside0.mk (blk_below (g := gb273) (o := .cells #[.int .i64 ((rd_T24 t269 0).f0), .int .u32 ((rd_T24 t269 0).f1), .int .u32 ((rd_T24 t269 0).f2), .string ((rd_T24 t269 0).f3)] 24 (0, 0)) (by (with_reducible repeat (first | refine blk_drewN ?_ _ | refine blk_drew ?_ | refine blk_alloc ?_ _)); exact BK273.out) hb)
                        have n3_ := Aside0.mk (below_step (by repeat (first | (with_reducible first | exact HB.out | apply below_alloc | apply pw_below_drewN | apply below_drew1 | refine below_set ?_ GE261.out | refine below_set ?_ GE273.out) | exact HB.out)) hb)
                        have n4_ := Aside0.mk (hbox)
                        have n5_ := Aside0.mk ((by rw [hg]; exact (below_size (by repeat (first | (with_reducible first | exact HB.out | apply below_alloc | apply pw_below_drewN | apply below_drew1 | refine below_set ?_ GE261.out | refine below_set ?_ GE273.out) | exact HB.out))) : w.heap.size ≤ gb280))
                        have n6_ := Aside0.mk ((by rw [hg]; exact (below_size (by repeat (first | (with_reducible first | exact HB.out | apply below_alloc | apply pw_below_drewN | apply below_drew1 | refine below_set ?_ GE261.out | refine below_set ?_ GE273.out) | exact HB.out))) : w.heap.size ≤ gb280))
                        have n7_ := Aside0.mk ((by rw [hg]; exact Nat.ne_of_lt (blk_lt (g := gb261) (o := .cells #[.int .i64 a1_0, .int .u32 a1_1, .int .u32 a1_2, .string a1_3] 24 (0, 0)) (by (with_reducible repeat (first | refine blk_drewN ?_ _ | refine blk_drew ?_ | refine blk_alloc ?_ _)); exact BK261.out)) : gb261 ≠ gb280))
                        have n8_ := Aside0.mk ((by rw [hg]; exact Nat.ne_of_gt (blk_lt (g := gb261) (o := .cells #[.int .i64 a1_0, .int .u32 a1_1, .int .u32 a1_2, .string a1_3] 24 (0, 0)) (by (with_reducible repeat (first | refine blk_drewN ?_ _ | refine blk_drew ?_ | refine blk_alloc ?_ _)); exact BK261.out)) : gb280 ≠ gb261))
                        have n9_ := Aside0.mk ((by rw [hg]; exact Nat.ne_of_lt (blk_lt (g := gb273) (o := .cells #[.int .i64 ((rd_T24 t269 0).f0), .int .u32 ((rd_T24 t269 0).f1), .int .u32 ((rd_T24 t269 0).f2), .string ((rd_T24 t269 0).f3)] 24 (0, 0)) (by (with_reducible repeat (first | refine blk_drewN ?_ _ | refine blk_drew ?_ | refine blk_alloc ?_ _)); exact BK273.out)) : gb273 ≠ gb280))
                        have n10_ := Aside0.mk ((by rw [hg]; exact Nat.ne_of_gt (blk_lt (g := gb273) (o := .cells #[.int .i64 ((rd_T24 t269 0).f0), .int .u32 ((rd_T24 t269 0).f1), .int .u32 ((rd_T24 t269 0).f2), .string ((rd_T24 t269 0).f3)] 24 (0, 0)) (by (with_reducible repeat (first | refine blk_drewN ?_ _ | refine blk_drew ?_ | refine blk_alloc ?_ _)); exact BK273.out)) : gb280 ≠ gb273))
                        clear HO_0
                        clear BK261
                        clear BK273
                        clear HB
                        have HO_0 := n0_
                        have BK261 := n1_
                        have BK273 := n2_
                        have HB := n3_
                        have BK280 := n4_
                        have GW280 := n5_
                        have GE280 := n6_
                        have NB261_280 := n7_
                        have NB280_261 := n8_
                        have NB273_280 := n9_
                        have NB280_273 := n10_
                        clear n0_ n1_ n2_ n3_ n4_ n5_ n6_ n7_ n8_ n9_ n10_
                        clear hb hbox hg
                        refine hK.out _ _ ⟨HS0_, HS1_, HS2_, HS3_, HS4_, HS5_, HS6_, HS7_⟩ (fun hHeld => ?_)
                        clear hK K
                        refine norm_ (a' := ?_) ?_ ?_
                        rotate_left
                        · show Act.put _ (some 9) _ = _
                          simp only [Act.put, List.setIfInBounds_toArray, List.set_cons_zero, List.set_cons_succ, i64_w, i32_w]
                          rfl
                        refine one_ (i := 12) (N := some 8) #[true, true, true, true, true, true, true, true, true, true, true, true, true, true, false, false] rfl rfl (one_of HT_.out (by kernel_rfl)) (by decide) (fun K hK => ?_)
                        refine box_step ?hg (N := 8) ?hd (cs := #[.int .i64 0, .int .u32 0, .int .u32 0, .string (⟨#[]⟩ : ByteArray)]) (t := 24) ?hr ?_; (case hd => rfl); (case hg => rfl); (case hr => first | (go_simp; done) | (go_simp; rfl))
                        intro gb279 hg w30 hbox hb
                        have HS0_ := (hb.cell (World.block_lt_of_cell? _ _ (hHeld.1))).trans (hHeld.1)
                        have HS1_ := (hb.cell (World.block_lt_of_cell? _ _ (hHeld.2.1))).trans (hHeld.2.1)
                        have HS2_ := (hb.cell (World.block_lt_of_cell? _ _ (hHeld.2.2.1))).trans (hHeld.2.2.1)
                        have HS3_ := (hb.cell (World.block_lt_of_cell? _ _ (hHeld.2.2.2.1))).trans (hHeld.2.2.2.1)
                        have HS4_ := (hb.cell (World.block_lt_of_cell? _ _ (hHeld.2.2.2.2.1))).trans (hHeld.2.2.2.2.1)
                        have HS5_ := (hb.cell (World.block_lt_of_cell? _ _ (hHeld.2.2.2.2.2.1))).trans (hHeld.2.2.2.2.2.1)
                        have HS6_ := (hb.cell (World.block_lt_of_cell? _ _ (hHeld.2.2.2.2.2.2.1))).trans (hHeld.2.2.2.2.2.2.1)
                        have HS7_ := (hb.cell (World.block_lt_of_cell? _ _ (hHeld.2.2.2.2.2.2.2))).trans (hHeld.2.2.2.2.2.2.2)
                        have n0_ := Aside0.mk (Kd.R_below (Kd.R_elderB (by (with_reducible repeat (first | apply Kd.R_alloc | apply Kd.R_drewN | apply Kd.R_drew)); exact HO_0.out) gb279 (Nat.le_of_eq hg.symm)) hb)
                        have n1_ := Aside0.mk (blk_below (g := gb261) (o := .cells #[.int .i64 a1_0, .int .u32 a1_1, .int .u32 a1_2, .string a1_3] 24 (0, 0)) (by (with_reducible repeat (first | refine blk_drewN ?_ _ | refine blk_drew ?_ | refine blk_alloc ?_ _)); exact BK261.out) hb)
                        have n2_ := Aside0.mk (blk_below (g := gb273) (o := .cells #[.int .i64 ((rd_T24 t269 0).f0), .int .u32 ((rd_T24 t269 0).f1), .int .u32 ((rd_T24 t269 0).f2), .string ((rd_T24 t269 0).f3)] 24 (0, 0)) (by (with_reducible repeat (first | refine blk_drewN ?_ _ | refine blk_drew ?_ | refine blk_alloc ?_ _)); exact BK273.out) hb)
                        have n3_ := Aside0.mk (blk_below (g := gb280) (o := .cells #[.int .i64 0, .int .u32 0, .int .u32 0, .string (⟨#[]⟩ : ByteArray)] 24 (0, 0)) (by (with_reducible repeat (first | refine blk_drewN ?_ _ | refine blk_drew ?_ | refine blk_alloc ?_ _)); exact BK280.out) hb)
                        have n4_ := Aside0.mk (below_step (by repeat (first | (with_reducible first | exact HB.out | apply below_alloc | apply pw_below_drewN | apply below_drew1 | refine below_set ?_ GE261.out | refine below_set ?_ GE273.out | refine below_set ?_ GE280.out) | exact HB.out)) hb)
                        have n5_ := Aside0.mk (hbox)
                        have n6_ := Aside0.mk ((by rw [hg]; exact (below_size (by repeat (first | (with_reducible first | exact HB.out | apply below_alloc | apply pw_below_drewN | apply below_drew1 | refine below_set ?_ GE261.out | refine below_set ?_ GE273.out | refine below_set ?_ GE280.out) | exact HB.out))) : w.heap.size ≤ gb279))
                        have n7_ := Aside0.mk ((by rw [hg]; exact (below_size (by repeat (first | (with_reducible first | exact HB.out | apply below_alloc | apply pw_below_drewN | apply below_drew1 | refine below_set ?_ GE261.out | refine below_set ?_ GE273.out | refine below_set ?_ GE280.out) | exact HB.out))) : w.heap.size ≤ gb279))
                        have n8_ := Aside0.mk ((by rw [hg]; exact Nat.ne_of_lt (blk_lt (g := gb261) (o := .cells #[.int .i64 a1_0, .int .u32 a1_1, .int .u32 a1_2, .string a1_3] 24 (0, 0)) (by (with_reducible repeat (first | refine blk_drewN ?_ _ | refine blk_drew ?_ | refine blk_alloc ?_ _)); exact BK261.out)) : gb261 ≠ gb279))
                        have n9_ := Aside0.mk ((by rw [hg]; exact Nat.ne_of_gt (blk_lt (g := gb261) (o := .cells #[.int .i64 a1_0, .int .u32 a1_1, .int .u32 a1_2, .string a1_3] 24 (0, 0)) (by (with_reducible repeat (first | refine blk_drewN ?_ _ | refine blk_drew ?_ | refine blk_alloc ?_ _)); exact BK261.out)) : gb279 ≠ gb261))
                        have n10_ := Aside0.mk ((by rw [hg]; exact Nat.ne_of_lt (blk_lt (g := gb273) (o := .cells #[.int .i64 ((rd_T24 t269 0).f0), .int .u32 ((rd_T24 t269 0).f1), .int .u32 ((rd_T24 t269 0).f2), .string ((rd_T24 t269 0).f3)] 24 (0, 0)) (by (with_reducible repeat (first | refine blk_drewN ?_ _ | refine blk_drew ?_ | refine blk_alloc ?_ _)); exact BK273.out)) : gb273 ≠ gb279))
                        have n11_ := Aside0.mk ((by rw [hg]; exact Nat.ne_of_gt (blk_lt (g := gb273) (o := .cells #[.int .i64 ((rd_T24 t269 0).f0), .int .u32 ((rd_T24 t269 0).f1), .int .u32 ((rd_T24 t269 0).f2), .string ((rd_T24 t269 0).f3)] 24 (0, 0)) (by (with_reducible repeat (first | refine blk_drewN ?_ _ | refine blk_drew ?_ | refine blk_alloc ?_ _)); exact BK273.out)) : gb279 ≠ gb273))
                        have n12_ := Aside0.mk ((by rw [hg]; exact Nat.ne_of_lt (blk_lt (g := gb280) (o := .cells #[.int .i64 0, .int .u32 0, .int .u32 0, .string (⟨#[]⟩ : ByteArray)] 24 (0, 0)) (by (with_reducible repeat (first | refine blk_drewN ?_ _ | refine blk_drew ?_ | refine blk_alloc ?_ _)); exact BK280.out)) : gb280 ≠ gb279))
                        have n13_ := Aside0.mk ((by rw [hg]; exact Nat.ne_of_gt (blk_lt (g := gb280) (o := .cells #[.int .i64 0, .int .u32 0, .int .u32 0, .string (⟨#[]⟩ : ByteArray)] 24 (0, 0)) (by (with_reducible repeat (first | refine blk_drewN ?_ _ | refine blk_drew ?_ | refine blk_alloc ?_ _)); exact BK280.out)) : gb279 ≠ gb280))
                        clear HO_0
                        clear BK261
                        clear BK273
                        clear BK280
                        clear HB
                        have HO_0 := n0_
                        have BK261 := n1_
                        have BK273 := n2_
                        have BK280 := n3_
                        have HB := n4_
                        have BK279 := n5_
                        have GW279 := n6_
                        have GE279 := n7_
                        have NB261_279 := n8_
                        have NB279_261 := n9_
                        have NB273_279 := n10_
                        have NB279_273 := n11_
                        have NB280_279 := n12_
                        have NB279_280 := n13_
                        clear n0_ n1_ n2_ n3_ n4_ n5_ n6_ n7_ n8_ n9_ n10_ n11_ n12_ n13_
                        clear hb hbox hg
                        refine hK.out _ _ ⟨HS0_, HS1_, HS2_, HS3_, HS4_, HS5_, HS6_, HS7_⟩ (fun hHeld => ?_)
                        clear hK K
                        refine norm_ (a' := ?_) ?_ ?_
                        rotate_left
                        · show Act.put _ (some 8) _ = _
                          simp only [Act.put, List.setIfInBounds_toArray, List.set_cons_zero, List.set_cons_succ, i64_w, i32_w]
                          rfl
                        exact norm_ (by simp only [putAll, Act.put, List.setIfInBounds_toArray, List.set_cons_zero, List.set_cons_succ]) (hCont (gb279, gb280) _ ⟨hHeld, (by (with_reducible repeat (first | apply Kd.R_alloc | apply Kd.R_drewN | apply Kd.R_drew)); exact Kd.R_mono HO_0.out (fun _ hk => ⟨hk.1.1.1, ⟨hk.1.1.2, ⟨hk.2, hk.1.2⟩⟩⟩)), (by (with_reducible repeat (first | refine blk_drewN ?_ _ | refine blk_drew ?_ | refine blk_alloc ?_ _)); exact BK261.out), (by (with_reducible repeat (first | refine blk_drewN ?_ _ | refine blk_drew ?_ | refine blk_alloc ?_ _)); exact BK273.out), (by (with_reducible repeat (first | refine blk_drewN ?_ _ | refine blk_drew ?_ | refine blk_alloc ?_ _)); exact BK279.out), (by (with_reducible repeat (first | refine blk_drewN ?_ _ | refine blk_drew ?_ | refine blk_alloc ?_ _)); exact BK280.out), GW279.out, GE279.out, NB261_279.out, NB279_261.out, NB273_279.out, NB279_273.out, NB280_279.out, NB279_280.out, GW280.out, GE280.out, NB261_280.out, NB280_261.out, NB273_280.out, NB280_273.out, (by repeat (first | (with_reducible first | exact HB.out | apply below_alloc | apply pw_below_drewN | apply below_drew1 | refine below_set ?_ GE261.out | refine below_set ?_ GE273.out | refine below_set ?_ GE280.out | refine below_set ?_ GE279.out) | exact HB.out))⟩)
                    rintro ⟨gb279, gb280⟩ w31 ⟨hS_, h0_, h1_, h2_, h3_, h4_, h5_, h6_, h7_, h8_, h9_, h10_, h11_, h12_, h13_, h14_, h15_, h16_, h17_, h18_, h19_⟩
                    have n0_ : Aside0 (Kd.R k24 24 w31 w.heap.size (fun k_ => k_ ≠ gb261 ∧ k_ ≠ gb273 ∧ k_ ≠ gb279 ∧ k_ ≠ gb280) (.slice (some ad277) t263.length co27) t263) := ⟨h0_⟩
                    have n1_ : Aside0 (w31.heap[gb261]? = some (.cells #[.int .i64 a1_0, .int .u32 a1_1, .int .u32 a1_2, .string a1_3] 24 (0, 0))) := ⟨h1_⟩
                    have n2_ : Aside0 (w31.heap[gb273]? = some (.cells #[.int .i64 ((rd_T24 t269 0).f0), .int .u32 ((rd_T24 t269 0).f1), .int .u32 ((rd_T24 t269 0).f2), .string ((rd_T24 t269 0).f3)] 24 (0, 0))) := ⟨h2_⟩
                    have n3_ : Aside0 (w31.heap[gb279]? = some (.cells #[.int .i64 0, .int .u32 0, .int .u32 0, .string (⟨#[]⟩ : ByteArray)] 24 (0, 0))) := ⟨h3_⟩
                    have n4_ : Aside0 (w31.heap[gb280]? = some (.cells #[.int .i64 0, .int .u32 0, .int .u32 0, .string (⟨#[]⟩ : ByteArray)] 24 (0, 0))) := ⟨h4_⟩
                    have n5_ : Aside0 (w.heap.size ≤ gb279) := ⟨h5_⟩
                    have n6_ : Aside0 (w.heap.size ≤ gb279) := ⟨h6_⟩
                    have n7_ : Aside0 (gb261 ≠ gb279) := ⟨h7_⟩
                    have n8_ : Aside0 (gb279 ≠ gb261) := ⟨h8_⟩
                    have n9_ : Aside0 (gb273 ≠ gb279) := ⟨h9_⟩
                    have n10_ : Aside0 (gb279 ≠ gb273) := ⟨h10_⟩
                    have n11_ : Aside0 (gb280 ≠ gb279) := ⟨h11_⟩
                    have n12_ : Aside0 (gb279 ≠ gb280) := ⟨h12_⟩
                    have n13_ : Aside0 (w.heap.size ≤ gb280) := ⟨h13_⟩
                    have n14_ : Aside0 (w.heap.size ≤ gb280) := ⟨h14_⟩
                    have n15_ : Aside0 (gb261 ≠ gb280) := ⟨h15_⟩
                    have n16_ : Aside0 (gb280 ≠ gb261) := ⟨h16_⟩
                    have n17_ : Aside0 (gb273 ≠ gb280) := ⟨h17_⟩
                    have n18_ : Aside0 (gb280 ≠ gb273) := ⟨h18_⟩
                    have n19_ : Aside0 (Below w.heap.size w w31) := ⟨h19_⟩
                    clear HO_0
                    clear BK261
                    clear BK273
                    clear HB
                    clear h0_ h1_ h2_ h3_ h4_ h5_ h6_ h7_ h8_ h9_ h10_ h11_ h12_ h13_ h14_ h15_ h16_ h17_ h18_ h19_
                    have HO_0 := n0_
                    have BK261 := n1_
                    have BK273 := n2_
                    have BK279 := n3_
                    have BK280 := n4_
                    have GW279 := n5_
                    have GE279 := n6_
                    have NB261_279 := n7_
                    have NB279_261 := n8_
                    have NB273_279 := n9_
                    have NB279_273 := n10_
                    have NB280_279 := n11_
                    have NB279_280 := n12_
                    have GW280 := n13_
                    have GE280 := n14_
                    have NB261_280 := n15_
                    have NB280_261 := n16_
                    have NB273_280 := n17_
                    have NB280_273 := n18_
                    have HB := n19_
                    clear n0_ n1_ n2_ n3_ n4_ n5_ n6_ n7_ n8_ n9_ n10_ n11_ n12_ n13_ n14_ n15_ n16_ n17_ n18_ n19_
                    have hHeld : w31.cell? (ad277.add ((x7_1).toNat * 4)) = some (.int .i64 ((rd_T24 t263 x7_1).f0)) ∧ w31.cell? ⟨(ad277.add ((x7_1).toNat * 4)).block, (ad277.add ((x7_1).toNat * 4)).off + 1, none⟩ = some (.int .u32 ((rd_T24 t263 x7_1).f1)) ∧ w31.cell? ⟨(ad277.add ((x7_1).toNat * 4)).block, (ad277.add ((x7_1).toNat * 4)).off + 2, none⟩ = some (.int .u32 ((rd_T24 t263 x7_1).f2)) ∧ w31.cell? ⟨(ad277.add ((x7_1).toNat * 4)).block, (ad277.add ((x7_1).toNat * 4)).off + 3, none⟩ = some (.string ((rd_T24 t263 x7_1).f3)) ∧ w31.cell? (ad277.add (((ji23)).toNat * 4)) = some (.int .i64 ((rd_T24 t263 (ji23)).f0)) ∧ w31.cell? ⟨(ad277.add (((ji23)).toNat * 4)).block, (ad277.add (((ji23)).toNat * 4)).off + 1, none⟩ = some (.int .u32 ((rd_T24 t263 (ji23)).f1)) ∧ w31.cell? ⟨(ad277.add (((ji23)).toNat * 4)).block, (ad277.add (((ji23)).toNat * 4)).off + 2, none⟩ = some (.int .u32 ((rd_T24 t263 (ji23)).f2)) ∧ w31.cell? ⟨(ad277.add (((ji23)).toNat * 4)).block, (ad277.add (((ji23)).toNat * 4)).off + 3, none⟩ = some (.string ((rd_T24 t263 (ji23)).f3)) := hS_
                    refine norm_ (a' := ?_) ?_ ?_
                    rotate_left
                    · simp only [putAll, Act.put, List.setIfInBounds_toArray, List.set_cons_zero, List.set_cons_succ]
                      rfl
                    refine one_ (i := 14) (N := none) #[true, true, true, true, true, true, true, true, true, true, true, true, true, true, true, false] rfl rfl (one_of HT_.out (by kernel_rfl)) (by decide) (fun K hK => ?_)
                    have hs32 : w31.cell? ⟨gb279, 0, none⟩ = some (.int .i64 0) := (blk_cell BK279.out 0).trans rfl
                    have hfs32 := blk_frozen BK279.out 0
                    have hns32_0 := NB261_279.out
                    have hns32_1 := NB273_279.out
                    have hns32_3 := NB280_279.out
                    have hms32_0 := NB279_261.out
                    have hms32_1 := NB279_273.out
                    have hms32_3 := NB279_280.out
                    have hs33 : w31.cell? ⟨gb279, 1, none⟩ = some (.int .u32 0) := (blk_cell BK279.out 1).trans rfl
                    have hfs33 := blk_frozen BK279.out 1
                    have hns33_0 := NB261_279.out
                    have hns33_1 := NB273_279.out
                    have hns33_3 := NB280_279.out
                    have hms33_0 := NB279_261.out
                    have hms33_1 := NB279_273.out
                    have hms33_3 := NB279_280.out
                    have hs34 : w31.cell? ⟨gb279, 2, none⟩ = some (.int .u32 0) := (blk_cell BK279.out 2).trans rfl
                    have hfs34 := blk_frozen BK279.out 2
                    have hns34_0 := NB261_279.out
                    have hns34_1 := NB273_279.out
                    have hns34_3 := NB280_279.out
                    have hms34_0 := NB279_261.out
                    have hms34_1 := NB279_273.out
                    have hms34_3 := NB279_280.out
                    have hs35 : w31.cell? ⟨gb279, 3, none⟩ = some (.string (⟨#[]⟩ : ByteArray)) := (blk_cell BK279.out 3).trans rfl
                    have hfs35 := blk_frozen BK279.out 3
                    have hns35_0 := NB261_279.out
                    have hns35_1 := NB273_279.out
                    have hns35_3 := NB280_279.out
                    have hms35_0 := NB279_261.out
                    have hms35_1 := NB279_273.out
                    have hms35_3 := NB279_280.out
                    refine skip_ (w1 := ?_) (by rfl) rfl ?_ ?_
                    rotate_left
                    · go_simp
                      rfl
                    refine hK.out _ _ ⟨((cell_far (p := ⟨gb279, _, none⟩) (by first | exact Kd.own_blk (Kd.R_away HO_0.out (fun _ hk => hk.2.2.1)) | (rw [add_block]; exact Kd.own_blk (Kd.R_away HO_0.out (fun _ hk => hk.2.2.1))) | (show (Addr.add _ _).block ≠ _; rw [add_block]; exact Kd.own_blk (Kd.R_away HO_0.out (fun _ hk => hk.2.2.1))) | (dsimp only; exact Kd.own_blk (Kd.R_away HO_0.out (fun _ hk => hk.2.2.1)))) _).trans (((cell_far (p := ⟨gb279, _, none⟩) (by first | exact Kd.own_blk (Kd.R_away HO_0.out (fun _ hk => hk.2.2.1)) | (rw [add_block]; exact Kd.own_blk (Kd.R_away HO_0.out (fun _ hk => hk.2.2.1))) | (show (Addr.add _ _).block ≠ _; rw [add_block]; exact Kd.own_blk (Kd.R_away HO_0.out (fun _ hk => hk.2.2.1))) | (dsimp only; exact Kd.own_blk (Kd.R_away HO_0.out (fun _ hk => hk.2.2.1)))) _).trans (((cell_far (p := ⟨gb279, _, none⟩) (by first | exact Kd.own_blk (Kd.R_away HO_0.out (fun _ hk => hk.2.2.1)) | (rw [add_block]; exact Kd.own_blk (Kd.R_away HO_0.out (fun _ hk => hk.2.2.1))) | (show (Addr.add _ _).block ≠ _; rw [add_block]; exact Kd.own_blk (Kd.R_away HO_0.out (fun _ hk => hk.2.2.1))) | (dsimp only; exact Kd.own_blk (Kd.R_away HO_0.out (fun _ hk => hk.2.2.1)))) _).trans (((cell_far (p := ⟨gb279, _, none⟩) (by first | exact Kd.own_blk (Kd.R_away HO_0.out (fun _ hk => hk.2.2.1)) | (rw [add_block]; exact Kd.own_blk (Kd.R_away HO_0.out (fun _ hk => hk.2.2.1))) | (show (Addr.add _ _).block ≠ _; rw [add_block]; exact Kd.own_blk (Kd.R_away HO_0.out (fun _ hk => hk.2.2.1))) | (dsimp only; exact Kd.own_blk (Kd.R_away HO_0.out (fun _ hk => hk.2.2.1)))) _).trans (hHeld.1)))))))), ((cell_far (p := ⟨gb279, _, none⟩) (by first | exact Kd.own_blk (Kd.R_away HO_0.out (fun _ hk => hk.2.2.1)) | (rw [add_block]; exact Kd.own_blk (Kd.R_away HO_0.out (fun _ hk => hk.2.2.1))) | (show (Addr.add _ _).block ≠ _; rw [add_block]; exact Kd.own_blk (Kd.R_away HO_0.out (fun _ hk => hk.2.2.1))) | (dsimp only; exact Kd.own_blk (Kd.R_away HO_0.out (fun _ hk => hk.2.2.1)))) _).trans (((cell_far (p := ⟨gb279, _, none⟩) (by first | exact Kd.own_blk (Kd.R_away HO_0.out (fun _ hk => hk.2.2.1)) | (rw [add_block]; exact Kd.own_blk (Kd.R_away HO_0.out (fun _ hk => hk.2.2.1))) | (show (Addr.add _ _).block ≠ _; rw [add_block]; exact Kd.own_blk (Kd.R_away HO_0.out (fun _ hk => hk.2.2.1))) | (dsimp only; exact Kd.own_blk (Kd.R_away HO_0.out (fun _ hk => hk.2.2.1)))) _).trans (((cell_far (p := ⟨gb279, _, none⟩) (by first | exact Kd.own_blk (Kd.R_away HO_0.out (fun _ hk => hk.2.2.1)) | (rw [add_block]; exact Kd.own_blk (Kd.R_away HO_0.out (fun _ hk => hk.2.2.1))) | (show (Addr.add _ _).block ≠ _; rw [add_block]; exact Kd.own_blk (Kd.R_away HO_0.out (fun _ hk => hk.2.2.1))) | (dsimp only; exact Kd.own_blk (Kd.R_away HO_0.out (fun _ hk => hk.2.2.1)))) _).trans (((cell_far (p := ⟨gb279, _, none⟩) (by first | exact Kd.own_blk (Kd.R_away HO_0.out (fun _ hk => hk.2.2.1)) | (rw [add_block]; exact Kd.own_blk (Kd.R_away HO_0.out (fun _ hk => hk.2.2.1))) | (show (Addr.add _ _).block ≠ _; rw [add_block]; exact Kd.own_blk (Kd.R_away HO_0.out (fun _ hk => hk.2.2.1))) | (dsimp only; exact Kd.own_blk (Kd.R_away HO_0.out (fun _ hk => hk.2.2.1)))) _).trans (hHeld.2.1)))))))), ((cell_far (p := ⟨gb279, _, none⟩) (by first | exact Kd.own_blk (Kd.R_away HO_0.out (fun _ hk => hk.2.2.1)) | (rw [add_block]; exact Kd.own_blk (Kd.R_away HO_0.out (fun _ hk => hk.2.2.1))) | (show (Addr.add _ _).block ≠ _; rw [add_block]; exact Kd.own_blk (Kd.R_away HO_0.out (fun _ hk => hk.2.2.1))) | (dsimp only; exact Kd.own_blk (Kd.R_away HO_0.out (fun _ hk => hk.2.2.1)))) _).trans (((cell_far (p := ⟨gb279, _, none⟩) (by first | exact Kd.own_blk (Kd.R_away HO_0.out (fun _ hk => hk.2.2.1)) | (rw [add_block]; exact Kd.own_blk (Kd.R_away HO_0.out (fun _ hk => hk.2.2.1))) | (show (Addr.add _ _).block ≠ _; rw [add_block]; exact Kd.own_blk (Kd.R_away HO_0.out (fun _ hk => hk.2.2.1))) | (dsimp only; exact Kd.own_blk (Kd.R_away HO_0.out (fun _ hk => hk.2.2.1)))) _).trans (((cell_far (p := ⟨gb279, _, none⟩) (by first | exact Kd.own_blk (Kd.R_away HO_0.out (fun _ hk => hk.2.2.1)) | (rw [add_block]; exact Kd.own_blk (Kd.R_away HO_0.out (fun _ hk => hk.2.2.1))) | (show (Addr.add _ _).block ≠ _; rw [add_block]; exact Kd.own_blk (Kd.R_away HO_0.out (fun _ hk => hk.2.2.1))) | (dsimp only; exact Kd.own_blk (Kd.R_away HO_0.out (fun _ hk => hk.2.2.1)))) _).trans (((cell_far (p := ⟨gb279, _, none⟩) (by first | exact Kd.own_blk (Kd.R_away HO_0.out (fun _ hk => hk.2.2.1)) | (rw [add_block]; exact Kd.own_blk (Kd.R_away HO_0.out (fun _ hk => hk.2.2.1))) | (show (Addr.add _ _).block ≠ _; rw [add_block]; exact Kd.own_blk (Kd.R_away HO_0.out (fun _ hk => hk.2.2.1))) | (dsimp only; exact Kd.own_blk (Kd.R_away HO_0.out (fun _ hk => hk.2.2.1)))) _).trans (hHeld.2.2.1)))))))), ((cell_far (p := ⟨gb279, _, none⟩) (by first | exact Kd.own_blk (Kd.R_away HO_0.out (fun _ hk => hk.2.2.1)) | (rw [add_block]; exact Kd.own_blk (Kd.R_away HO_0.out (fun _ hk => hk.2.2.1))) | (show (Addr.add _ _).block ≠ _; rw [add_block]; exact Kd.own_blk (Kd.R_away HO_0.out (fun _ hk => hk.2.2.1))) | (dsimp only; exact Kd.own_blk (Kd.R_away HO_0.out (fun _ hk => hk.2.2.1)))) _).trans (((cell_far (p := ⟨gb279, _, none⟩) (by first | exact Kd.own_blk (Kd.R_away HO_0.out (fun _ hk => hk.2.2.1)) | (rw [add_block]; exact Kd.own_blk (Kd.R_away HO_0.out (fun _ hk => hk.2.2.1))) | (show (Addr.add _ _).block ≠ _; rw [add_block]; exact Kd.own_blk (Kd.R_away HO_0.out (fun _ hk => hk.2.2.1))) | (dsimp only; exact Kd.own_blk (Kd.R_away HO_0.out (fun _ hk => hk.2.2.1)))) _).trans (((cell_far (p := ⟨gb279, _, none⟩) (by first | exact Kd.own_blk (Kd.R_away HO_0.out (fun _ hk => hk.2.2.1)) | (rw [add_block]; exact Kd.own_blk (Kd.R_away HO_0.out (fun _ hk => hk.2.2.1))) | (show (Addr.add _ _).block ≠ _; rw [add_block]; exact Kd.own_blk (Kd.R_away HO_0.out (fun _ hk => hk.2.2.1))) | (dsimp only; exact Kd.own_blk (Kd.R_away HO_0.out (fun _ hk => hk.2.2.1)))) _).trans (((cell_far (p := ⟨gb279, _, none⟩) (by first | exact Kd.own_blk (Kd.R_away HO_0.out (fun _ hk => hk.2.2.1)) | (rw [add_block]; exact Kd.own_blk (Kd.R_away HO_0.out (fun _ hk => hk.2.2.1))) | (show (Addr.add _ _).block ≠ _; rw [add_block]; exact Kd.own_blk (Kd.R_away HO_0.out (fun _ hk => hk.2.2.1))) | (dsimp only; exact Kd.own_blk (Kd.R_away HO_0.out (fun _ hk => hk.2.2.1)))) _).trans (hHeld.2.2.2.1)))))))), ((cell_far (p := ⟨gb279, _, none⟩) (by first | exact Kd.own_blk (Kd.R_away HO_0.out (fun _ hk => hk.2.2.1)) | (rw [add_block]; exact Kd.own_blk (Kd.R_away HO_0.out (fun _ hk => hk.2.2.1))) | (show (Addr.add _ _).block ≠ _; rw [add_block]; exact Kd.own_blk (Kd.R_away HO_0.out (fun _ hk => hk.2.2.1))) | (dsimp only; exact Kd.own_blk (Kd.R_away HO_0.out (fun _ hk => hk.2.2.1)))) _).trans (((cell_far (p := ⟨gb279, _, none⟩) (by first | exact Kd.own_blk (Kd.R_away HO_0.out (fun _ hk => hk.2.2.1)) | (rw [add_block]; exact Kd.own_blk (Kd.R_away HO_0.out (fun _ hk => hk.2.2.1))) | (show (Addr.add _ _).block ≠ _; rw [add_block]; exact Kd.own_blk (Kd.R_away HO_0.out (fun _ hk => hk.2.2.1))) | (dsimp only; exact Kd.own_blk (Kd.R_away HO_0.out (fun _ hk => hk.2.2.1)))) _).trans (((cell_far (p := ⟨gb279, _, none⟩) (by first | exact Kd.own_blk (Kd.R_away HO_0.out (fun _ hk => hk.2.2.1)) | (rw [add_block]; exact Kd.own_blk (Kd.R_away HO_0.out (fun _ hk => hk.2.2.1))) | (show (Addr.add _ _).block ≠ _; rw [add_block]; exact Kd.own_blk (Kd.R_away HO_0.out (fun _ hk => hk.2.2.1))) | (dsimp only; exact Kd.own_blk (Kd.R_away HO_0.out (fun _ hk => hk.2.2.1)))) _).trans (((cell_far (p := ⟨gb279, _, none⟩) (by first | exact Kd.own_blk (Kd.R_away HO_0.out (fun _ hk => hk.2.2.1)) | (rw [add_block]; exact Kd.own_blk (Kd.R_away HO_0.out (fun _ hk => hk.2.2.1))) | (show (Addr.add _ _).block ≠ _; rw [add_block]; exact Kd.own_blk (Kd.R_away HO_0.out (fun _ hk => hk.2.2.1))) | (dsimp only; exact Kd.own_blk (Kd.R_away HO_0.out (fun _ hk => hk.2.2.1)))) _).trans (hHeld.2.2.2.2.1)))))))), ((cell_far (p := ⟨gb279, _, none⟩) (by first | exact Kd.own_blk (Kd.R_away HO_0.out (fun _ hk => hk.2.2.1)) | (rw [add_block]; exact Kd.own_blk (Kd.R_away HO_0.out (fun _ hk => hk.2.2.1))) | (show (Addr.add _ _).block ≠ _; rw [add_block]; exact Kd.own_blk (Kd.R_away HO_0.out (fun _ hk => hk.2.2.1))) | (dsimp only; exact Kd.own_blk (Kd.R_away HO_0.out (fun _ hk => hk.2.2.1)))) _).trans (((cell_far (p := ⟨gb279, _, none⟩) (by first | exact Kd.own_blk (Kd.R_away HO_0.out (fun _ hk => hk.2.2.1)) | (rw [add_block]; exact Kd.own_blk (Kd.R_away HO_0.out (fun _ hk => hk.2.2.1))) | (show (Addr.add _ _).block ≠ _; rw [add_block]; exact Kd.own_blk (Kd.R_away HO_0.out (fun _ hk => hk.2.2.1))) | (dsimp only; exact Kd.own_blk (Kd.R_away HO_0.out (fun _ hk => hk.2.2.1)))) _).trans (((cell_far (p := ⟨gb279, _, none⟩) (by first | exact Kd.own_blk (Kd.R_away HO_0.out (fun _ hk => hk.2.2.1)) | (rw [add_block]; exact Kd.own_blk (Kd.R_away HO_0.out (fun _ hk => hk.2.2.1))) | (show (Addr.add _ _).block ≠ _; rw [add_block]; exact Kd.own_blk (Kd.R_away HO_0.out (fun _ hk => hk.2.2.1))) | (dsimp only; exact Kd.own_blk (Kd.R_away HO_0.out (fun _ hk => hk.2.2.1)))) _).trans (((cell_far (p := ⟨gb279, _, none⟩) (by first | exact Kd.own_blk (Kd.R_away HO_0.out (fun _ hk => hk.2.2.1)) | (rw [add_block]; exact Kd.own_blk (Kd.R_away HO_0.out (fun _ hk => hk.2.2.1))) | (show (Addr.add _ _).block ≠ _; rw [add_block]; exact Kd.own_blk (Kd.R_away HO_0.out (fun _ hk => hk.2.2.1))) | (dsimp only; exact Kd.own_blk (Kd.R_away HO_0.out (fun _ hk => hk.2.2.1)))) _).trans (hHeld.2.2.2.2.2.1)))))))), ((cell_far (p := ⟨gb279, _, none⟩) (by first | exact Kd.own_blk (Kd.R_away HO_0.out (fun _ hk => hk.2.2.1)) | (rw [add_block]; exact Kd.own_blk (Kd.R_away HO_0.out (fun _ hk => hk.2.2.1))) | (show (Addr.add _ _).block ≠ _; rw [add_block]; exact Kd.own_blk (Kd.R_away HO_0.out (fun _ hk => hk.2.2.1))) | (dsimp only; exact Kd.own_blk (Kd.R_away HO_0.out (fun _ hk => hk.2.2.1)))) _).trans (((cell_far (p := ⟨gb279, _, none⟩) (by first | exact Kd.own_blk (Kd.R_away HO_0.out (fun _ hk => hk.2.2.1)) | (rw [add_block]; exact Kd.own_blk (Kd.R_away HO_0.out (fun _ hk => hk.2.2.1))) | (show (Addr.add _ _).block ≠ _; rw [add_block]; exact Kd.own_blk (Kd.R_away HO_0.out (fun _ hk => hk.2.2.1))) | (dsimp only; exact Kd.own_blk (Kd.R_away HO_0.out (fun _ hk => hk.2.2.1)))) _).trans (((cell_far (p := ⟨gb279, _, none⟩) (by first | exact Kd.own_blk (Kd.R_away HO_0.out (fun _ hk => hk.2.2.1)) | (rw [add_block]; exact Kd.own_blk (Kd.R_away HO_0.out (fun _ hk => hk.2.2.1))) | (show (Addr.add _ _).block ≠ _; rw [add_block]; exact Kd.own_blk (Kd.R_away HO_0.out (fun _ hk => hk.2.2.1))) | (dsimp only; exact Kd.own_blk (Kd.R_away HO_0.out (fun _ hk => hk.2.2.1)))) _).trans (((cell_far (p := ⟨gb279, _, none⟩) (by first | exact Kd.own_blk (Kd.R_away HO_0.out (fun _ hk => hk.2.2.1)) | (rw [add_block]; exact Kd.own_blk (Kd.R_away HO_0.out (fun _ hk => hk.2.2.1))) | (show (Addr.add _ _).block ≠ _; rw [add_block]; exact Kd.own_blk (Kd.R_away HO_0.out (fun _ hk => hk.2.2.1))) | (dsimp only; exact Kd.own_blk (Kd.R_away HO_0.out (fun _ hk => hk.2.2.1)))) _).trans (hHeld.2.2.2.2.2.2.1)))))))), ((cell_far (p := ⟨gb279, _, none⟩) (by first | exact Kd.own_blk (Kd.R_away HO_0.out (fun _ hk => hk.2.2.1)) | (rw [add_block]; exact Kd.own_blk (Kd.R_away HO_0.out (fun _ hk => hk.2.2.1))) | (show (Addr.add _ _).block ≠ _; rw [add_block]; exact Kd.own_blk (Kd.R_away HO_0.out (fun _ hk => hk.2.2.1))) | (dsimp only; exact Kd.own_blk (Kd.R_away HO_0.out (fun _ hk => hk.2.2.1)))) _).trans (((cell_far (p := ⟨gb279, _, none⟩) (by first | exact Kd.own_blk (Kd.R_away HO_0.out (fun _ hk => hk.2.2.1)) | (rw [add_block]; exact Kd.own_blk (Kd.R_away HO_0.out (fun _ hk => hk.2.2.1))) | (show (Addr.add _ _).block ≠ _; rw [add_block]; exact Kd.own_blk (Kd.R_away HO_0.out (fun _ hk => hk.2.2.1))) | (dsimp only; exact Kd.own_blk (Kd.R_away HO_0.out (fun _ hk => hk.2.2.1)))) _).trans (((cell_far (p := ⟨gb279, _, none⟩) (by first | exact Kd.own_blk (Kd.R_away HO_0.out (fun _ hk => hk.2.2.1)) | (rw [add_block]; exact Kd.own_blk (Kd.R_away HO_0.out (fun _ hk => hk.2.2.1))) | (show (Addr.add _ _).block ≠ _; rw [add_block]; exact Kd.own_blk (Kd.R_away HO_0.out (fun _ hk => hk.2.2.1))) | (dsimp only; exact Kd.own_blk (Kd.R_away HO_0.out (fun _ hk => hk.2.2.1)))) _).trans (((cell_far (p := ⟨gb279, _, none⟩) (by first | exact Kd.own_blk (Kd.R_away HO_0.out (fun _ hk => hk.2.2.1)) | (rw [add_block]; exact Kd.own_blk (Kd.R_away HO_0.out (fun _ hk => hk.2.2.1))) | (show (Addr.add _ _).block ≠ _; rw [add_block]; exact Kd.own_blk (Kd.R_away HO_0.out (fun _ hk => hk.2.2.1))) | (dsimp only; exact Kd.own_blk (Kd.R_away HO_0.out (fun _ hk => hk.2.2.1)))) _).trans (hHeld.2.2.2.2.2.2.2))))))))⟩ (fun hHeld => ?_)
                    clear hK K
                    refine one_ (i := 15) (N := none) #[true, true, true, true, true, true, true, true, true, true, true, true, true, true, true, true] rfl rfl (one_of HT_.out (by kernel_rfl)) (by decide) (fun K hK => ?_)
                    have hs36 : w31.cell? ⟨gb280, 0, none⟩ = some (.int .i64 0) := (blk_cell BK280.out 0).trans rfl
                    have hfs36 := blk_frozen BK280.out 0
                    have hns36_0 := NB261_280.out
                    have hns36_1 := NB273_280.out
                    have hns36_2 := NB279_280.out
                    have hms36_0 := NB280_261.out
                    have hms36_1 := NB280_273.out
                    have hms36_2 := NB280_279.out
                    have hs37 : w31.cell? ⟨gb280, 1, none⟩ = some (.int .u32 0) := (blk_cell BK280.out 1).trans rfl
                    have hfs37 := blk_frozen BK280.out 1
                    have hns37_0 := NB261_280.out
                    have hns37_1 := NB273_280.out
                    have hns37_2 := NB279_280.out
                    have hms37_0 := NB280_261.out
                    have hms37_1 := NB280_273.out
                    have hms37_2 := NB280_279.out
                    have hs38 : w31.cell? ⟨gb280, 2, none⟩ = some (.int .u32 0) := (blk_cell BK280.out 2).trans rfl
                    have hfs38 := blk_frozen BK280.out 2
                    have hns38_0 := NB261_280.out
                    have hns38_1 := NB273_280.out
                    have hns38_2 := NB279_280.out
                    have hms38_0 := NB280_261.out
                    have hms38_1 := NB280_273.out
                    have hms38_2 := NB280_279.out
                    have hs39 : w31.cell? ⟨gb280, 3, none⟩ = some (.string (⟨#[]⟩ : ByteArray)) := (blk_cell BK280.out 3).trans rfl
                    have hfs39 := blk_frozen BK280.out 3
                    have hns39_0 := NB261_280.out
                    have hns39_1 := NB273_280.out
                    have hns39_2 := NB279_280.out
                    have hms39_0 := NB280_261.out
                    have hms39_1 := NB280_273.out
                    have hms39_2 := NB280_279.out
                    refine skip_ (w1 := ?_) (by rfl) rfl ?_ ?_
                    rotate_left
                    · go_simp
                      rfl
                    refine hK.out _ _ ⟨((cell_far (p := ⟨gb280, _, none⟩) (by first | exact Kd.own_blk (Kd.R_away HO_0.out (fun _ hk => hk.2.2.2)) | (rw [add_block]; exact Kd.own_blk (Kd.R_away HO_0.out (fun _ hk => hk.2.2.2))) | (show (Addr.add _ _).block ≠ _; rw [add_block]; exact Kd.own_blk (Kd.R_away HO_0.out (fun _ hk => hk.2.2.2))) | (dsimp only; exact Kd.own_blk (Kd.R_away HO_0.out (fun _ hk => hk.2.2.2)))) _).trans (((cell_far (p := ⟨gb280, _, none⟩) (by first | exact Kd.own_blk (Kd.R_away HO_0.out (fun _ hk => hk.2.2.2)) | (rw [add_block]; exact Kd.own_blk (Kd.R_away HO_0.out (fun _ hk => hk.2.2.2))) | (show (Addr.add _ _).block ≠ _; rw [add_block]; exact Kd.own_blk (Kd.R_away HO_0.out (fun _ hk => hk.2.2.2))) | (dsimp only; exact Kd.own_blk (Kd.R_away HO_0.out (fun _ hk => hk.2.2.2)))) _).trans (((cell_far (p := ⟨gb280, _, none⟩) (by first | exact Kd.own_blk (Kd.R_away HO_0.out (fun _ hk => hk.2.2.2)) | (rw [add_block]; exact Kd.own_blk (Kd.R_away HO_0.out (fun _ hk => hk.2.2.2))) | (show (Addr.add _ _).block ≠ _; rw [add_block]; exact Kd.own_blk (Kd.R_away HO_0.out (fun _ hk => hk.2.2.2))) | (dsimp only; exact Kd.own_blk (Kd.R_away HO_0.out (fun _ hk => hk.2.2.2)))) _).trans (((cell_far (p := ⟨gb280, _, none⟩) (by first | exact Kd.own_blk (Kd.R_away HO_0.out (fun _ hk => hk.2.2.2)) | (rw [add_block]; exact Kd.own_blk (Kd.R_away HO_0.out (fun _ hk => hk.2.2.2))) | (show (Addr.add _ _).block ≠ _; rw [add_block]; exact Kd.own_blk (Kd.R_away HO_0.out (fun _ hk => hk.2.2.2))) | (dsimp only; exact Kd.own_blk (Kd.R_away HO_0.out (fun _ hk => hk.2.2.2)))) _).trans (hHeld.1)))))))), ((cell_far (p := ⟨gb280, _, none⟩) (by first | exact Kd.own_blk (Kd.R_away HO_0.out (fun _ hk => hk.2.2.2)) | (rw [add_block]; exact Kd.own_blk (Kd.R_away HO_0.out (fun _ hk => hk.2.2.2))) | (show (Addr.add _ _).block ≠ _; rw [add_block]; exact Kd.own_blk (Kd.R_away HO_0.out (fun _ hk => hk.2.2.2))) | (dsimp only; exact Kd.own_blk (Kd.R_away HO_0.out (fun _ hk => hk.2.2.2)))) _).trans (((cell_far (p := ⟨gb280, _, none⟩) (by first | exact Kd.own_blk (Kd.R_away HO_0.out (fun _ hk => hk.2.2.2)) | (rw [add_block]; exact Kd.own_blk (Kd.R_away HO_0.out (fun _ hk => hk.2.2.2))) | (show (Addr.add _ _).block ≠ _; rw [add_block]; exact Kd.own_blk (Kd.R_away HO_0.out (fun _ hk => hk.2.2.2))) | (dsimp only; exact Kd.own_blk (Kd.R_away HO_0.out (fun _ hk => hk.2.2.2)))) _).trans (((cell_far (p := ⟨gb280, _, none⟩) (by first | exact Kd.own_blk (Kd.R_away HO_0.out (fun _ hk => hk.2.2.2)) | (rw [add_block]; exact Kd.own_blk (Kd.R_away HO_0.out (fun _ hk => hk.2.2.2))) | (show (Addr.add _ _).block ≠ _; rw [add_block]; exact Kd.own_blk (Kd.R_away HO_0.out (fun _ hk => hk.2.2.2))) | (dsimp only; exact Kd.own_blk (Kd.R_away HO_0.out (fun _ hk => hk.2.2.2)))) _).trans (((cell_far (p := ⟨gb280, _, none⟩) (by first | exact Kd.own_blk (Kd.R_away HO_0.out (fun _ hk => hk.2.2.2)) | (rw [add_block]; exact Kd.own_blk (Kd.R_away HO_0.out (fun _ hk => hk.2.2.2))) | (show (Addr.add _ _).block ≠ _; rw [add_block]; exact Kd.own_blk (Kd.R_away HO_0.out (fun _ hk => hk.2.2.2))) | (dsimp only; exact Kd.own_blk (Kd.R_away HO_0.out (fun _ hk => hk.2.2.2)))) _).trans (hHeld.2.1)))))))), ((cell_far (p := ⟨gb280, _, none⟩) (by first | exact Kd.own_blk (Kd.R_away HO_0.out (fun _ hk => hk.2.2.2)) | (rw [add_block]; exact Kd.own_blk (Kd.R_away HO_0.out (fun _ hk => hk.2.2.2))) | (show (Addr.add _ _).block ≠ _; rw [add_block]; exact Kd.own_blk (Kd.R_away HO_0.out (fun _ hk => hk.2.2.2))) | (dsimp only; exact Kd.own_blk (Kd.R_away HO_0.out (fun _ hk => hk.2.2.2)))) _).trans (((cell_far (p := ⟨gb280, _, none⟩) (by first | exact Kd.own_blk (Kd.R_away HO_0.out (fun _ hk => hk.2.2.2)) | (rw [add_block]; exact Kd.own_blk (Kd.R_away HO_0.out (fun _ hk => hk.2.2.2))) | (show (Addr.add _ _).block ≠ _; rw [add_block]; exact Kd.own_blk (Kd.R_away HO_0.out (fun _ hk => hk.2.2.2))) | (dsimp only; exact Kd.own_blk (Kd.R_away HO_0.out (fun _ hk => hk.2.2.2)))) _).trans (((cell_far (p := ⟨gb280, _, none⟩) (by first | exact Kd.own_blk (Kd.R_away HO_0.out (fun _ hk => hk.2.2.2)) | (rw [add_block]; exact Kd.own_blk (Kd.R_away HO_0.out (fun _ hk => hk.2.2.2))) | (show (Addr.add _ _).block ≠ _; rw [add_block]; exact Kd.own_blk (Kd.R_away HO_0.out (fun _ hk => hk.2.2.2))) | (dsimp only; exact Kd.own_blk (Kd.R_away HO_0.out (fun _ hk => hk.2.2.2)))) _).trans (((cell_far (p := ⟨gb280, _, none⟩) (by first | exact Kd.own_blk (Kd.R_away HO_0.out (fun _ hk => hk.2.2.2)) | (rw [add_block]; exact Kd.own_blk (Kd.R_away HO_0.out (fun _ hk => hk.2.2.2))) | (show (Addr.add _ _).block ≠ _; rw [add_block]; exact Kd.own_blk (Kd.R_away HO_0.out (fun _ hk => hk.2.2.2))) | (dsimp only; exact Kd.own_blk (Kd.R_away HO_0.out (fun _ hk => hk.2.2.2)))) _).trans (hHeld.2.2.1)))))))), ((cell_far (p := ⟨gb280, _, none⟩) (by first | exact Kd.own_blk (Kd.R_away HO_0.out (fun _ hk => hk.2.2.2)) | (rw [add_block]; exact Kd.own_blk (Kd.R_away HO_0.out (fun _ hk => hk.2.2.2))) | (show (Addr.add _ _).block ≠ _; rw [add_block]; exact Kd.own_blk (Kd.R_away HO_0.out (fun _ hk => hk.2.2.2))) | (dsimp only; exact Kd.own_blk (Kd.R_away HO_0.out (fun _ hk => hk.2.2.2)))) _).trans (((cell_far (p := ⟨gb280, _, none⟩) (by first | exact Kd.own_blk (Kd.R_away HO_0.out (fun _ hk => hk.2.2.2)) | (rw [add_block]; exact Kd.own_blk (Kd.R_away HO_0.out (fun _ hk => hk.2.2.2))) | (show (Addr.add _ _).block ≠ _; rw [add_block]; exact Kd.own_blk (Kd.R_away HO_0.out (fun _ hk => hk.2.2.2))) | (dsimp only; exact Kd.own_blk (Kd.R_away HO_0.out (fun _ hk => hk.2.2.2)))) _).trans (((cell_far (p := ⟨gb280, _, none⟩) (by first | exact Kd.own_blk (Kd.R_away HO_0.out (fun _ hk => hk.2.2.2)) | (rw [add_block]; exact Kd.own_blk (Kd.R_away HO_0.out (fun _ hk => hk.2.2.2))) | (show (Addr.add _ _).block ≠ _; rw [add_block]; exact Kd.own_blk (Kd.R_away HO_0.out (fun _ hk => hk.2.2.2))) | (dsimp only; exact Kd.own_blk (Kd.R_away HO_0.out (fun _ hk => hk.2.2.2)))) _).trans (((cell_far (p := ⟨gb280, _, none⟩) (by first | exact Kd.own_blk (Kd.R_away HO_0.out (fun _ hk => hk.2.2.2)) | (rw [add_block]; exact Kd.own_blk (Kd.R_away HO_0.out (fun _ hk => hk.2.2.2))) | (show (Addr.add _ _).block ≠ _; rw [add_block]; exact Kd.own_blk (Kd.R_away HO_0.out (fun _ hk => hk.2.2.2))) | (dsimp only; exact Kd.own_blk (Kd.R_away HO_0.out (fun _ hk => hk.2.2.2)))) _).trans (hHeld.2.2.2.1)))))))), ((cell_far (p := ⟨gb280, _, none⟩) (by first | exact Kd.own_blk (Kd.R_away HO_0.out (fun _ hk => hk.2.2.2)) | (rw [add_block]; exact Kd.own_blk (Kd.R_away HO_0.out (fun _ hk => hk.2.2.2))) | (show (Addr.add _ _).block ≠ _; rw [add_block]; exact Kd.own_blk (Kd.R_away HO_0.out (fun _ hk => hk.2.2.2))) | (dsimp only; exact Kd.own_blk (Kd.R_away HO_0.out (fun _ hk => hk.2.2.2)))) _).trans (((cell_far (p := ⟨gb280, _, none⟩) (by first | exact Kd.own_blk (Kd.R_away HO_0.out (fun _ hk => hk.2.2.2)) | (rw [add_block]; exact Kd.own_blk (Kd.R_away HO_0.out (fun _ hk => hk.2.2.2))) | (show (Addr.add _ _).block ≠ _; rw [add_block]; exact Kd.own_blk (Kd.R_away HO_0.out (fun _ hk => hk.2.2.2))) | (dsimp only; exact Kd.own_blk (Kd.R_away HO_0.out (fun _ hk => hk.2.2.2)))) _).trans (((cell_far (p := ⟨gb280, _, none⟩) (by first | exact Kd.own_blk (Kd.R_away HO_0.out (fun _ hk => hk.2.2.2)) | (rw [add_block]; exact Kd.own_blk (Kd.R_away HO_0.out (fun _ hk => hk.2.2.2))) | (show (Addr.add _ _).block ≠ _; rw [add_block]; exact Kd.own_blk (Kd.R_away HO_0.out (fun _ hk => hk.2.2.2))) | (dsimp only; exact Kd.own_blk (Kd.R_away HO_0.out (fun _ hk => hk.2.2.2)))) _).trans (((cell_far (p := ⟨gb280, _, none⟩) (by first | exact Kd.own_blk (Kd.R_away HO_0.out (fun _ hk => hk.2.2.2)) | (rw [add_block]; exact Kd.own_blk (Kd.R_away HO_0.out (fun _ hk => hk.2.2.2))) | (show (Addr.add _ _).block ≠ _; rw [add_block]; exact Kd.own_blk (Kd.R_away HO_0.out (fun _ hk => hk.2.2.2))) | (dsimp only; exact Kd.own_blk (Kd.R_away HO_0.out (fun _ hk => hk.2.2.2)))) _).trans (hHeld.2.2.2.2.1)))))))), ((cell_far (p := ⟨gb280, _, none⟩) (by first | exact Kd.own_blk (Kd.R_away HO_0.out (fun _ hk => hk.2.2.2)) | (rw [add_block]; exact Kd.own_blk (Kd.R_away HO_0.out (fun _ hk => hk.2.2.2))) | (show (Addr.add _ _).block ≠ _; rw [add_block]; exact Kd.own_blk (Kd.R_away HO_0.out (fun _ hk => hk.2.2.2))) | (dsimp only; exact Kd.own_blk (Kd.R_away HO_0.out (fun _ hk => hk.2.2.2)))) _).trans (((cell_far (p := ⟨gb280, _, none⟩) (by first | exact Kd.own_blk (Kd.R_away HO_0.out (fun _ hk => hk.2.2.2)) | (rw [add_block]; exact Kd.own_blk (Kd.R_away HO_0.out (fun _ hk => hk.2.2.2))) | (show (Addr.add _ _).block ≠ _; rw [add_block]; exact Kd.own_blk (Kd.R_away HO_0.out (fun _ hk => hk.2.2.2))) | (dsimp only; exact Kd.own_blk (Kd.R_away HO_0.out (fun _ hk => hk.2.2.2)))) _).trans (((cell_far (p := ⟨gb280, _, none⟩) (by first | exact Kd.own_blk (Kd.R_away HO_0.out (fun _ hk => hk.2.2.2)) | (rw [add_block]; exact Kd.own_blk (Kd.R_away HO_0.out (fun _ hk => hk.2.2.2))) | (show (Addr.add _ _).block ≠ _; rw [add_block]; exact Kd.own_blk (Kd.R_away HO_0.out (fun _ hk => hk.2.2.2))) | (dsimp only; exact Kd.own_blk (Kd.R_away HO_0.out (fun _ hk => hk.2.2.2)))) _).trans (((cell_far (p := ⟨gb280, _, none⟩) (by first | exact Kd.own_blk (Kd.R_away HO_0.out (fun _ hk => hk.2.2.2)) | (rw [add_block]; exact Kd.own_blk (Kd.R_away HO_0.out (fun _ hk => hk.2.2.2))) | (show (Addr.add _ _).block ≠ _; rw [add_block]; exact Kd.own_blk (Kd.R_away HO_0.out (fun _ hk => hk.2.2.2))) | (dsimp only; exact Kd.own_blk (Kd.R_away HO_0.out (fun _ hk => hk.2.2.2)))) _).trans (hHeld.2.2.2.2.2.1)))))))), ((cell_far (p := ⟨gb280, _, none⟩) (by first | exact Kd.own_blk (Kd.R_away HO_0.out (fun _ hk => hk.2.2.2)) | (rw [add_block]; exact Kd.own_blk (Kd.R_away HO_0.out (fun _ hk => hk.2.2.2))) | (show (Addr.add _ _).block ≠ _; rw [add_block]; exact Kd.own_blk (Kd.R_away HO_0.out (fun _ hk => hk.2.2.2))) | (dsimp only; exact Kd.own_blk (Kd.R_away HO_0.out (fun _ hk => hk.2.2.2)))) _).trans (((cell_far (p := ⟨gb280, _, none⟩) (by first | exact Kd.own_blk (Kd.R_away HO_0.out (fun _ hk => hk.2.2.2)) | (rw [add_block]; exact Kd.own_blk (Kd.R_away HO_0.out (fun _ hk => hk.2.2.2))) | (show (Addr.add _ _).block ≠ _; rw [add_block]; exact Kd.own_blk (Kd.R_away HO_0.out (fun _ hk => hk.2.2.2))) | (dsimp only; exact Kd.own_blk (Kd.R_away HO_0.out (fun _ hk => hk.2.2.2)))) _).trans (((cell_far (p := ⟨gb280, _, none⟩) (by first | exact Kd.own_blk (Kd.R_away HO_0.out (fun _ hk => hk.2.2.2)) | (rw [add_block]; exact Kd.own_blk (Kd.R_away HO_0.out (fun _ hk => hk.2.2.2))) | (show (Addr.add _ _).block ≠ _; rw [add_block]; exact Kd.own_blk (Kd.R_away HO_0.out (fun _ hk => hk.2.2.2))) | (dsimp only; exact Kd.own_blk (Kd.R_away HO_0.out (fun _ hk => hk.2.2.2)))) _).trans (((cell_far (p := ⟨gb280, _, none⟩) (by first | exact Kd.own_blk (Kd.R_away HO_0.out (fun _ hk => hk.2.2.2)) | (rw [add_block]; exact Kd.own_blk (Kd.R_away HO_0.out (fun _ hk => hk.2.2.2))) | (show (Addr.add _ _).block ≠ _; rw [add_block]; exact Kd.own_blk (Kd.R_away HO_0.out (fun _ hk => hk.2.2.2))) | (dsimp only; exact Kd.own_blk (Kd.R_away HO_0.out (fun _ hk => hk.2.2.2)))) _).trans (hHeld.2.2.2.2.2.2.1)))))))), ((cell_far (p := ⟨gb280, _, none⟩) (by first | exact Kd.own_blk (Kd.R_away HO_0.out (fun _ hk => hk.2.2.2)) | (rw [add_block]; exact Kd.own_blk (Kd.R_away HO_0.out (fun _ hk => hk.2.2.2))) | (show (Addr.add _ _).block ≠ _; rw [add_block]; exact Kd.own_blk (Kd.R_away HO_0.out (fun _ hk => hk.2.2.2))) | (dsimp only; exact Kd.own_blk (Kd.R_away HO_0.out (fun _ hk => hk.2.2.2)))) _).trans (((cell_far (p := ⟨gb280, _, none⟩) (by first | exact Kd.own_blk (Kd.R_away HO_0.out (fun _ hk => hk.2.2.2)) | (rw [add_block]; exact Kd.own_blk (Kd.R_away HO_0.out (fun _ hk => hk.2.2.2))) | (show (Addr.add _ _).block ≠ _; rw [add_block]; exact Kd.own_blk (Kd.R_away HO_0.out (fun _ hk => hk.2.2.2))) | (dsimp only; exact Kd.own_blk (Kd.R_away HO_0.out (fun _ hk => hk.2.2.2)))) _).trans (((cell_far (p := ⟨gb280, _, none⟩) (by first | exact Kd.own_blk (Kd.R_away HO_0.out (fun _ hk => hk.2.2.2)) | (rw [add_block]; exact Kd.own_blk (Kd.R_away HO_0.out (fun _ hk => hk.2.2.2))) | (show (Addr.add _ _).block ≠ _; rw [add_block]; exact Kd.own_blk (Kd.R_away HO_0.out (fun _ hk => hk.2.2.2))) | (dsimp only; exact Kd.own_blk (Kd.R_away HO_0.out (fun _ hk => hk.2.2.2)))) _).trans (((cell_far (p := ⟨gb280, _, none⟩) (by first | exact Kd.own_blk (Kd.R_away HO_0.out (fun _ hk => hk.2.2.2)) | (rw [add_block]; exact Kd.own_blk (Kd.R_away HO_0.out (fun _ hk => hk.2.2.2))) | (show (Addr.add _ _).block ≠ _; rw [add_block]; exact Kd.own_blk (Kd.R_away HO_0.out (fun _ hk => hk.2.2.2))) | (dsimp only; exact Kd.own_blk (Kd.R_away HO_0.out (fun _ hk => hk.2.2.2)))) _).trans (hHeld.2.2.2.2.2.2.2))))))))⟩ (fun hHeld => ?_)
                    clear hK K
                    refine done_ (done_of HT_.out (by kernel_rfl)) ?_
                    go_upto_region 10 with (fail)
                    go_cut [10] (fun v10 wc => ∃ (kq : Nat) (x10_25 : Bool), v10 = .bool x10_25 ∧ Aside0 (croftlaw34_PolyWithin.j1 kq t263 x6_1 x7_1 x10_25 ((rd_T24 t269 0).f0) ((rd_T24 t269 0).f1) ((rd_T24 t269 0).f2) ((rd_T24 t269 0).f3) ((rd_T24 t263 x7_1).f0) ((rd_T24 t263 x7_1).f1) ((rd_T24 t263 x7_1).f2) ((rd_T24 t263 x7_1).f3) ((rd_T24 t263 (ji23)).f0) ((rd_T24 t263 (ji23)).f1) ((rd_T24 t263 (ji23)).f2) ((rd_T24 t263 (ji23)).f3) = some r) ∧ Aside0 (kq ≤ k1) ∧ Aside0 (Kd.R k24 24 wc w.heap.size (fun k_ => k_ ≠ gb261 ∧ k_ ≠ gb273 ∧ k_ ≠ gb279 ∧ k_ ≠ gb280) (.slice (some ad277) t263.length co27) t263) ∧ Aside0 (wc.heap[gb261]? = some (.cells #[.int .i64 a1_0, .int .u32 a1_1, .int .u32 a1_2, .string a1_3] 24 (0, 0))) ∧ Aside0 (wc.heap[gb273]? = some (.cells #[.int .i64 ((rd_T24 t269 0).f0), .int .u32 ((rd_T24 t269 0).f1), .int .u32 ((rd_T24 t269 0).f2), .string ((rd_T24 t269 0).f3)] 24 (0, 0))) ∧ Aside0 (wc.heap[gb279]? = some (.cells #[.int .i64 ((rd_T24 t263 x7_1).f0), .int .u32 ((rd_T24 t263 x7_1).f1), .int .u32 ((rd_T24 t263 x7_1).f2), .string ((rd_T24 t263 x7_1).f3)] 24 (0, 0))) ∧ Aside0 (wc.heap[gb280]? = some (.cells #[.int .i64 ((rd_T24 t263 (ji23)).f0), .int .u32 ((rd_T24 t263 (ji23)).f1), .int .u32 ((rd_T24 t263 (ji23)).f2), .string ((rd_T24 t263 (ji23)).f3)] 24 (0, 0))) ∧ Aside0 (Below w.heap.size w wc))
                    case first =>
                      have H := HC26.out
                      clear HC26
                      by_cases c40 : ((rd_T24 t263 x7_1).f2) ≤ ((rd_T24 t269 0).f2)
                      · rw [if_pos c40] at H
                        have c40b0 : decide (((rd_T24 t263 x7_1).f2) ≤ ((rd_T24 t269 0).f2)) = true := decide_eq_true c40
                        clear c40
                        (first | rw [c40b0] | (simp only [i64_w, i32_w]; rw [c40b0]) | skip)
                        have H' := Aside0.mk H
                        clear H
                        have hnb41 := NB279_261.out
                        have hnc41 := NB261_279.out
                        have hnb42 := NB279_273.out
                        have hnc42 := NB273_279.out
                        have hnb43 := NB279_280.out
                        have hnc43 := NB280_279.out
                        have hcz44_0 : w31.cell? ⟨gb279, 0, none⟩ = some (.int .i64 0) := (blk_cell BK279.out 0).trans rfl
                        have hcz44_1 : w31.cell? ⟨gb279, 1, none⟩ = some (.int .u32 0) := (blk_cell BK279.out 1).trans rfl
                        have hcz44_2 : w31.cell? ⟨gb279, 2, none⟩ = some (.int .u32 0) := (blk_cell BK279.out 2).trans rfl
                        have hcz44_3 : w31.cell? ⟨gb279, 3, none⟩ = some (.string (⟨#[]⟩ : ByteArray)) := (blk_cell BK279.out 3).trans rfl
                        have hfz44_0 := blk_frozen BK279.out 0
                        have hfz44_1 := blk_frozen BK279.out 1
                        have hfz44_2 := blk_frozen BK279.out 2
                        have hfz44_3 := blk_frozen BK279.out 3
                        have hnb45 := NB273_261.out
                        have hnc45 := NB261_273.out
                        have hnb46 := NB273_280.out
                        have hnc46 := NB280_273.out
                        have hcz47_0 : w31.cell? ⟨gb273, 0, none⟩ = some (.int .i64 ((rd_T24 t269 0).f0)) := (blk_cell BK273.out 0).trans rfl
                        have hcz47_1 : w31.cell? ⟨gb273, 1, none⟩ = some (.int .u32 ((rd_T24 t269 0).f1)) := (blk_cell BK273.out 1).trans rfl
                        have hcz47_2 : w31.cell? ⟨gb273, 2, none⟩ = some (.int .u32 ((rd_T24 t269 0).f2)) := (blk_cell BK273.out 2).trans rfl
                        have hcz47_3 : w31.cell? ⟨gb273, 3, none⟩ = some (.string ((rd_T24 t269 0).f3)) := (blk_cell BK273.out 3).trans rfl
                        have hfz47_0 := blk_frozen BK273.out 0
                        have hfz47_1 := blk_frozen BK273.out 1
                        have hfz47_2 := blk_frozen BK273.out 2
                        have hfz47_3 := blk_frozen BK273.out 3
                        have hnb48 := NB280_261.out
                        have hnc48 := NB261_280.out
                        have hcz49_0 : w31.cell? ⟨gb280, 0, none⟩ = some (.int .i64 0) := (blk_cell BK280.out 0).trans rfl
                        have hcz49_1 : w31.cell? ⟨gb280, 1, none⟩ = some (.int .u32 0) := (blk_cell BK280.out 1).trans rfl
                        have hcz49_2 : w31.cell? ⟨gb280, 2, none⟩ = some (.int .u32 0) := (blk_cell BK280.out 2).trans rfl
                        have hcz49_3 : w31.cell? ⟨gb280, 3, none⟩ = some (.string (⟨#[]⟩ : ByteArray)) := (blk_cell BK280.out 3).trans rfl
                        have hfz49_0 := blk_frozen BK280.out 0
                        have hfz49_1 := blk_frozen BK280.out 1
                        have hfz49_2 := blk_frozen BK280.out 2
                        have hfz49_3 := blk_frozen BK280.out 3
                        go_wp2
                        go_meet
                        case rel => exact ⟨_, (decide (((rd_T24 t269 0).f2) < ((rd_T24 t263 (ji23)).f2))), (by first | rfl | (simp; done) | (simp only [← hji23] <;> (first | rfl | simp)) | (simp [*]; done)), H', ⟨by have := HK1.out; first | omega | exact Nat.le_refl _⟩, ⟨by (with_reducible repeat (first | apply Kd.R_alloc | apply Kd.R_drewN | apply Kd.R_drew)); exact Kd.R_mono (Kd.R_far (p := ⟨gb280, 3, none⟩) (Kd.R_far (p := ⟨gb280, 2, none⟩) (Kd.R_far (p := ⟨gb280, 1, none⟩) (Kd.R_far (p := ⟨gb280, 0, none⟩) (Kd.R_far (p := ⟨gb279, 3, none⟩) (Kd.R_far (p := ⟨gb279, 2, none⟩) (Kd.R_far (p := ⟨gb279, 1, none⟩) (Kd.R_far (p := ⟨gb279, 0, none⟩) (Kd.R_mono (Kd.R_mono HO_0.out (fun k_ hk => (⟨hk, hk.2.2.1⟩ : _ ∧ k_ ≠ gb279))) (fun k_ hk => (⟨hk, hk.1.2.2.2⟩ : _ ∧ k_ ≠ gb280))) (fun _ hk => hk.1.2) (.int .i64 ((rd_T24 t263 x7_1).f0))) (fun _ hk => hk.1.2) (.int .u32 ((rd_T24 t263 x7_1).f1))) (fun _ hk => hk.1.2) (.int .u32 ((rd_T24 t263 x7_1).f2))) (fun _ hk => hk.1.2) (.string ((rd_T24 t263 x7_1).f3))) (fun _ hk => hk.2) (.int .i64 ((rd_T24 t263 (ji23)).f0))) (fun _ hk => hk.2) (.int .u32 ((rd_T24 t263 (ji23)).f1))) (fun _ hk => hk.2) (.int .u32 ((rd_T24 t263 (ji23)).f2))) (fun _ hk => hk.2) (.string ((rd_T24 t263 (ji23)).f3))) (fun _ hk => ⟨hk.1.1.1, ⟨hk.1.1.2.1, ⟨hk.1.1.2.2.1, hk.1.1.2.2.2⟩⟩⟩)⟩, ⟨by (with_reducible repeat (first | refine blk_drewN ?_ _ | refine blk_drew ?_ | refine blk_alloc ?_ _)); refine blk_far ?_ NB261_280.out _; (with_reducible repeat (first | refine blk_drewN ?_ _ | refine blk_drew ?_ | refine blk_alloc ?_ _)); refine blk_far ?_ NB261_280.out _; (with_reducible repeat (first | refine blk_drewN ?_ _ | refine blk_drew ?_ | refine blk_alloc ?_ _)); refine blk_far ?_ NB261_280.out _; (with_reducible repeat (first | refine blk_drewN ?_ _ | refine blk_drew ?_ | refine blk_alloc ?_ _)); refine blk_far ?_ NB261_280.out _; (with_reducible repeat (first | refine blk_drewN ?_ _ | refine blk_drew ?_ | refine blk_alloc ?_ _)); refine blk_far ?_ NB261_279.out _; (with_reducible repeat (first | refine blk_drewN ?_ _ | refine blk_drew ?_ | refine blk_alloc ?_ _)); refine blk_far ?_ NB261_279.out _; (with_reducible repeat (first | refine blk_drewN ?_ _ | refine blk_drew ?_ | refine blk_alloc ?_ _)); refine blk_far ?_ NB261_279.out _; (with_reducible repeat (first | refine blk_drewN ?_ _ | refine blk_drew ?_ | refine blk_alloc ?_ _)); refine blk_far ?_ NB261_279.out _; (with_reducible repeat (first | refine blk_drewN ?_ _ | refine blk_drew ?_ | refine blk_alloc ?_ _)); exact BK261.out⟩, ⟨by (with_reducible repeat (first | refine blk_drewN ?_ _ | refine blk_drew ?_ | refine blk_alloc ?_ _)); refine blk_far ?_ NB273_280.out _; (with_reducible repeat (first | refine blk_drewN ?_ _ | refine blk_drew ?_ | refine blk_alloc ?_ _)); refine blk_far ?_ NB273_280.out _; (with_reducible repeat (first | refine blk_drewN ?_ _ | refine blk_drew ?_ | refine blk_alloc ?_ _)); refine blk_far ?_ NB273_280.out _; (with_reducible repeat (first | refine blk_drewN ?_ _ | refine blk_drew ?_ | refine blk_alloc ?_ _)); refine blk_far ?_ NB273_280.out _; (with_reducible repeat (first | refine blk_drewN ?_ _ | refine blk_drew ?_ | refine blk_alloc ?_ _)); refine blk_far ?_ NB273_279.out _; (with_reducible repeat (first | refine blk_drewN ?_ _ | refine blk_drew ?_ | refine blk_alloc ?_ _)); refine blk_far ?_ NB273_279.out _; (with_reducible repeat (first | refine blk_drewN ?_ _ | refine blk_drew ?_ | refine blk_alloc ?_ _)); refine blk_far ?_ NB273_279.out _; (with_reducible repeat (first | refine blk_drewN ?_ _ | refine blk_drew ?_ | refine blk_alloc ?_ _)); refine blk_far ?_ NB273_279.out _; (with_reducible repeat (first | refine blk_drewN ?_ _ | refine blk_drew ?_ | refine blk_alloc ?_ _)); exact BK273.out⟩, ⟨by (with_reducible repeat (first | refine blk_drewN ?_ _ | refine blk_drew ?_ | refine blk_alloc ?_ _)); refine blk_far ?_ NB279_280.out _; (with_reducible repeat (first | refine blk_drewN ?_ _ | refine blk_drew ?_ | refine blk_alloc ?_ _)); refine blk_far ?_ NB279_280.out _; (with_reducible repeat (first | refine blk_drewN ?_ _ | refine blk_drew ?_ | refine blk_alloc ?_ _)); refine blk_far ?_ NB279_280.out _; (with_reducible repeat (first | refine blk_drewN ?_ _ | refine blk_drew ?_ | refine blk_alloc ?_ _)); refine blk_far ?_ NB279_280.out _; (with_reducible repeat (first | refine blk_drewN ?_ _ | refine blk_drew ?_ | refine blk_alloc ?_ _)); refine blk_put (cs := #[.int .i64 ((rd_T24 t263 x7_1).f0), .int .u32 ((rd_T24 t263 x7_1).f1), .int .u32 ((rd_T24 t263 x7_1).f2), .string (⟨#[]⟩ : ByteArray)]) ?_ 3 _ rfl; (with_reducible repeat (first | refine blk_drewN ?_ _ | refine blk_drew ?_ | refine blk_alloc ?_ _)); refine blk_put (cs := #[.int .i64 ((rd_T24 t263 x7_1).f0), .int .u32 ((rd_T24 t263 x7_1).f1), .int .u32 0, .string (⟨#[]⟩ : ByteArray)]) ?_ 2 _ rfl; (with_reducible repeat (first | refine blk_drewN ?_ _ | refine blk_drew ?_ | refine blk_alloc ?_ _)); refine blk_put (cs := #[.int .i64 ((rd_T24 t263 x7_1).f0), .int .u32 0, .int .u32 0, .string (⟨#[]⟩ : ByteArray)]) ?_ 1 _ rfl; (with_reducible repeat (first | refine blk_drewN ?_ _ | refine blk_drew ?_ | refine blk_alloc ?_ _)); refine blk_put (cs := #[.int .i64 0, .int .u32 0, .int .u32 0, .string (⟨#[]⟩ : ByteArray)]) ?_ 0 _ rfl; (with_reducible repeat (first | refine blk_drewN ?_ _ | refine blk_drew ?_ | refine blk_alloc ?_ _)); exact BK279.out⟩, ⟨by (with_reducible repeat (first | refine blk_drewN ?_ _ | refine blk_drew ?_ | refine blk_alloc ?_ _)); refine blk_put (cs := #[.int .i64 ((rd_T24 t263 (ji23)).f0), .int .u32 ((rd_T24 t263 (ji23)).f1), .int .u32 ((rd_T24 t263 (ji23)).f2), .string (⟨#[]⟩ : ByteArray)]) ?_ 3 _ rfl; (with_reducible repeat (first | refine blk_drewN ?_ _ | refine blk_drew ?_ | refine blk_alloc ?_ _)); refine blk_put (cs := #[.int .i64 ((rd_T24 t263 (ji23)).f0), .int .u32 ((rd_T24 t263 (ji23)).f1), .int .u32 0, .string (⟨#[]⟩ : ByteArray)]) ?_ 2 _ rfl; (with_reducible repeat (first | refine blk_drewN ?_ _ | refine blk_drew ?_ | refine blk_alloc ?_ _)); refine blk_put (cs := #[.int .i64 ((rd_T24 t263 (ji23)).f0), .int .u32 0, .int .u32 0, .string (⟨#[]⟩ : ByteArray)]) ?_ 1 _ rfl; (with_reducible repeat (first | refine blk_drewN ?_ _ | refine blk_drew ?_ | refine blk_alloc ?_ _)); refine blk_put (cs := #[.int .i64 0, .int .u32 0, .int .u32 0, .string (⟨#[]⟩ : ByteArray)]) ?_ 0 _ rfl; (with_reducible repeat (first | refine blk_drewN ?_ _ | refine blk_drew ?_ | refine blk_alloc ?_ _)); refine blk_far ?_ NB280_279.out _; (with_reducible repeat (first | refine blk_drewN ?_ _ | refine blk_drew ?_ | refine blk_alloc ?_ _)); refine blk_far ?_ NB280_279.out _; (with_reducible repeat (first | refine blk_drewN ?_ _ | refine blk_drew ?_ | refine blk_alloc ?_ _)); refine blk_far ?_ NB280_279.out _; (with_reducible repeat (first | refine blk_drewN ?_ _ | refine blk_drew ?_ | refine blk_alloc ?_ _)); refine blk_far ?_ NB280_279.out _; (with_reducible repeat (first | refine blk_drewN ?_ _ | refine blk_drew ?_ | refine blk_alloc ?_ _)); exact BK280.out⟩, ⟨by repeat (first | (with_reducible first | exact HB.out | apply below_alloc | apply pw_below_drewN | apply below_drew1 | refine below_set ?_ GE261.out | refine below_set ?_ GE273.out | refine below_set ?_ GE279.out | refine below_set ?_ GE280.out) | exact HB.out)⟩⟩
                      · rw [if_neg c40] at H
                        have c40b0 : decide (((rd_T24 t263 x7_1).f2) ≤ ((rd_T24 t269 0).f2)) = false := decide_eq_false c40
                        clear c40
                        (first | rw [c40b0] | (simp only [i64_w, i32_w]; rw [c40b0]) | skip)
                        have H' := Aside0.mk H
                        clear H
                        have hnb50 := NB279_261.out
                        have hnc50 := NB261_279.out
                        have hnb51 := NB279_273.out
                        have hnc51 := NB273_279.out
                        have hnb52 := NB279_280.out
                        have hnc52 := NB280_279.out
                        have hcz53_0 : w31.cell? ⟨gb279, 0, none⟩ = some (.int .i64 0) := (blk_cell BK279.out 0).trans rfl
                        have hcz53_1 : w31.cell? ⟨gb279, 1, none⟩ = some (.int .u32 0) := (blk_cell BK279.out 1).trans rfl
                        have hcz53_2 : w31.cell? ⟨gb279, 2, none⟩ = some (.int .u32 0) := (blk_cell BK279.out 2).trans rfl
                        have hcz53_3 : w31.cell? ⟨gb279, 3, none⟩ = some (.string (⟨#[]⟩ : ByteArray)) := (blk_cell BK279.out 3).trans rfl
                        have hfz53_0 := blk_frozen BK279.out 0
                        have hfz53_1 := blk_frozen BK279.out 1
                        have hfz53_2 := blk_frozen BK279.out 2
                        have hfz53_3 := blk_frozen BK279.out 3
                        have hnb54 := NB273_261.out
                        have hnc54 := NB261_273.out
                        have hnb55 := NB273_280.out
                        have hnc55 := NB280_273.out
                        have hcz56_0 : w31.cell? ⟨gb273, 0, none⟩ = some (.int .i64 ((rd_T24 t269 0).f0)) := (blk_cell BK273.out 0).trans rfl
                        have hcz56_1 : w31.cell? ⟨gb273, 1, none⟩ = some (.int .u32 ((rd_T24 t269 0).f1)) := (blk_cell BK273.out 1).trans rfl
                        have hcz56_2 : w31.cell? ⟨gb273, 2, none⟩ = some (.int .u32 ((rd_T24 t269 0).f2)) := (blk_cell BK273.out 2).trans rfl
                        have hcz56_3 : w31.cell? ⟨gb273, 3, none⟩ = some (.string ((rd_T24 t269 0).f3)) := (blk_cell BK273.out 3).trans rfl
                        have hfz56_0 := blk_frozen BK273.out 0
                        have hfz56_1 := blk_frozen BK273.out 1
                        have hfz56_2 := blk_frozen BK273.out 2
                        have hfz56_3 := blk_frozen BK273.out 3
                        go_wp2
                        go_meet
                        case rel => exact ⟨_, (false), (by first | rfl | (simp; done) | (simp [*]; done)), H', ⟨by have := HK1.out; first | omega | exact Nat.le_refl _⟩, ⟨by (with_reducible repeat (first | apply Kd.R_alloc | apply Kd.R_drewN | apply Kd.R_drew)); exact Kd.R_mono (Kd.R_far (p := ⟨gb280, 3, none⟩) (Kd.R_far (p := ⟨gb280, 2, none⟩) (Kd.R_far (p := ⟨gb280, 1, none⟩) (Kd.R_far (p := ⟨gb280, 0, none⟩) (Kd.R_far (p := ⟨gb279, 3, none⟩) (Kd.R_far (p := ⟨gb279, 2, none⟩) (Kd.R_far (p := ⟨gb279, 1, none⟩) (Kd.R_far (p := ⟨gb279, 0, none⟩) (Kd.R_mono (Kd.R_mono HO_0.out (fun k_ hk => (⟨hk, hk.2.2.1⟩ : _ ∧ k_ ≠ gb279))) (fun k_ hk => (⟨hk, hk.1.2.2.2⟩ : _ ∧ k_ ≠ gb280))) (fun _ hk => hk.1.2) (.int .i64 ((rd_T24 t263 x7_1).f0))) (fun _ hk => hk.1.2) (.int .u32 ((rd_T24 t263 x7_1).f1))) (fun _ hk => hk.1.2) (.int .u32 ((rd_T24 t263 x7_1).f2))) (fun _ hk => hk.1.2) (.string ((rd_T24 t263 x7_1).f3))) (fun _ hk => hk.2) (.int .i64 ((rd_T24 t263 (ji23)).f0))) (fun _ hk => hk.2) (.int .u32 ((rd_T24 t263 (ji23)).f1))) (fun _ hk => hk.2) (.int .u32 ((rd_T24 t263 (ji23)).f2))) (fun _ hk => hk.2) (.string ((rd_T24 t263 (ji23)).f3))) (fun _ hk => ⟨hk.1.1.1, ⟨hk.1.1.2.1, ⟨hk.1.1.2.2.1, hk.1.1.2.2.2⟩⟩⟩)⟩, ⟨by (with_reducible repeat (first | refine blk_drewN ?_ _ | refine blk_drew ?_ | refine blk_alloc ?_ _)); refine blk_far ?_ NB261_280.out _; (with_reducible repeat (first | refine blk_drewN ?_ _ | refine blk_drew ?_ | refine blk_alloc ?_ _)); refine blk_far ?_ NB261_280.out _; (with_reducible repeat (first | refine blk_drewN ?_ _ | refine blk_drew ?_ | refine blk_alloc ?_ _)); refine blk_far ?_ NB261_280.out _; (with_reducible repeat (first | refine blk_drewN ?_ _ | refine blk_drew ?_ | refine blk_alloc ?_ _)); refine blk_far ?_ NB261_280.out _; (with_reducible repeat (first | refine blk_drewN ?_ _ | refine blk_drew ?_ | refine blk_alloc ?_ _)); refine blk_far ?_ NB261_279.out _; (with_reducible repeat (first | refine blk_drewN ?_ _ | refine blk_drew ?_ | refine blk_alloc ?_ _)); refine blk_far ?_ NB261_279.out _; (with_reducible repeat (first | refine blk_drewN ?_ _ | refine blk_drew ?_ | refine blk_alloc ?_ _)); refine blk_far ?_ NB261_279.out _; (with_reducible repeat (first | refine blk_drewN ?_ _ | refine blk_drew ?_ | refine blk_alloc ?_ _)); refine blk_far ?_ NB261_279.out _; (with_reducible repeat (first | refine blk_drewN ?_ _ | refine blk_drew ?_ | refine blk_alloc ?_ _)); exact BK261.out⟩, ⟨by (with_reducible repeat (first | refine blk_drewN ?_ _ | refine blk_drew ?_ | refine blk_alloc ?_ _)); refine blk_far ?_ NB273_280.out _; (with_reducible repeat (first | refine blk_drewN ?_ _ | refine blk_drew ?_ | refine blk_alloc ?_ _)); refine blk_far ?_ NB273_280.out _; (with_reducible repeat (first | refine blk_drewN ?_ _ | refine blk_drew ?_ | refine blk_alloc ?_ _)); refine blk_far ?_ NB273_280.out _; (with_reducible repeat (first | refine blk_drewN ?_ _ | refine blk_drew ?_ | refine blk_alloc ?_ _)); refine blk_far ?_ NB273_280.out _; (with_reducible repeat (first | refine blk_drewN ?_ _ | refine blk_drew ?_ | refine blk_alloc ?_ _)); refine blk_far ?_ NB273_279.out _; (with_reducible repeat (first | refine blk_drewN ?_ _ | refine blk_drew ?_ | refine blk_alloc ?_ _)); refine blk_far ?_ NB273_279.out _; (with_reducible repeat (first | refine blk_drewN ?_ _ | refine blk_drew ?_ | refine blk_alloc ?_ _)); refine blk_far ?_ NB273_279.out _; (with_reducible repeat (first | refine blk_drewN ?_ _ | refine blk_drew ?_ | refine blk_alloc ?_ _)); refine blk_far ?_ NB273_279.out _; (with_reducible repeat (first | refine blk_drewN ?_ _ | refine blk_drew ?_ | refine blk_alloc ?_ _)); exact BK273.out⟩, ⟨by (with_reducible repeat (first | refine blk_drewN ?_ _ | refine blk_drew ?_ | refine blk_alloc ?_ _)); refine blk_far ?_ NB279_280.out _; (with_reducible repeat (first | refine blk_drewN ?_ _ | refine blk_drew ?_ | refine blk_alloc ?_ _)); refine blk_far ?_ NB279_280.out _; (with_reducible repeat (first | refine blk_drewN ?_ _ | refine blk_drew ?_ | refine blk_alloc ?_ _)); refine blk_far ?_ NB279_280.out _; (with_reducible repeat (first | refine blk_drewN ?_ _ | refine blk_drew ?_ | refine blk_alloc ?_ _)); refine blk_far ?_ NB279_280.out _; (with_reducible repeat (first | refine blk_drewN ?_ _ | refine blk_drew ?_ | refine blk_alloc ?_ _)); refine blk_put (cs := #[.int .i64 ((rd_T24 t263 x7_1).f0), .int .u32 ((rd_T24 t263 x7_1).f1), .int .u32 ((rd_T24 t263 x7_1).f2), .string (⟨#[]⟩ : ByteArray)]) ?_ 3 _ rfl; (with_reducible repeat (first | refine blk_drewN ?_ _ | refine blk_drew ?_ | refine blk_alloc ?_ _)); refine blk_put (cs := #[.int .i64 ((rd_T24 t263 x7_1).f0), .int .u32 ((rd_T24 t263 x7_1).f1), .int .u32 0, .string (⟨#[]⟩ : ByteArray)]) ?_ 2 _ rfl; (with_reducible repeat (first | refine blk_drewN ?_ _ | refine blk_drew ?_ | refine blk_alloc ?_ _)); refine blk_put (cs := #[.int .i64 ((rd_T24 t263 x7_1).f0), .int .u32 0, .int .u32 0, .string (⟨#[]⟩ : ByteArray)]) ?_ 1 _ rfl; (with_reducible repeat (first | refine blk_drewN ?_ _ | refine blk_drew ?_ | refine blk_alloc ?_ _)); refine blk_put (cs := #[.int .i64 0, .int .u32 0, .int .u32 0, .string (⟨#[]⟩ : ByteArray)]) ?_ 0 _ rfl; (with_reducible repeat (first | refine blk_drewN ?_ _ | refine blk_drew ?_ | refine blk_alloc ?_ _)); exact BK279.out⟩, ⟨by (with_reducible repeat (first | refine blk_drewN ?_ _ | refine blk_drew ?_ | refine blk_alloc ?_ _)); refine blk_put (cs := #[.int .i64 ((rd_T24 t263 (ji23)).f0), .int .u32 ((rd_T24 t263 (ji23)).f1), .int .u32 ((rd_T24 t263 (ji23)).f2), .string (⟨#[]⟩ : ByteArray)]) ?_ 3 _ rfl; (with_reducible repeat (first | refine blk_drewN ?_ _ | refine blk_drew ?_ | refine blk_alloc ?_ _)); refine blk_put (cs := #[.int .i64 ((rd_T24 t263 (ji23)).f0), .int .u32 ((rd_T24 t263 (ji23)).f1), .int .u32 0, .string (⟨#[]⟩ : ByteArray)]) ?_ 2 _ rfl; (with_reducible repeat (first | refine blk_drewN ?_ _ | refine blk_drew ?_ | refine blk_alloc ?_ _)); refine blk_put (cs := #[.int .i64 ((rd_T24 t263 (ji23)).f0), .int .u32 0, .int .u32 0, .string (⟨#[]⟩ : ByteArray)]) ?_ 1 _ rfl; (with_reducible repeat (first | refine blk_drewN ?_ _ | refine blk_drew ?_ | refine blk_alloc ?_ _)); refine blk_put (cs := #[.int .i64 0, .int .u32 0, .int .u32 0, .string (⟨#[]⟩ : ByteArray)]) ?_ 0 _ rfl; (with_reducible repeat (first | refine blk_drewN ?_ _ | refine blk_drew ?_ | refine blk_alloc ?_ _)); refine blk_far ?_ NB280_279.out _; (with_reducible repeat (first | refine blk_drewN ?_ _ | refine blk_drew ?_ | refine blk_alloc ?_ _)); refine blk_far ?_ NB280_279.out _; (with_reducible repeat (first | refine blk_drewN ?_ _ | refine blk_drew ?_ | refine blk_alloc ?_ _)); refine blk_far ?_ NB280_279.out _; (with_reducible repeat (first | refine blk_drewN ?_ _ | refine blk_drew ?_ | refine blk_alloc ?_ _)); refine blk_far ?_ NB280_279.out _; (with_reducible repeat (first | refine blk_drewN ?_ _ | refine blk_drew ?_ | refine blk_alloc ?_ _)); exact BK280.out⟩, ⟨by repeat (first | (with_reducible first | exact HB.out | apply below_alloc | apply pw_below_drewN | apply below_drew1 | refine below_set ?_ GE261.out | refine below_set ?_ GE273.out | refine below_set ?_ GE279.out | refine below_set ?_ GE280.out) | exact HB.out)⟩⟩
                    case rest =>
                      clear HC26
                      try clear c2
                      try clear p2
                      try clear q2
                      try clear hx2
                      try clear c4
                      try clear c5
                      try clear p6
                      try clear c20
                      try clear c20b0
                      try clear c21
                      try clear c21b0
                      try clear c22
                      try clear c22b0
                      try clear c22b1
                      try clear c22b2
                      try clear c24
                      try clear c24b0
                      try clear c25
                      try clear c25b0
                      try clear p27
                      try clear q27
                      try clear hx27
                      try clear c40
                      try clear c40b0
                      try clear c41
                      try clear c42
                      try clear c43
                      try clear c45
                      try clear c46
                      try clear c48
                      try clear c50
                      try clear c51
                      try clear c52
                      try clear c54
                      try clear c55
                      try clear hcz19_1
                      try clear hcz19_2
                      try clear hcz19_3
                      try clear hcz44_0
                      try clear hcz44_1
                      try clear hcz44_2
                      try clear hcz44_3
                      try clear hcz47_0
                      try clear hcz47_1
                      try clear hcz47_2
                      try clear hcz47_3
                      try clear hcz49_0
                      try clear hcz49_1
                      try clear hcz49_2
                      try clear hcz49_3
                      try clear hcz53_0
                      try clear hcz53_1
                      try clear hcz53_2
                      try clear hcz53_3
                      try clear hcz56_0
                      try clear hcz56_1
                      try clear hcz56_2
                      try clear hcz56_3
                      try clear hfz11_0
                      try clear hfz11_1
                      try clear hfz11_2
                      try clear hfz11_3
                      try clear hfz19_0
                      try clear hfz19_1
                      try clear hfz19_2
                      try clear hfz19_3
                      try clear hfz44_0
                      try clear hfz44_1
                      try clear hfz44_2
                      try clear hfz44_3
                      try clear hfz47_0
                      try clear hfz47_1
                      try clear hfz47_2
                      try clear hfz47_3
                      try clear hfz49_0
                      try clear hfz49_1
                      try clear hfz49_2
                      try clear hfz49_3
                      try clear hfz53_0
                      try clear hfz53_1
                      try clear hfz53_2
                      try clear hfz53_3
                      try clear hfz56_0
                      try clear hfz56_1
                      try clear hfz56_2
                      try clear hfz56_3
                      try clear hx272_0
                      try clear hx272_1
                      try clear hx272_2
                      try clear hx272_3
                      try clear hx277_0
                      try clear hx277_1
                      try clear hx277_2
                      try clear hx277_3
                      try clear hx278_0
                      try clear hx278_1
                      try clear hx278_2
                      try clear hx278_3
                      try clear p272
                      try clear p277
                      try clear p278
                      try clear q272
                      try clear q277
                      try clear q278
                      obtain ⟨kq, x10_25, rfl, HA, HJ25, HO_0, BK261, BK273, BK279, BK280, HB⟩ := hcut
                      cases kq with
                      | zero => exact absurd HA.out (by simp [croftlaw34_PolyWithin.j1])
                      | succ kj25 =>
                        have H := HA.out
                        clear HA
                        simp only [croftlaw34_PolyWithin.j1] at H
                        have HC57 := Aside0.mk H
                        clear H
                        go_upto_region 11 with (fail)
                        go_cut [11] (fun v11 wc => ∃ (kq : Nat) (x11_56 : Bool), v11 = .bool x11_56 ∧ Aside0 (croftlaw34_PolyWithin.j2 kq t263 x6_1 x7_1 x10_25 x11_56 ((rd_T24 t269 0).f0) ((rd_T24 t269 0).f1) ((rd_T24 t269 0).f2) ((rd_T24 t269 0).f3) ((rd_T24 t263 x7_1).f0) ((rd_T24 t263 x7_1).f1) ((rd_T24 t263 x7_1).f2) ((rd_T24 t263 x7_1).f3) ((rd_T24 t263 (ji23)).f0) ((rd_T24 t263 (ji23)).f1) ((rd_T24 t263 (ji23)).f2) ((rd_T24 t263 (ji23)).f3) = some r) ∧ Aside0 (kq ≤ kj25) ∧ Aside0 (Kd.R k24 24 wc w.heap.size (fun k_ => k_ ≠ gb261 ∧ k_ ≠ gb273 ∧ k_ ≠ gb279 ∧ k_ ≠ gb280) (.slice (some ad277) t263.length co27) t263) ∧ Aside0 (wc.heap[gb261]? = some (.cells #[.int .i64 a1_0, .int .u32 a1_1, .int .u32 a1_2, .string a1_3] 24 (0, 0))) ∧ Aside0 (wc.heap[gb273]? = some (.cells #[.int .i64 ((rd_T24 t269 0).f0), .int .u32 ((rd_T24 t269 0).f1), .int .u32 ((rd_T24 t269 0).f2), .string ((rd_T24 t269 0).f3)] 24 (0, 0))) ∧ Aside0 (wc.heap[gb279]? = some (.cells #[.int .i64 ((rd_T24 t263 x7_1).f0), .int .u32 ((rd_T24 t263 x7_1).f1), .int .u32 ((rd_T24 t263 x7_1).f2), .string ((rd_T24 t263 x7_1).f3)] 24 (0, 0))) ∧ Aside0 (wc.heap[gb280]? = some (.cells #[.int .i64 ((rd_T24 t263 (ji23)).f0), .int .u32 ((rd_T24 t263 (ji23)).f1), .int .u32 ((rd_T24 t263 (ji23)).f2), .string ((rd_T24 t263 (ji23)).f3)] 24 (0, 0))) ∧ Aside0 (Below w.heap.size w wc))
                        case first =>
                          have H := HC57.out
                          clear HC57
                          by_cases c58 : ((rd_T24 t263 (ji23)).f2) ≤ ((rd_T24 t269 0).f2)
                          · rw [if_pos c58] at H
                            have c58b0 : decide (((rd_T24 t263 (ji23)).f2) ≤ ((rd_T24 t269 0).f2)) = true := decide_eq_true c58
                            clear c58
                            (first | rw [c58b0] | (simp only [i64_w, i32_w]; rw [c58b0]) | skip)
                            have H' := Aside0.mk H
                            clear H
                            have hnb59 := NB280_261.out
                            have hnc59 := NB261_280.out
                            have hnb60 := NB280_273.out
                            have hnc60 := NB273_280.out
                            have hnb61 := NB280_279.out
                            have hnc61 := NB279_280.out
                            have hcz62_0 : wc.cell? ⟨gb280, 0, none⟩ = some (.int .i64 ((rd_T24 t263 (ji23)).f0)) := (blk_cell BK280.out 0).trans rfl
                            have hcz62_1 : wc.cell? ⟨gb280, 1, none⟩ = some (.int .u32 ((rd_T24 t263 (ji23)).f1)) := (blk_cell BK280.out 1).trans rfl
                            have hcz62_2 : wc.cell? ⟨gb280, 2, none⟩ = some (.int .u32 ((rd_T24 t263 (ji23)).f2)) := (blk_cell BK280.out 2).trans rfl
                            have hcz62_3 : wc.cell? ⟨gb280, 3, none⟩ = some (.string ((rd_T24 t263 (ji23)).f3)) := (blk_cell BK280.out 3).trans rfl
                            have hfz62_0 := blk_frozen BK280.out 0
                            have hfz62_1 := blk_frozen BK280.out 1
                            have hfz62_2 := blk_frozen BK280.out 2
                            have hfz62_3 := blk_frozen BK280.out 3
                            have hnb63 := NB273_261.out
                            have hnc63 := NB261_273.out
                            have hnb64 := NB273_279.out
                            have hnc64 := NB279_273.out
                            have hcz65_0 : wc.cell? ⟨gb273, 0, none⟩ = some (.int .i64 ((rd_T24 t269 0).f0)) := (blk_cell BK273.out 0).trans rfl
                            have hcz65_1 : wc.cell? ⟨gb273, 1, none⟩ = some (.int .u32 ((rd_T24 t269 0).f1)) := (blk_cell BK273.out 1).trans rfl
                            have hcz65_2 : wc.cell? ⟨gb273, 2, none⟩ = some (.int .u32 ((rd_T24 t269 0).f2)) := (blk_cell BK273.out 2).trans rfl
                            have hcz65_3 : wc.cell? ⟨gb273, 3, none⟩ = some (.string ((rd_T24 t269 0).f3)) := (blk_cell BK273.out 3).trans rfl
                            have hfz65_0 := blk_frozen BK273.out 0
                            have hfz65_1 := blk_frozen BK273.out 1
                            have hfz65_2 := blk_frozen BK273.out 2
                            have hfz65_3 := blk_frozen BK273.out 3
                            have hnb66 := NB279_261.out
                            have hnc66 := NB261_279.out
                            have hcz67_0 : wc.cell? ⟨gb279, 0, none⟩ = some (.int .i64 ((rd_T24 t263 x7_1).f0)) := (blk_cell BK279.out 0).trans rfl
                            have hcz67_1 : wc.cell? ⟨gb279, 1, none⟩ = some (.int .u32 ((rd_T24 t263 x7_1).f1)) := (blk_cell BK279.out 1).trans rfl
                            have hcz67_2 : wc.cell? ⟨gb279, 2, none⟩ = some (.int .u32 ((rd_T24 t263 x7_1).f2)) := (blk_cell BK279.out 2).trans rfl
                            have hcz67_3 : wc.cell? ⟨gb279, 3, none⟩ = some (.string ((rd_T24 t263 x7_1).f3)) := (blk_cell BK279.out 3).trans rfl
                            have hfz67_0 := blk_frozen BK279.out 0
                            have hfz67_1 := blk_frozen BK279.out 1
                            have hfz67_2 := blk_frozen BK279.out 2
                            have hfz67_3 := blk_frozen BK279.out 3
                            go_wp2
                            go_meet
                            case rel => exact ⟨_, (decide (((rd_T24 t269 0).f2) < ((rd_T24 t263 x7_1).f2))), (by first | rfl | (simp; done) | (simp [*]; done)), H', ⟨by have := HK1.out; have := HJ25.out; first | omega | exact Nat.le_refl _⟩, ⟨by (with_reducible repeat (first | apply Kd.R_alloc | apply Kd.R_drewN | apply Kd.R_drew)); exact HO_0.out⟩, ⟨by (with_reducible repeat (first | refine blk_drewN ?_ _ | refine blk_drew ?_ | refine blk_alloc ?_ _)); exact BK261.out⟩, ⟨by (with_reducible repeat (first | refine blk_drewN ?_ _ | refine blk_drew ?_ | refine blk_alloc ?_ _)); exact BK273.out⟩, ⟨by (with_reducible repeat (first | refine blk_drewN ?_ _ | refine blk_drew ?_ | refine blk_alloc ?_ _)); exact BK279.out⟩, ⟨by (with_reducible repeat (first | refine blk_drewN ?_ _ | refine blk_drew ?_ | refine blk_alloc ?_ _)); exact BK280.out⟩, ⟨by repeat (first | (with_reducible first | exact HB.out | apply below_alloc | apply pw_below_drewN | apply below_drew1 | refine below_set ?_ GE261.out | refine below_set ?_ GE273.out | refine below_set ?_ GE279.out | refine below_set ?_ GE280.out) | exact HB.out)⟩⟩
                          · rw [if_neg c58] at H
                            have c58b0 : decide (((rd_T24 t263 (ji23)).f2) ≤ ((rd_T24 t269 0).f2)) = false := decide_eq_false c58
                            clear c58
                            (first | rw [c58b0] | (simp only [i64_w, i32_w]; rw [c58b0]) | skip)
                            have H' := Aside0.mk H
                            clear H
                            have hnb68 := NB280_261.out
                            have hnc68 := NB261_280.out
                            have hnb69 := NB280_273.out
                            have hnc69 := NB273_280.out
                            have hnb70 := NB280_279.out
                            have hnc70 := NB279_280.out
                            have hcz71_0 : wc.cell? ⟨gb280, 0, none⟩ = some (.int .i64 ((rd_T24 t263 (ji23)).f0)) := (blk_cell BK280.out 0).trans rfl
                            have hcz71_1 : wc.cell? ⟨gb280, 1, none⟩ = some (.int .u32 ((rd_T24 t263 (ji23)).f1)) := (blk_cell BK280.out 1).trans rfl
                            have hcz71_2 : wc.cell? ⟨gb280, 2, none⟩ = some (.int .u32 ((rd_T24 t263 (ji23)).f2)) := (blk_cell BK280.out 2).trans rfl
                            have hcz71_3 : wc.cell? ⟨gb280, 3, none⟩ = some (.string ((rd_T24 t263 (ji23)).f3)) := (blk_cell BK280.out 3).trans rfl
                            have hfz71_0 := blk_frozen BK280.out 0
                            have hfz71_1 := blk_frozen BK280.out 1
                            have hfz71_2 := blk_frozen BK280.out 2
                            have hfz71_3 := blk_frozen BK280.out 3
                            have hnb72 := NB273_261.out
                            have hnc72 := NB261_273.out
                            have hnb73 := NB273_279.out
                            have hnc73 := NB279_273.out
                            have hcz74_0 : wc.cell? ⟨gb273, 0, none⟩ = some (.int .i64 ((rd_T24 t269 0).f0)) := (blk_cell BK273.out 0).trans rfl
                            have hcz74_1 : wc.cell? ⟨gb273, 1, none⟩ = some (.int .u32 ((rd_T24 t269 0).f1)) := (blk_cell BK273.out 1).trans rfl
                            have hcz74_2 : wc.cell? ⟨gb273, 2, none⟩ = some (.int .u32 ((rd_T24 t269 0).f2)) := (blk_cell BK273.out 2).trans rfl
                            have hcz74_3 : wc.cell? ⟨gb273, 3, none⟩ = some (.string ((rd_T24 t269 0).f3)) := (blk_cell BK273.out 3).trans rfl
                            have hfz74_0 := blk_frozen BK273.out 0
                            have hfz74_1 := blk_frozen BK273.out 1
                            have hfz74_2 := blk_frozen BK273.out 2
                            have hfz74_3 := blk_frozen BK273.out 3
                            go_wp2
                            go_meet
                            case rel => exact ⟨_, (false), (by first | rfl | (simp; done) | (simp [*]; done)), H', ⟨by have := HK1.out; have := HJ25.out; first | omega | exact Nat.le_refl _⟩, ⟨by (with_reducible repeat (first | apply Kd.R_alloc | apply Kd.R_drewN | apply Kd.R_drew)); exact HO_0.out⟩, ⟨by (with_reducible repeat (first | refine blk_drewN ?_ _ | refine blk_drew ?_ | refine blk_alloc ?_ _)); exact BK261.out⟩, ⟨by (with_reducible repeat (first | refine blk_drewN ?_ _ | refine blk_drew ?_ | refine blk_alloc ?_ _)); exact BK273.out⟩, ⟨by (with_reducible repeat (first | refine blk_drewN ?_ _ | refine blk_drew ?_ | refine blk_alloc ?_ _)); exact BK279.out⟩, ⟨by (with_reducible repeat (first | refine blk_drewN ?_ _ | refine blk_drew ?_ | refine blk_alloc ?_ _)); exact BK280.out⟩, ⟨by repeat (first | (with_reducible first | exact HB.out | apply below_alloc | apply pw_below_drewN | apply below_drew1 | refine below_set ?_ GE261.out | refine below_set ?_ GE273.out | refine below_set ?_ GE279.out | refine below_set ?_ GE280.out) | exact HB.out)⟩⟩
                        case rest =>
                          clear HC57
                          try clear c2
                          try clear p2
                          try clear q2
                          try clear hx2
                          try clear c4
                          try clear c5
                          try clear c6
                          try clear p6
                          try clear c7
                          try clear c20
                          try clear c20b0
                          try clear c21
                          try clear c21b0
                          try clear c22
                          try clear c22b0
                          try clear c22b1
                          try clear c22b2
                          try clear c24
                          try clear c24b0
                          try clear c25
                          try clear c25b0
                          try clear p27
                          try clear q27
                          try clear hx27
                          try clear c40
                          try clear c40b0
                          try clear c41
                          try clear c42
                          try clear c43
                          try clear c45
                          try clear c46
                          try clear c48
                          try clear c50
                          try clear c51
                          try clear c52
                          try clear c54
                          try clear c55
                          try clear c58
                          try clear c58b0
                          try clear c59
                          try clear c60
                          try clear c61
                          try clear c63
                          try clear c64
                          try clear c66
                          try clear c68
                          try clear c69
                          try clear c70
                          try clear c72
                          try clear c73
                          try clear hcz19_1
                          try clear hcz19_2
                          try clear hcz19_3
                          try clear hcz44_0
                          try clear hcz44_1
                          try clear hcz44_2
                          try clear hcz44_3
                          try clear hcz47_0
                          try clear hcz47_1
                          try clear hcz47_2
                          try clear hcz47_3
                          try clear hcz49_0
                          try clear hcz49_1
                          try clear hcz49_2
                          try clear hcz49_3
                          try clear hcz53_0
                          try clear hcz53_1
                          try clear hcz53_2
                          try clear hcz53_3
                          try clear hcz56_0
                          try clear hcz56_1
                          try clear hcz56_2
                          try clear hcz56_3
                          try clear hcz62_0
                          try clear hcz62_1
                          try clear hcz62_2
                          try clear hcz62_3
                          try clear hcz65_0
                          try clear hcz65_1
                          try clear hcz65_2
                          try clear hcz65_3
                          try clear hcz67_0
                          try clear hcz67_1
                          try clear hcz67_2
                          try clear hcz67_3
                          try clear hcz71_0
                          try clear hcz71_1
                          try clear hcz71_2
                          try clear hcz71_3
                          try clear hcz74_0
                          try clear hcz74_1
                          try clear hcz74_2
                          try clear hcz74_3
                          try clear hfz11_0
                          try clear hfz11_1
                          try clear hfz11_2
                          try clear hfz11_3
                          try clear hfz19_0
                          try clear hfz19_1
                          try clear hfz19_2
                          try clear hfz19_3
                          try clear hfz44_0
                          try clear hfz44_1
                          try clear hfz44_2
                          try clear hfz44_3
                          try clear hfz47_0
                          try clear hfz47_1
                          try clear hfz47_2
                          try clear hfz47_3
                          try clear hfz49_0
                          try clear hfz49_1
                          try clear hfz49_2
                          try clear hfz49_3
                          try clear hfz53_0
                          try clear hfz53_1
                          try clear hfz53_2
                          try clear hfz53_3
                          try clear hfz56_0
                          try clear hfz56_1
                          try clear hfz56_2
                          try clear hfz56_3
                          try clear hfz62_0
                          try clear hfz62_1
                          try clear hfz62_2
                          try clear hfz62_3
                          try clear hfz65_0
                          try clear hfz65_1
                          try clear hfz65_2
                          try clear hfz65_3
                          try clear hfz67_0
                          try clear hfz67_1
                          try clear hfz67_2
                          try clear hfz67_3
                          try clear hfz71_0
                          try clear hfz71_1
                          try clear hfz71_2
                          try clear hfz71_3
                          try clear hfz74_0
                          try clear hfz74_1
                          try clear hfz74_2
                          try clear hfz74_3
                          try clear hx272_0
                          try clear hx272_1
                          try clear hx272_2
                          try clear hx272_3
                          try clear hx277_0
                          try clear hx277_1
                          try clear hx277_2
                          try clear hx277_3
                          try clear hx278_0
                          try clear hx278_1
                          try clear hx278_2
                          try clear hx278_3
                          try clear p2
                          try clear p27
                          try clear p272
                          try clear p277
                          try clear p278
                          try clear p6
                          try clear q2
                          try clear q27
                          try clear q272
                          try clear q277
                          try clear q278
                          obtain ⟨kq, x11_56, rfl, HA, HJ56, HO_0, BK261, BK273, BK279, BK280, HB⟩ := hcut
                          cases kq with
                          | zero => exact absurd HA.out (by simp [croftlaw34_PolyWithin.j2])
                          | succ kj56 =>
                            have H := HA.out
                            clear HA
                            simp only [croftlaw34_PolyWithin.j2] at H
                            by_cases c75 : x10_25 = true
                            · subst c75
                              have H1 : ((croftlaw34_turn.f ((rd_T24 t263 x7_1).f0) ((rd_T24 t263 x7_1).f1) ((rd_T24 t263 x7_1).f2) ((rd_T24 t263 x7_1).f3) ((rd_T24 t263 (ji23)).f0) ((rd_T24 t263 (ji23)).f1) ((rd_T24 t263 (ji23)).f2) ((rd_T24 t263 (ji23)).f3) ((rd_T24 t269 0).f0) ((rd_T24 t269 0).f1) ((rd_T24 t269 0).f2) ((rd_T24 t269 0).f3)).bind fun t281 => (if t281 > 0 then (croftlaw34_PolyWithin.l0 kj56 t263 (!x6_1) (wrap64 (x7_1 + 1)) ((rd_T24 t269 0).f0) ((rd_T24 t269 0).f1) ((rd_T24 t269 0).f2) ((rd_T24 t269 0).f3)) else (if x11_56 = true then ((croftlaw34_turn.f ((rd_T24 t263 x7_1).f0) ((rd_T24 t263 x7_1).f1) ((rd_T24 t263 x7_1).f2) ((rd_T24 t263 x7_1).f3) ((rd_T24 t263 (ji23)).f0) ((rd_T24 t263 (ji23)).f1) ((rd_T24 t263 (ji23)).f2) ((rd_T24 t263 (ji23)).f3) ((rd_T24 t269 0).f0) ((rd_T24 t269 0).f1) ((rd_T24 t269 0).f2) ((rd_T24 t269 0).f3)).bind fun t282 => (if t282 < 0 then (croftlaw34_PolyWithin.l0 kj56 t263 (!x6_1) (wrap64 (x7_1 + 1)) ((rd_T24 t269 0).f0) ((rd_T24 t269 0).f1) ((rd_T24 t269 0).f2) ((rd_T24 t269 0).f3)) else (croftlaw34_PolyWithin.l0 kj56 t263 x6_1 (wrap64 (x7_1 + 1)) ((rd_T24 t269 0).f0) ((rd_T24 t269 0).f1) ((rd_T24 t269 0).f2) ((rd_T24 t269 0).f3)))) else (croftlaw34_PolyWithin.l0 kj56 t263 x6_1 (wrap64 (x7_1 + 1)) ((rd_T24 t269 0).f0) ((rd_T24 t269 0).f1) ((rd_T24 t269 0).f2) ((rd_T24 t269 0).f3))))) = some r := by rw [if_pos rfl] at H; exact H
                              clear H
                              have H := H1
                              clear H1
                              replace H := Option.bind_eq_some_iff.mp H
                              obtain ⟨t281, A760, H⟩ := H
                              replace H : (if t281 > 0 then (croftlaw34_PolyWithin.l0 kj56 t263 (!x6_1) (wrap64 (x7_1 + 1)) ((rd_T24 t269 0).f0) ((rd_T24 t269 0).f1) ((rd_T24 t269 0).f2) ((rd_T24 t269 0).f3)) else (if x11_56 = true then ((croftlaw34_turn.f ((rd_T24 t263 x7_1).f0) ((rd_T24 t263 x7_1).f1) ((rd_T24 t263 x7_1).f2) ((rd_T24 t263 x7_1).f3) ((rd_T24 t263 (ji23)).f0) ((rd_T24 t263 (ji23)).f1) ((rd_T24 t263 (ji23)).f2) ((rd_T24 t263 (ji23)).f3) ((rd_T24 t269 0).f0) ((rd_T24 t269 0).f1) ((rd_T24 t269 0).f2) ((rd_T24 t269 0).f3)).bind fun t282 => (if t282 < 0 then (croftlaw34_PolyWithin.l0 kj56 t263 (!x6_1) (wrap64 (x7_1 + 1)) ((rd_T24 t269 0).f0) ((rd_T24 t269 0).f1) ((rd_T24 t269 0).f2) ((rd_T24 t269 0).f3)) else (croftlaw34_PolyWithin.l0 kj56 t263 x6_1 (wrap64 (x7_1 + 1)) ((rd_T24 t269 0).f0) ((rd_T24 t269 0).f1) ((rd_T24 t269 0).f2) ((rd_T24 t269 0).f3)))) else (croftlaw34_PolyWithin.l0 kj56 t263 x6_1 (wrap64 (x7_1 + 1)) ((rd_T24 t269 0).f0) ((rd_T24 t269 0).f1) ((rd_T24 t269 0).f2) ((rd_T24 t269 0).f3)))) = some r := H
                              have A76 := Aside0.mk A760
                              clear A760
                              by_cases c77 : t281 > 0
                              · rw [if_pos c77] at H
                                have c77b0 : decide (0 < t281) = true := decide_eq_true c77
                                clear c77
                                have H' := Aside0.mk H
                                clear H
                                have hnb78 := NB279_261.out
                                have hnc78 := NB261_279.out
                                have hnb79 := NB279_273.out
                                have hnc79 := NB273_279.out
                                have hnb80 := NB279_280.out
                                have hnc80 := NB280_279.out
                                have hcz81_0 : wc.cell? ⟨gb279, 0, none⟩ = some (.int .i64 ((rd_T24 t263 x7_1).f0)) := (blk_cell BK279.out 0).trans rfl
                                have hcz81_1 : wc.cell? ⟨gb279, 1, none⟩ = some (.int .u32 ((rd_T24 t263 x7_1).f1)) := (blk_cell BK279.out 1).trans rfl
                                have hcz81_2 : wc.cell? ⟨gb279, 2, none⟩ = some (.int .u32 ((rd_T24 t263 x7_1).f2)) := (blk_cell BK279.out 2).trans rfl
                                have hcz81_3 : wc.cell? ⟨gb279, 3, none⟩ = some (.string ((rd_T24 t263 x7_1).f3)) := (blk_cell BK279.out 3).trans rfl
                                have hfz81_0 := blk_frozen BK279.out 0
                                have hfz81_1 := blk_frozen BK279.out 1
                                have hfz81_2 := blk_frozen BK279.out 2
                                have hfz81_3 := blk_frozen BK279.out 3
                                have hnb82 := NB280_261.out
                                have hnc82 := NB261_280.out
                                have hnb83 := NB280_273.out
                                have hnc83 := NB273_280.out
                                have hcz84_0 : wc.cell? ⟨gb280, 0, none⟩ = some (.int .i64 ((rd_T24 t263 (ji23)).f0)) := (blk_cell BK280.out 0).trans rfl
                                have hcz84_1 : wc.cell? ⟨gb280, 1, none⟩ = some (.int .u32 ((rd_T24 t263 (ji23)).f1)) := (blk_cell BK280.out 1).trans rfl
                                have hcz84_2 : wc.cell? ⟨gb280, 2, none⟩ = some (.int .u32 ((rd_T24 t263 (ji23)).f2)) := (blk_cell BK280.out 2).trans rfl
                                have hcz84_3 : wc.cell? ⟨gb280, 3, none⟩ = some (.string ((rd_T24 t263 (ji23)).f3)) := (blk_cell BK280.out 3).trans rfl
                                have hfz84_0 := blk_frozen BK280.out 0
                                have hfz84_1 := blk_frozen BK280.out 1
                                have hfz84_2 := blk_frozen BK280.out 2
                                have hfz84_3 := blk_frozen BK280.out 3
                                have hnb85 := NB273_261.out
                                have hnc85 := NB261_273.out
                                have hcz86_0 : wc.cell? ⟨gb273, 0, none⟩ = some (.int .i64 ((rd_T24 t269 0).f0)) := (blk_cell BK273.out 0).trans rfl
                                have hcz86_1 : wc.cell? ⟨gb273, 1, none⟩ = some (.int .u32 ((rd_T24 t269 0).f1)) := (blk_cell BK273.out 1).trans rfl
                                have hcz86_2 : wc.cell? ⟨gb273, 2, none⟩ = some (.int .u32 ((rd_T24 t269 0).f2)) := (blk_cell BK273.out 2).trans rfl
                                have hcz86_3 : wc.cell? ⟨gb273, 3, none⟩ = some (.string ((rd_T24 t269 0).f3)) := (blk_cell BK273.out 3).trans rfl
                                have hfz86_0 := blk_frozen BK273.out 0
                                have hfz86_1 := blk_frozen BK273.out 1
                                have hfz86_2 := blk_frozen BK273.out 2
                                have hfz86_3 := blk_frozen BK273.out 3
                                go_wp2_with (first | (go_at_call 16; (with_reducible refine (croftlaw34_turn.calls ((rd_T24 t263 x7_1).f0) ((rd_T24 t263 x7_1).f1) ((rd_T24 t263 x7_1).f2) ((rd_T24 t263 x7_1).f3) ((rd_T24 t263 (ji23)).f0) ((rd_T24 t263 (ji23)).f1) ((rd_T24 t263 (ji23)).f2) ((rd_T24 t263 (ji23)).f3) ((rd_T24 t269 0).f0) ((rd_T24 t269 0).f1) ((rd_T24 t269 0).f2) ((rd_T24 t269 0).f3) t281 _ A76.out).mono ?_); rintro e w87 ⟨rfl, hb⟩; have n0_ := Aside0.mk (Kd.R_below (by (with_reducible repeat (first | apply Kd.R_alloc | apply Kd.R_drewN | apply Kd.R_drew)); exact HO_0.out) hb); have n1_ := Aside0.mk (blk_below (g := gb261) (o := .cells #[.int .i64 a1_0, .int .u32 a1_1, .int .u32 a1_2, .string a1_3] 24 (0, 0)) (by (with_reducible repeat (first | refine blk_drewN ?_ _ | refine blk_drew ?_ | refine blk_alloc ?_ _)); exact BK261.out) hb); have n2_ := Aside0.mk (blk_below (g := gb273) (o := .cells #[.int .i64 ((rd_T24 t269 0).f0), .int .u32 ((rd_T24 t269 0).f1), .int .u32 ((rd_T24 t269 0).f2), .string ((rd_T24 t269 0).f3)] 24 (0, 0)) (by (with_reducible repeat (first | refine blk_drewN ?_ _ | refine blk_drew ?_ | refine blk_alloc ?_ _)); exact BK273.out) hb); have n3_ := Aside0.mk (blk_below (g := gb279) (o := .cells #[.int .i64 ((rd_T24 t263 x7_1).f0), .int .u32 ((rd_T24 t263 x7_1).f1), .int .u32 ((rd_T24 t263 x7_1).f2), .string ((rd_T24 t263 x7_1).f3)] 24 (0, 0)) (by (with_reducible repeat (first | refine blk_drewN ?_ _ | refine blk_drew ?_ | refine blk_alloc ?_ _)); exact BK279.out) hb); have n4_ := Aside0.mk (blk_below (g := gb280) (o := .cells #[.int .i64 ((rd_T24 t263 (ji23)).f0), .int .u32 ((rd_T24 t263 (ji23)).f1), .int .u32 ((rd_T24 t263 (ji23)).f2), .string ((rd_T24 t263 (ji23)).f3)] 24 (0, 0)) (by (with_reducible repeat (first | refine blk_drewN ?_ _ | refine blk_drew ?_ | refine blk_alloc ?_ _)); exact BK280.out) hb); have n5_ := Aside0.mk (below_step (by repeat (first | (with_reducible first | exact HB.out | apply below_alloc | apply pw_below_drewN | apply below_drew1 | refine below_set ?_ GE261.out | refine below_set ?_ GE273.out | refine below_set ?_ GE279.out | refine below_set ?_ GE280.out) | exact HB.out)) hb); clear HO_0; clear BK261; clear BK273; clear BK279; clear BK280; clear HB; have HO_0 := n0_; have BK261 := n1_; have BK273 := n2_; have BK279 := n3_; have BK280 := n4_; have HB := n5_; clear n0_ n1_ n2_ n3_ n4_ n5_; (try clear hb); (try clear hb2); (try clear hk); (try clear hi)))
                                go_roundg kj56
                                case measure => have := HK1.out; have := HJ25.out; have := HJ56.out; omega
                                case rel => exact ⟨(!x6_1), (wrap64 (x7_1 + 1)), (by first | rfl | (simp; done) | (simp [*]; done)), (by first | rfl | (simp; done) | (simp [*]; done)), H', ⟨by have := HK1.out; have := HJ25.out; have := HJ56.out; omega⟩, ⟨by (with_reducible repeat (first | apply Kd.R_alloc | apply Kd.R_drewN | apply Kd.R_drew)); exact Kd.R_mono HO_0.out (fun _ hk => ⟨hk.1, hk.2.1⟩)⟩, ⟨by (with_reducible repeat (first | refine blk_drewN ?_ _ | refine blk_drew ?_ | refine blk_alloc ?_ _)); exact BK261.out⟩, ⟨by (with_reducible repeat (first | refine blk_drewN ?_ _ | refine blk_drew ?_ | refine blk_alloc ?_ _)); exact BK273.out⟩, ⟨by repeat (first | (with_reducible first | exact HB.out | apply below_alloc | apply pw_below_drewN | apply below_drew1 | refine below_set ?_ GE261.out | refine below_set ?_ GE273.out | refine below_set ?_ GE279.out | refine below_set ?_ GE280.out) | exact HB.out)⟩⟩
                              · rw [if_neg c77] at H
                                have c77b0 : decide (0 < t281) = false := decide_eq_false c77
                                clear c77
                                by_cases c88 : x11_56 = true
                                · subst c88
                                  have H1 : ((croftlaw34_turn.f ((rd_T24 t263 x7_1).f0) ((rd_T24 t263 x7_1).f1) ((rd_T24 t263 x7_1).f2) ((rd_T24 t263 x7_1).f3) ((rd_T24 t263 (ji23)).f0) ((rd_T24 t263 (ji23)).f1) ((rd_T24 t263 (ji23)).f2) ((rd_T24 t263 (ji23)).f3) ((rd_T24 t269 0).f0) ((rd_T24 t269 0).f1) ((rd_T24 t269 0).f2) ((rd_T24 t269 0).f3)).bind fun t282 => (if t282 < 0 then (croftlaw34_PolyWithin.l0 kj56 t263 (!x6_1) (wrap64 (x7_1 + 1)) ((rd_T24 t269 0).f0) ((rd_T24 t269 0).f1) ((rd_T24 t269 0).f2) ((rd_T24 t269 0).f3)) else (croftlaw34_PolyWithin.l0 kj56 t263 x6_1 (wrap64 (x7_1 + 1)) ((rd_T24 t269 0).f0) ((rd_T24 t269 0).f1) ((rd_T24 t269 0).f2) ((rd_T24 t269 0).f3)))) = some r := by rw [if_pos rfl] at H; exact H
                                  clear H
                                  have H := H1
                                  clear H1
                                  replace H := Option.bind_eq_some_iff.mp H
                                  obtain ⟨t282, A890, H⟩ := H
                                  replace H : (if t282 < 0 then (croftlaw34_PolyWithin.l0 kj56 t263 (!x6_1) (wrap64 (x7_1 + 1)) ((rd_T24 t269 0).f0) ((rd_T24 t269 0).f1) ((rd_T24 t269 0).f2) ((rd_T24 t269 0).f3)) else (croftlaw34_PolyWithin.l0 kj56 t263 x6_1 (wrap64 (x7_1 + 1)) ((rd_T24 t269 0).f0) ((rd_T24 t269 0).f1) ((rd_T24 t269 0).f2) ((rd_T24 t269 0).f3))) = some r := H
                                  have A89 := Aside0.mk A890
                                  clear A890
                                  have E8 : t282 = t281 := Option.some.inj (A89.out.symm.trans A76.out)
                                  by_cases c90 : t282 < 0
                                  · rw [if_pos c90] at H
                                    have c90b0 : decide (t282 < 0) = true := decide_eq_true c90
                                    have c90x := c90b0
                                    rw [E8] at c90x
                                    clear c90
                                    have H' := Aside0.mk H
                                    clear H
                                    have hnb91 := NB279_261.out
                                    have hnc91 := NB261_279.out
                                    have hnb92 := NB279_273.out
                                    have hnc92 := NB273_279.out
                                    have hnb93 := NB279_280.out
                                    have hnc93 := NB280_279.out
                                    have hcz94_0 : wc.cell? ⟨gb279, 0, none⟩ = some (.int .i64 ((rd_T24 t263 x7_1).f0)) := (blk_cell BK279.out 0).trans rfl
                                    have hcz94_1 : wc.cell? ⟨gb279, 1, none⟩ = some (.int .u32 ((rd_T24 t263 x7_1).f1)) := (blk_cell BK279.out 1).trans rfl
                                    have hcz94_2 : wc.cell? ⟨gb279, 2, none⟩ = some (.int .u32 ((rd_T24 t263 x7_1).f2)) := (blk_cell BK279.out 2).trans rfl
                                    have hcz94_3 : wc.cell? ⟨gb279, 3, none⟩ = some (.string ((rd_T24 t263 x7_1).f3)) := (blk_cell BK279.out 3).trans rfl
                                    have hfz94_0 := blk_frozen BK279.out 0
                                    have hfz94_1 := blk_frozen BK279.out 1
                                    have hfz94_2 := blk_frozen BK279.out 2
                                    have hfz94_3 := blk_frozen BK279.out 3
                                    have hnb95 := NB280_261.out
                                    have hnc95 := NB261_280.out
                                    have hnb96 := NB280_273.out
                                    have hnc96 := NB273_280.out
                                    have hcz97_0 : wc.cell? ⟨gb280, 0, none⟩ = some (.int .i64 ((rd_T24 t263 (ji23)).f0)) := (blk_cell BK280.out 0).trans rfl
                                    have hcz97_1 : wc.cell? ⟨gb280, 1, none⟩ = some (.int .u32 ((rd_T24 t263 (ji23)).f1)) := (blk_cell BK280.out 1).trans rfl
                                    have hcz97_2 : wc.cell? ⟨gb280, 2, none⟩ = some (.int .u32 ((rd_T24 t263 (ji23)).f2)) := (blk_cell BK280.out 2).trans rfl
                                    have hcz97_3 : wc.cell? ⟨gb280, 3, none⟩ = some (.string ((rd_T24 t263 (ji23)).f3)) := (blk_cell BK280.out 3).trans rfl
                                    have hfz97_0 := blk_frozen BK280.out 0
                                    have hfz97_1 := blk_frozen BK280.out 1
                                    have hfz97_2 := blk_frozen BK280.out 2
                                    have hfz97_3 := blk_frozen BK280.out 3
                                    have hnb98 := NB273_261.out
                                    have hnc98 := NB261_273.out
                                    have hcz99_0 : wc.cell? ⟨gb273, 0, none⟩ = some (.int .i64 ((rd_T24 t269 0).f0)) := (blk_cell BK273.out 0).trans rfl
                                    have hcz99_1 : wc.cell? ⟨gb273, 1, none⟩ = some (.int .u32 ((rd_T24 t269 0).f1)) := (blk_cell BK273.out 1).trans rfl
                                    have hcz99_2 : wc.cell? ⟨gb273, 2, none⟩ = some (.int .u32 ((rd_T24 t269 0).f2)) := (blk_cell BK273.out 2).trans rfl
                                    have hcz99_3 : wc.cell? ⟨gb273, 3, none⟩ = some (.string ((rd_T24 t269 0).f3)) := (blk_cell BK273.out 3).trans rfl
                                    have hfz99_0 := blk_frozen BK273.out 0
                                    have hfz99_1 := blk_frozen BK273.out 1
                                    have hfz99_2 := blk_frozen BK273.out 2
                                    have hfz99_3 := blk_frozen BK273.out 3
                                    go_wp2_with (first | (go_at_call 16; (with_reducible refine (croftlaw34_turn.calls ((rd_T24 t263 x7_1).f0) ((rd_T24 t263 x7_1).f1) ((rd_T24 t263 x7_1).f2) ((rd_T24 t263 x7_1).f3) ((rd_T24 t263 (ji23)).f0) ((rd_T24 t263 (ji23)).f1) ((rd_T24 t263 (ji23)).f2) ((rd_T24 t263 (ji23)).f3) ((rd_T24 t269 0).f0) ((rd_T24 t269 0).f1) ((rd_T24 t269 0).f2) ((rd_T24 t269 0).f3) t281 _ A76.out).mono ?_); rintro e w100 ⟨rfl, hb⟩; have n0_ := Aside0.mk (Kd.R_below (by (with_reducible repeat (first | apply Kd.R_alloc | apply Kd.R_drewN | apply Kd.R_drew)); exact HO_0.out) hb); have n1_ := Aside0.mk (blk_below (g := gb261) (o := .cells #[.int .i64 a1_0, .int .u32 a1_1, .int .u32 a1_2, .string a1_3] 24 (0, 0)) (by (with_reducible repeat (first | refine blk_drewN ?_ _ | refine blk_drew ?_ | refine blk_alloc ?_ _)); exact BK261.out) hb); have n2_ := Aside0.mk (blk_below (g := gb273) (o := .cells #[.int .i64 ((rd_T24 t269 0).f0), .int .u32 ((rd_T24 t269 0).f1), .int .u32 ((rd_T24 t269 0).f2), .string ((rd_T24 t269 0).f3)] 24 (0, 0)) (by (with_reducible repeat (first | refine blk_drewN ?_ _ | refine blk_drew ?_ | refine blk_alloc ?_ _)); exact BK273.out) hb); have n3_ := Aside0.mk (blk_below (g := gb279) (o := .cells #[.int .i64 ((rd_T24 t263 x7_1).f0), .int .u32 ((rd_T24 t263 x7_1).f1), .int .u32 ((rd_T24 t263 x7_1).f2), .string ((rd_T24 t263 x7_1).f3)] 24 (0, 0)) (by (with_reducible repeat (first | refine blk_drewN ?_ _ | refine blk_drew ?_ | refine blk_alloc ?_ _)); exact BK279.out) hb); have n4_ := Aside0.mk (blk_below (g := gb280) (o := .cells #[.int .i64 ((rd_T24 t263 (ji23)).f0), .int .u32 ((rd_T24 t263 (ji23)).f1), .int .u32 ((rd_T24 t263 (ji23)).f2), .string ((rd_T24 t263 (ji23)).f3)] 24 (0, 0)) (by (with_reducible repeat (first | refine blk_drewN ?_ _ | refine blk_drew ?_ | refine blk_alloc ?_ _)); exact BK280.out) hb); have n5_ := Aside0.mk (below_step (by repeat (first | (with_reducible first | exact HB.out | apply below_alloc | apply pw_below_drewN | apply below_drew1 | refine below_set ?_ GE261.out | refine below_set ?_ GE273.out | refine below_set ?_ GE279.out | refine below_set ?_ GE280.out) | exact HB.out)) hb); clear HO_0; clear BK261; clear BK273; clear BK279; clear BK280; clear HB; have HO_0 := n0_; have BK261 := n1_; have BK273 := n2_; have BK279 := n3_; have BK280 := n4_; have HB := n5_; clear n0_ n1_ n2_ n3_ n4_ n5_; (try clear hb); (try clear hb2); (try clear hk); (try clear hi); have hcz101_0 : w100.cell? ⟨gb279, 0, none⟩ = some (.int .i64 ((rd_T24 t263 x7_1).f0)) := (blk_cell BK279.out 0).trans rfl; have hcz101_1 : w100.cell? ⟨gb279, 1, none⟩ = some (.int .u32 ((rd_T24 t263 x7_1).f1)) := (blk_cell BK279.out 1).trans rfl; have hcz101_2 : w100.cell? ⟨gb279, 2, none⟩ = some (.int .u32 ((rd_T24 t263 x7_1).f2)) := (blk_cell BK279.out 2).trans rfl; have hcz101_3 : w100.cell? ⟨gb279, 3, none⟩ = some (.string ((rd_T24 t263 x7_1).f3)) := (blk_cell BK279.out 3).trans rfl; have hfz101_0 := blk_frozen BK279.out 0; have hfz101_1 := blk_frozen BK279.out 1; have hfz101_2 := blk_frozen BK279.out 2; have hfz101_3 := blk_frozen BK279.out 3; have hcz102_0 : w100.cell? ⟨gb280, 0, none⟩ = some (.int .i64 ((rd_T24 t263 (ji23)).f0)) := (blk_cell BK280.out 0).trans rfl; have hcz102_1 : w100.cell? ⟨gb280, 1, none⟩ = some (.int .u32 ((rd_T24 t263 (ji23)).f1)) := (blk_cell BK280.out 1).trans rfl; have hcz102_2 : w100.cell? ⟨gb280, 2, none⟩ = some (.int .u32 ((rd_T24 t263 (ji23)).f2)) := (blk_cell BK280.out 2).trans rfl; have hcz102_3 : w100.cell? ⟨gb280, 3, none⟩ = some (.string ((rd_T24 t263 (ji23)).f3)) := (blk_cell BK280.out 3).trans rfl; have hfz102_0 := blk_frozen BK280.out 0; have hfz102_1 := blk_frozen BK280.out 1; have hfz102_2 := blk_frozen BK280.out 2; have hfz102_3 := blk_frozen BK280.out 3; have hcz103_0 : w100.cell? ⟨gb273, 0, none⟩ = some (.int .i64 ((rd_T24 t269 0).f0)) := (blk_cell BK273.out 0).trans rfl; have hcz103_1 : w100.cell? ⟨gb273, 1, none⟩ = some (.int .u32 ((rd_T24 t269 0).f1)) := (blk_cell BK273.out 1).trans rfl; have hcz103_2 : w100.cell? ⟨gb273, 2, none⟩ = some (.int .u32 ((rd_T24 t269 0).f2)) := (blk_cell BK273.out 2).trans rfl; have hcz103_3 : w100.cell? ⟨gb273, 3, none⟩ = some (.string ((rd_T24 t269 0).f3)) := (blk_cell BK273.out 3).trans rfl; have hfz103_0 := blk_frozen BK273.out 0; have hfz103_1 := blk_frozen BK273.out 1; have hfz103_2 := blk_frozen BK273.out 2; have hfz103_3 := blk_frozen BK273.out 3) | (go_at_call 16; (with_reducible refine (croftlaw34_turn.calls ((rd_T24 t263 x7_1).f0) ((rd_T24 t263 x7_1).f1) ((rd_T24 t263 x7_1).f2) ((rd_T24 t263 x7_1).f3) ((rd_T24 t263 (ji23)).f0) ((rd_T24 t263 (ji23)).f1) ((rd_T24 t263 (ji23)).f2) ((rd_T24 t263 (ji23)).f3) ((rd_T24 t269 0).f0) ((rd_T24 t269 0).f1) ((rd_T24 t269 0).f2) ((rd_T24 t269 0).f3) t282 _ A89.out).mono ?_); rintro e w104 ⟨rfl, hb⟩; have n0_ := Aside0.mk (Kd.R_below (by (with_reducible repeat (first | apply Kd.R_alloc | apply Kd.R_drewN | apply Kd.R_drew)); exact HO_0.out) hb); have n1_ := Aside0.mk (blk_below (g := gb261) (o := .cells #[.int .i64 a1_0, .int .u32 a1_1, .int .u32 a1_2, .string a1_3] 24 (0, 0)) (by (with_reducible repeat (first | refine blk_drewN ?_ _ | refine blk_drew ?_ | refine blk_alloc ?_ _)); exact BK261.out) hb); have n2_ := Aside0.mk (blk_below (g := gb273) (o := .cells #[.int .i64 ((rd_T24 t269 0).f0), .int .u32 ((rd_T24 t269 0).f1), .int .u32 ((rd_T24 t269 0).f2), .string ((rd_T24 t269 0).f3)] 24 (0, 0)) (by (with_reducible repeat (first | refine blk_drewN ?_ _ | refine blk_drew ?_ | refine blk_alloc ?_ _)); exact BK273.out) hb); have n3_ := Aside0.mk (blk_below (g := gb279) (o := .cells #[.int .i64 ((rd_T24 t263 x7_1).f0), .int .u32 ((rd_T24 t263 x7_1).f1), .int .u32 ((rd_T24 t263 x7_1).f2), .string ((rd_T24 t263 x7_1).f3)] 24 (0, 0)) (by (with_reducible repeat (first | refine blk_drewN ?_ _ | refine blk_drew ?_ | refine blk_alloc ?_ _)); exact BK279.out) hb); have n4_ := Aside0.mk (blk_below (g := gb280) (o := .cells #[.int .i64 ((rd_T24 t263 (ji23)).f0), .int .u32 ((rd_T24 t263 (ji23)).f1), .int .u32 ((rd_T24 t263 (ji23)).f2), .string ((rd_T24 t263 (ji23)).f3)] 24 (0, 0)) (by (with_reducible repeat (first | refine blk_drewN ?_ _ | refine blk_drew ?_ | refine blk_alloc ?_ _)); exact BK280.out) hb); have n5_ := Aside0.mk (below_step (by repeat (first | (with_reducible first | exact HB.out | apply below_alloc | apply pw_below_drewN | apply below_drew1 | refine below_set ?_ GE261.out | refine below_set ?_ GE273.out | refine below_set ?_ GE279.out | refine below_set ?_ GE280.out) | exact HB.out)) hb); clear HO_0; clear BK261; clear BK273; clear BK279; clear BK280; clear HB; have HO_0 := n0_; have BK261 := n1_; have BK273 := n2_; have BK279 := n3_; have BK280 := n4_; have HB := n5_; clear n0_ n1_ n2_ n3_ n4_ n5_; (try clear hb); (try clear hb2); (try clear hk); (try clear hi)))
                                    go_roundg kj56
                                    case measure => have := HK1.out; have := HJ25.out; have := HJ56.out; omega
                                    case rel => exact ⟨(!x6_1), (wrap64 (x7_1 + 1)), (by first | rfl | (simp; done) | (simp [*]; done)), (by first | rfl | (simp; done) | (simp [*]; done)), H', ⟨by have := HK1.out; have := HJ25.out; have := HJ56.out; omega⟩, ⟨by (with_reducible repeat (first | apply Kd.R_alloc | apply Kd.R_drewN | apply Kd.R_drew)); exact Kd.R_mono HO_0.out (fun _ hk => ⟨hk.1, hk.2.1⟩)⟩, ⟨by (with_reducible repeat (first | refine blk_drewN ?_ _ | refine blk_drew ?_ | refine blk_alloc ?_ _)); exact BK261.out⟩, ⟨by (with_reducible repeat (first | refine blk_drewN ?_ _ | refine blk_drew ?_ | refine blk_alloc ?_ _)); exact BK273.out⟩, ⟨by repeat (first | (with_reducible first | exact HB.out | apply below_alloc | apply pw_below_drewN | apply below_drew1 | refine below_set ?_ GE261.out | refine below_set ?_ GE273.out | refine below_set ?_ GE279.out | refine below_set ?_ GE280.out) | exact HB.out)⟩⟩
                                  · rw [if_neg c90] at H
                                    have c90b0 : decide (t282 < 0) = false := decide_eq_false c90
                                    have c90x := c90b0
                                    rw [E8] at c90x
                                    clear c90
                                    have H' := Aside0.mk H
                                    clear H
                                    have hnb105 := NB279_261.out
                                    have hnc105 := NB261_279.out
                                    have hnb106 := NB279_273.out
                                    have hnc106 := NB273_279.out
                                    have hnb107 := NB279_280.out
                                    have hnc107 := NB280_279.out
                                    have hcz108_0 : wc.cell? ⟨gb279, 0, none⟩ = some (.int .i64 ((rd_T24 t263 x7_1).f0)) := (blk_cell BK279.out 0).trans rfl
                                    have hcz108_1 : wc.cell? ⟨gb279, 1, none⟩ = some (.int .u32 ((rd_T24 t263 x7_1).f1)) := (blk_cell BK279.out 1).trans rfl
                                    have hcz108_2 : wc.cell? ⟨gb279, 2, none⟩ = some (.int .u32 ((rd_T24 t263 x7_1).f2)) := (blk_cell BK279.out 2).trans rfl
                                    have hcz108_3 : wc.cell? ⟨gb279, 3, none⟩ = some (.string ((rd_T24 t263 x7_1).f3)) := (blk_cell BK279.out 3).trans rfl
                                    have hfz108_0 := blk_frozen BK279.out 0
                                    have hfz108_1 := blk_frozen BK279.out 1
                                    have hfz108_2 := blk_frozen BK279.out 2
                                    have hfz108_3 := blk_frozen BK279.out 3
                                    have hnb109 := NB280_261.out
                                    have hnc109 := NB261_280.out
                                    have hnb110 := NB280_273.out
                                    have hnc110 := NB273_280.out
                                    have hcz111_0 : wc.cell? ⟨gb280, 0, none⟩ = some (.int .i64 ((rd_T24 t263 (ji23)).f0)) := (blk_cell BK280.out 0).trans rfl
                                    have hcz111_1 : wc.cell? ⟨gb280, 1, none⟩ = some (.int .u32 ((rd_T24 t263 (ji23)).f1)) := (blk_cell BK280.out 1).trans rfl
                                    have hcz111_2 : wc.cell? ⟨gb280, 2, none⟩ = some (.int .u32 ((rd_T24 t263 (ji23)).f2)) := (blk_cell BK280.out 2).trans rfl
                                    have hcz111_3 : wc.cell? ⟨gb280, 3, none⟩ = some (.string ((rd_T24 t263 (ji23)).f3)) := (blk_cell BK280.out 3).trans rfl
                                    have hfz111_0 := blk_frozen BK280.out 0
                                    have hfz111_1 := blk_frozen BK280.out 1
                                    have hfz111_2 := blk_frozen BK280.out 2
                                    have hfz111_3 := blk_frozen BK280.out 3
                                    have hnb112 := NB273_261.out
                                    have hnc112 := NB261_273.out
                                    have hcz113_0 : wc.cell? ⟨gb273, 0, none⟩ = some (.int .i64 ((rd_T24 t269 0).f0)) := (blk_cell BK273.out 0).trans rfl
                                    have hcz113_1 : wc.cell? ⟨gb273, 1, none⟩ = some (.int .u32 ((rd_T24 t269 0).f1)) := (blk_cell BK273.out 1).trans rfl
                                    have hcz113_2 : wc.cell? ⟨gb273, 2, none⟩ = some (.int .u32 ((rd_T24 t269 0).f2)) := (blk_cell BK273.out 2).trans rfl
                                    have hcz113_3 : wc.cell? ⟨gb273, 3, none⟩ = some (.string ((rd_T24 t269 0).f3)) := (blk_cell BK273.out 3).trans rfl
                                    have hfz113_0 := blk_frozen BK273.out 0
                                    have hfz113_1 := blk_frozen BK273.out 1
                                    have hfz113_2 := blk_frozen BK273.out 2
                                    have hfz113_3 := blk_frozen BK273.out 3
                                    go_wp2_with (first | (go_at_call 16; (with_reducible refine (croftlaw34_turn.calls ((rd_T24 t263 x7_1).f0) ((rd_T24 t263 x7_1).f1) ((rd_T24 t263 x7_1).f2) ((rd_T24 t263 x7_1).f3) ((rd_T24 t263 (ji23)).f0) ((rd_T24 t263 (ji23)).f1) ((rd_T24 t263 (ji23)).f2) ((rd_T24 t263 (ji23)).f3) ((rd_T24 t269 0).f0) ((rd_T24 t269 0).f1) ((rd_T24 t269 0).f2) ((rd_T24 t269 0).f3) t281 _ A76.out).mono ?_); rintro e w114 ⟨rfl, hb⟩; have n0_ := Aside0.mk (Kd.R_below (by (with_reducible repeat (first | apply Kd.R_alloc | apply Kd.R_drewN | apply Kd.R_drew)); exact HO_0.out) hb); have n1_ := Aside0.mk (blk_below (g := gb261) (o := .cells #[.int .i64 a1_0, .int .u32 a1_1, .int .u32 a1_2, .string a1_3] 24 (0, 0)) (by (with_reducible repeat (first | refine blk_drewN ?_ _ | refine blk_drew ?_ | refine blk_alloc ?_ _)); exact BK261.out) hb); have n2_ := Aside0.mk (blk_below (g := gb273) (o := .cells #[.int .i64 ((rd_T24 t269 0).f0), .int .u32 ((rd_T24 t269 0).f1), .int .u32 ((rd_T24 t269 0).f2), .string ((rd_T24 t269 0).f3)] 24 (0, 0)) (by (with_reducible repeat (first | refine blk_drewN ?_ _ | refine blk_drew ?_ | refine blk_alloc ?_ _)); exact BK273.out) hb); have n3_ := Aside0.mk (blk_below (g := gb279) (o := .cells #[.int .i64 ((rd_T24 t263 x7_1).f0), .int .u32 ((rd_T24 t263 x7_1).f1), .int .u32 ((rd_T24 t263 x7_1).f2), .string ((rd_T24 t263 x7_1).f3)] 24 (0, 0)) (by (with_reducible repeat (first | refine blk_drewN ?_ _ | refine blk_drew ?_ | refine blk_alloc ?_ _)); exact BK279.out) hb); have n4_ := Aside0.mk (blk_below (g := gb280) (o := .cells #[.int .i64 ((rd_T24 t263 (ji23)).f0), .int .u32 ((rd_T24 t263 (ji23)).f1), .int .u32 ((rd_T24 t263 (ji23)).f2), .string ((rd_T24 t263 (ji23)).f3)] 24 (0, 0)) (by (with_reducible repeat (first | refine blk_drewN ?_ _ | refine blk_drew ?_ | refine blk_alloc ?_ _)); exact BK280.out) hb); have n5_ := Aside0.mk (below_step (by repeat (first | (with_reducible first | exact HB.out | apply below_alloc | apply pw_below_drewN | apply below_drew1 | refine below_set ?_ GE261.out | refine below_set ?_ GE273.out | refine below_set ?_ GE279.out | refine below_set ?_ GE280.out) | exact HB.out)) hb); clear HO_0; clear BK261; clear BK273; clear BK279; clear BK280; clear HB; have HO_0 := n0_; have BK261 := n1_; have BK273 := n2_; have BK279 := n3_; have BK280 := n4_; have HB := n5_; clear n0_ n1_ n2_ n3_ n4_ n5_; (try clear hb); (try clear hb2); (try clear hk); (try clear hi); have hcz115_0 : w114.cell? ⟨gb279, 0, none⟩ = some (.int .i64 ((rd_T24 t263 x7_1).f0)) := (blk_cell BK279.out 0).trans rfl; have hcz115_1 : w114.cell? ⟨gb279, 1, none⟩ = some (.int .u32 ((rd_T24 t263 x7_1).f1)) := (blk_cell BK279.out 1).trans rfl; have hcz115_2 : w114.cell? ⟨gb279, 2, none⟩ = some (.int .u32 ((rd_T24 t263 x7_1).f2)) := (blk_cell BK279.out 2).trans rfl; have hcz115_3 : w114.cell? ⟨gb279, 3, none⟩ = some (.string ((rd_T24 t263 x7_1).f3)) := (blk_cell BK279.out 3).trans rfl; have hfz115_0 := blk_frozen BK279.out 0; have hfz115_1 := blk_frozen BK279.out 1; have hfz115_2 := blk_frozen BK279.out 2; have hfz115_3 := blk_frozen BK279.out 3; have hcz116_0 : w114.cell? ⟨gb280, 0, none⟩ = some (.int .i64 ((rd_T24 t263 (ji23)).f0)) := (blk_cell BK280.out 0).trans rfl; have hcz116_1 : w114.cell? ⟨gb280, 1, none⟩ = some (.int .u32 ((rd_T24 t263 (ji23)).f1)) := (blk_cell BK280.out 1).trans rfl; have hcz116_2 : w114.cell? ⟨gb280, 2, none⟩ = some (.int .u32 ((rd_T24 t263 (ji23)).f2)) := (blk_cell BK280.out 2).trans rfl; have hcz116_3 : w114.cell? ⟨gb280, 3, none⟩ = some (.string ((rd_T24 t263 (ji23)).f3)) := (blk_cell BK280.out 3).trans rfl; have hfz116_0 := blk_frozen BK280.out 0; have hfz116_1 := blk_frozen BK280.out 1; have hfz116_2 := blk_frozen BK280.out 2; have hfz116_3 := blk_frozen BK280.out 3; have hcz117_0 : w114.cell? ⟨gb273, 0, none⟩ = some (.int .i64 ((rd_T24 t269 0).f0)) := (blk_cell BK273.out 0).trans rfl; have hcz117_1 : w114.cell? ⟨gb273, 1, none⟩ = some (.int .u32 ((rd_T24 t269 0).f1)) := (blk_cell BK273.out 1).trans rfl; have hcz117_2 : w114.cell? ⟨gb273, 2, none⟩ = some (.int .u32 ((rd_T24 t269 0).f2)) := (blk_cell BK273.out 2).trans rfl; have hcz117_3 : w114.cell? ⟨gb273, 3, none⟩ = some (.string ((rd_T24 t269 0).f3)) := (blk_cell BK273.out 3).trans rfl; have hfz117_0 := blk_frozen BK273.out 0; have hfz117_1 := blk_frozen BK273.out 1; have hfz117_2 := blk_frozen BK273.out 2; have hfz117_3 := blk_frozen BK273.out 3) | (go_at_call 16; (with_reducible refine (croftlaw34_turn.calls ((rd_T24 t263 x7_1).f0) ((rd_T24 t263 x7_1).f1) ((rd_T24 t263 x7_1).f2) ((rd_T24 t263 x7_1).f3) ((rd_T24 t263 (ji23)).f0) ((rd_T24 t263 (ji23)).f1) ((rd_T24 t263 (ji23)).f2) ((rd_T24 t263 (ji23)).f3) ((rd_T24 t269 0).f0) ((rd_T24 t269 0).f1) ((rd_T24 t269 0).f2) ((rd_T24 t269 0).f3) t282 _ A89.out).mono ?_); rintro e w118 ⟨rfl, hb⟩; have n0_ := Aside0.mk (Kd.R_below (by (with_reducible repeat (first | apply Kd.R_alloc | apply Kd.R_drewN | apply Kd.R_drew)); exact HO_0.out) hb); have n1_ := Aside0.mk (blk_below (g := gb261) (o := .cells #[.int .i64 a1_0, .int .u32 a1_1, .int .u32 a1_2, .string a1_3] 24 (0, 0)) (by (with_reducible repeat (first | refine blk_drewN ?_ _ | refine blk_drew ?_ | refine blk_alloc ?_ _)); exact BK261.out) hb); have n2_ := Aside0.mk (blk_below (g := gb273) (o := .cells #[.int .i64 ((rd_T24 t269 0).f0), .int .u32 ((rd_T24 t269 0).f1), .int .u32 ((rd_T24 t269 0).f2), .string ((rd_T24 t269 0).f3)] 24 (0, 0)) (by (with_reducible repeat (first | refine blk_drewN ?_ _ | refine blk_drew ?_ | refine blk_alloc ?_ _)); exact BK273.out) hb); have n3_ := Aside0.mk (blk_below (g := gb279) (o := .cells #[.int .i64 ((rd_T24 t263 x7_1).f0), .int .u32 ((rd_T24 t263 x7_1).f1), .int .u32 ((rd_T24 t263 x7_1).f2), .string ((rd_T24 t263 x7_1).f3)] 24 (0, 0)) (by (with_reducible repeat (first | refine blk_drewN ?_ _ | refine blk_drew ?_ | refine blk_alloc ?_ _)); exact BK279.out) hb); have n4_ := Aside0.mk (blk_below (g := gb280) (o := .cells #[.int .i64 ((rd_T24 t263 (ji23)).f0), .int .u32 ((rd_T24 t263 (ji23)).f1), .int .u32 ((rd_T24 t263 (ji23)).f2), .string ((rd_T24 t263 (ji23)).f3)] 24 (0, 0)) (by (with_reducible repeat (first | refine blk_drewN ?_ _ | refine blk_drew ?_ | refine blk_alloc ?_ _)); exact BK280.out) hb); have n5_ := Aside0.mk (below_step (by repeat (first | (with_reducible first | exact HB.out | apply below_alloc | apply pw_below_drewN | apply below_drew1 | refine below_set ?_ GE261.out | refine below_set ?_ GE273.out | refine below_set ?_ GE279.out | refine below_set ?_ GE280.out) | exact HB.out)) hb); clear HO_0; clear BK261; clear BK273; clear BK279; clear BK280; clear HB; have HO_0 := n0_; have BK261 := n1_; have BK273 := n2_; have BK279 := n3_; have BK280 := n4_; have HB := n5_; clear n0_ n1_ n2_ n3_ n4_ n5_; (try clear hb); (try clear hb2); (try clear hk); (try clear hi)))
                                    go_roundg kj56
                                    case measure => have := HK1.out; have := HJ25.out; have := HJ56.out; omega
                                    case rel => exact ⟨(x6_1), (wrap64 (x7_1 + 1)), (by first | rfl | (simp; done) | (simp [*]; done)), (by first | rfl | (simp; done) | (simp [*]; done)), H', ⟨by have := HK1.out; have := HJ25.out; have := HJ56.out; omega⟩, ⟨by (with_reducible repeat (first | apply Kd.R_alloc | apply Kd.R_drewN | apply Kd.R_drew)); exact Kd.R_mono HO_0.out (fun _ hk => ⟨hk.1, hk.2.1⟩)⟩, ⟨by (with_reducible repeat (first | refine blk_drewN ?_ _ | refine blk_drew ?_ | refine blk_alloc ?_ _)); exact BK261.out⟩, ⟨by (with_reducible repeat (first | refine blk_drewN ?_ _ | refine blk_drew ?_ | refine blk_alloc ?_ _)); exact BK273.out⟩, ⟨by repeat (first | (with_reducible first | exact HB.out | apply below_alloc | apply pw_below_drewN | apply below_drew1 | refine below_set ?_ GE261.out | refine below_set ?_ GE273.out | refine below_set ?_ GE279.out | refine below_set ?_ GE280.out) | exact HB.out)⟩⟩
                                · replace c88 := Bool.eq_false_iff.mpr c88
                                  subst c88
                                  have H1 : (croftlaw34_PolyWithin.l0 kj56 t263 x6_1 (wrap64 (x7_1 + 1)) ((rd_T24 t269 0).f0) ((rd_T24 t269 0).f1) ((rd_T24 t269 0).f2) ((rd_T24 t269 0).f3)) = some r := by rw [if_neg (show ¬ (false = true) by decide)] at H; exact H
                                  clear H
                                  have H := H1
                                  clear H1
                                  have H' := Aside0.mk H
                                  clear H
                                  have hnb119 := NB279_261.out
                                  have hnc119 := NB261_279.out
                                  have hnb120 := NB279_273.out
                                  have hnc120 := NB273_279.out
                                  have hnb121 := NB279_280.out
                                  have hnc121 := NB280_279.out
                                  have hcz122_0 : wc.cell? ⟨gb279, 0, none⟩ = some (.int .i64 ((rd_T24 t263 x7_1).f0)) := (blk_cell BK279.out 0).trans rfl
                                  have hcz122_1 : wc.cell? ⟨gb279, 1, none⟩ = some (.int .u32 ((rd_T24 t263 x7_1).f1)) := (blk_cell BK279.out 1).trans rfl
                                  have hcz122_2 : wc.cell? ⟨gb279, 2, none⟩ = some (.int .u32 ((rd_T24 t263 x7_1).f2)) := (blk_cell BK279.out 2).trans rfl
                                  have hcz122_3 : wc.cell? ⟨gb279, 3, none⟩ = some (.string ((rd_T24 t263 x7_1).f3)) := (blk_cell BK279.out 3).trans rfl
                                  have hfz122_0 := blk_frozen BK279.out 0
                                  have hfz122_1 := blk_frozen BK279.out 1
                                  have hfz122_2 := blk_frozen BK279.out 2
                                  have hfz122_3 := blk_frozen BK279.out 3
                                  have hnb123 := NB280_261.out
                                  have hnc123 := NB261_280.out
                                  have hnb124 := NB280_273.out
                                  have hnc124 := NB273_280.out
                                  have hcz125_0 : wc.cell? ⟨gb280, 0, none⟩ = some (.int .i64 ((rd_T24 t263 (ji23)).f0)) := (blk_cell BK280.out 0).trans rfl
                                  have hcz125_1 : wc.cell? ⟨gb280, 1, none⟩ = some (.int .u32 ((rd_T24 t263 (ji23)).f1)) := (blk_cell BK280.out 1).trans rfl
                                  have hcz125_2 : wc.cell? ⟨gb280, 2, none⟩ = some (.int .u32 ((rd_T24 t263 (ji23)).f2)) := (blk_cell BK280.out 2).trans rfl
                                  have hcz125_3 : wc.cell? ⟨gb280, 3, none⟩ = some (.string ((rd_T24 t263 (ji23)).f3)) := (blk_cell BK280.out 3).trans rfl
                                  have hfz125_0 := blk_frozen BK280.out 0
                                  have hfz125_1 := blk_frozen BK280.out 1
                                  have hfz125_2 := blk_frozen BK280.out 2
                                  have hfz125_3 := blk_frozen BK280.out 3
                                  have hnb126 := NB273_261.out
                                  have hnc126 := NB261_273.out
                                  have hcz127_0 : wc.cell? ⟨gb273, 0, none⟩ = some (.int .i64 ((rd_T24 t269 0).f0)) := (blk_cell BK273.out 0).trans rfl
                                  have hcz127_1 : wc.cell? ⟨gb273, 1, none⟩ = some (.int .u32 ((rd_T24 t269 0).f1)) := (blk_cell BK273.out 1).trans rfl
                                  have hcz127_2 : wc.cell? ⟨gb273, 2, none⟩ = some (.int .u32 ((rd_T24 t269 0).f2)) := (blk_cell BK273.out 2).trans rfl
                                  have hcz127_3 : wc.cell? ⟨gb273, 3, none⟩ = some (.string ((rd_T24 t269 0).f3)) := (blk_cell BK273.out 3).trans rfl
                                  have hfz127_0 := blk_frozen BK273.out 0
                                  have hfz127_1 := blk_frozen BK273.out 1
                                  have hfz127_2 := blk_frozen BK273.out 2
                                  have hfz127_3 := blk_frozen BK273.out 3
                                  go_wp2_with (first | (go_at_call 16; (with_reducible refine (croftlaw34_turn.calls ((rd_T24 t263 x7_1).f0) ((rd_T24 t263 x7_1).f1) ((rd_T24 t263 x7_1).f2) ((rd_T24 t263 x7_1).f3) ((rd_T24 t263 (ji23)).f0) ((rd_T24 t263 (ji23)).f1) ((rd_T24 t263 (ji23)).f2) ((rd_T24 t263 (ji23)).f3) ((rd_T24 t269 0).f0) ((rd_T24 t269 0).f1) ((rd_T24 t269 0).f2) ((rd_T24 t269 0).f3) t281 _ A76.out).mono ?_); rintro e w128 ⟨rfl, hb⟩; have n0_ := Aside0.mk (Kd.R_below (by (with_reducible repeat (first | apply Kd.R_alloc | apply Kd.R_drewN | apply Kd.R_drew)); exact HO_0.out) hb); have n1_ := Aside0.mk (blk_below (g := gb261) (o := .cells #[.int .i64 a1_0, .int .u32 a1_1, .int .u32 a1_2, .string a1_3] 24 (0, 0)) (by (with_reducible repeat (first | refine blk_drewN ?_ _ | refine blk_drew ?_ | refine blk_alloc ?_ _)); exact BK261.out) hb); have n2_ := Aside0.mk (blk_below (g := gb273) (o := .cells #[.int .i64 ((rd_T24 t269 0).f0), .int .u32 ((rd_T24 t269 0).f1), .int .u32 ((rd_T24 t269 0).f2), .string ((rd_T24 t269 0).f3)] 24 (0, 0)) (by (with_reducible repeat (first | refine blk_drewN ?_ _ | refine blk_drew ?_ | refine blk_alloc ?_ _)); exact BK273.out) hb); have n3_ := Aside0.mk (blk_below (g := gb279) (o := .cells #[.int .i64 ((rd_T24 t263 x7_1).f0), .int .u32 ((rd_T24 t263 x7_1).f1), .int .u32 ((rd_T24 t263 x7_1).f2), .string ((rd_T24 t263 x7_1).f3)] 24 (0, 0)) (by (with_reducible repeat (first | refine blk_drewN ?_ _ | refine blk_drew ?_ | refine blk_alloc ?_ _)); exact BK279.out) hb); have n4_ := Aside0.mk (blk_below (g := gb280) (o := .cells #[.int .i64 ((rd_T24 t263 (ji23)).f0), .int .u32 ((rd_T24 t263 (ji23)).f1), .int .u32 ((rd_T24 t263 (ji23)).f2), .string ((rd_T24 t263 (ji23)).f3)] 24 (0, 0)) (by (with_reducible repeat (first | refine blk_drewN ?_ _ | refine blk_drew ?_ | refine blk_alloc ?_ _)); exact BK280.out) hb); have n5_ := Aside0.mk (below_step (by repeat (first | (with_reducible first | exact HB.out | apply below_alloc | apply pw_below_drewN | apply below_drew1 | refine below_set ?_ GE261.out | refine below_set ?_ GE273.out | refine below_set ?_ GE279.out | refine below_set ?_ GE280.out) | exact HB.out)) hb); clear HO_0; clear BK261; clear BK273; clear BK279; clear BK280; clear HB; have HO_0 := n0_; have BK261 := n1_; have BK273 := n2_; have BK279 := n3_; have BK280 := n4_; have HB := n5_; clear n0_ n1_ n2_ n3_ n4_ n5_; (try clear hb); (try clear hb2); (try clear hk); (try clear hi)))
                                  go_roundg kj56
                                  case measure => have := HK1.out; have := HJ25.out; have := HJ56.out; omega
                                  case rel => exact ⟨(x6_1), (wrap64 (x7_1 + 1)), (by first | rfl | (simp; done) | (simp [*]; done)), (by first | rfl | (simp; done) | (simp [*]; done)), H', ⟨by have := HK1.out; have := HJ25.out; have := HJ56.out; omega⟩, ⟨by (with_reducible repeat (first | apply Kd.R_alloc | apply Kd.R_drewN | apply Kd.R_drew)); exact Kd.R_mono HO_0.out (fun _ hk => ⟨hk.1, hk.2.1⟩)⟩, ⟨by (with_reducible repeat (first | refine blk_drewN ?_ _ | refine blk_drew ?_ | refine blk_alloc ?_ _)); exact BK261.out⟩, ⟨by (with_reducible repeat (first | refine blk_drewN ?_ _ | refine blk_drew ?_ | refine blk_alloc ?_ _)); exact BK273.out⟩, ⟨by repeat (first | (with_reducible first | exact HB.out | apply below_alloc | apply pw_below_drewN | apply below_drew1 | refine below_set ?_ GE261.out | refine below_set ?_ GE273.out | refine below_set ?_ GE279.out | refine below_set ?_ GE280.out) | exact HB.out)⟩⟩
                            · replace c75 := Bool.eq_false_iff.mpr c75
                              subst c75
                              have H1 : (if x11_56 = true then ((croftlaw34_turn.f ((rd_T24 t263 x7_1).f0) ((rd_T24 t263 x7_1).f1) ((rd_T24 t263 x7_1).f2) ((rd_T24 t263 x7_1).f3) ((rd_T24 t263 (ji23)).f0) ((rd_T24 t263 (ji23)).f1) ((rd_T24 t263 (ji23)).f2) ((rd_T24 t263 (ji23)).f3) ((rd_T24 t269 0).f0) ((rd_T24 t269 0).f1) ((rd_T24 t269 0).f2) ((rd_T24 t269 0).f3)).bind fun t283 => (if t283 < 0 then (croftlaw34_PolyWithin.l0 kj56 t263 (!x6_1) (wrap64 (x7_1 + 1)) ((rd_T24 t269 0).f0) ((rd_T24 t269 0).f1) ((rd_T24 t269 0).f2) ((rd_T24 t269 0).f3)) else (croftlaw34_PolyWithin.l0 kj56 t263 x6_1 (wrap64 (x7_1 + 1)) ((rd_T24 t269 0).f0) ((rd_T24 t269 0).f1) ((rd_T24 t269 0).f2) ((rd_T24 t269 0).f3)))) else (croftlaw34_PolyWithin.l0 kj56 t263 x6_1 (wrap64 (x7_1 + 1)) ((rd_T24 t269 0).f0) ((rd_T24 t269 0).f1) ((rd_T24 t269 0).f2) ((rd_T24 t269 0).f3))) = some r := by rw [if_neg (show ¬ (false = true) by decide)] at H; exact H
                              clear H
                              have H := H1
                              clear H1
                              by_cases c129 : x11_56 = true
                              · subst c129
                                have H1 : ((croftlaw34_turn.f ((rd_T24 t263 x7_1).f0) ((rd_T24 t263 x7_1).f1) ((rd_T24 t263 x7_1).f2) ((rd_T24 t263 x7_1).f3) ((rd_T24 t263 (ji23)).f0) ((rd_T24 t263 (ji23)).f1) ((rd_T24 t263 (ji23)).f2) ((rd_T24 t263 (ji23)).f3) ((rd_T24 t269 0).f0) ((rd_T24 t269 0).f1) ((rd_T24 t269 0).f2) ((rd_T24 t269 0).f3)).bind fun t283 => (if t283 < 0 then (croftlaw34_PolyWithin.l0 kj56 t263 (!x6_1) (wrap64 (x7_1 + 1)) ((rd_T24 t269 0).f0) ((rd_T24 t269 0).f1) ((rd_T24 t269 0).f2) ((rd_T24 t269 0).f3)) else (croftlaw34_PolyWithin.l0 kj56 t263 x6_1 (wrap64 (x7_1 + 1)) ((rd_T24 t269 0).f0) ((rd_T24 t269 0).f1) ((rd_T24 t269 0).f2) ((rd_T24 t269 0).f3)))) = some r := by rw [if_pos rfl] at H; exact H
                                clear H
                                have H := H1
                                clear H1
                                replace H := Option.bind_eq_some_iff.mp H
                                obtain ⟨t283, A1300, H⟩ := H
                                replace H : (if t283 < 0 then (croftlaw34_PolyWithin.l0 kj56 t263 (!x6_1) (wrap64 (x7_1 + 1)) ((rd_T24 t269 0).f0) ((rd_T24 t269 0).f1) ((rd_T24 t269 0).f2) ((rd_T24 t269 0).f3)) else (croftlaw34_PolyWithin.l0 kj56 t263 x6_1 (wrap64 (x7_1 + 1)) ((rd_T24 t269 0).f0) ((rd_T24 t269 0).f1) ((rd_T24 t269 0).f2) ((rd_T24 t269 0).f3))) = some r := H
                                have A130 := Aside0.mk A1300
                                clear A1300
                                by_cases c131 : t283 < 0
                                · rw [if_pos c131] at H
                                  have c131b0 : decide (t283 < 0) = true := decide_eq_true c131
                                  clear c131
                                  have H' := Aside0.mk H
                                  clear H
                                  have hnb132 := NB279_261.out
                                  have hnc132 := NB261_279.out
                                  have hnb133 := NB279_273.out
                                  have hnc133 := NB273_279.out
                                  have hnb134 := NB279_280.out
                                  have hnc134 := NB280_279.out
                                  have hcz135_0 : wc.cell? ⟨gb279, 0, none⟩ = some (.int .i64 ((rd_T24 t263 x7_1).f0)) := (blk_cell BK279.out 0).trans rfl
                                  have hcz135_1 : wc.cell? ⟨gb279, 1, none⟩ = some (.int .u32 ((rd_T24 t263 x7_1).f1)) := (blk_cell BK279.out 1).trans rfl
                                  have hcz135_2 : wc.cell? ⟨gb279, 2, none⟩ = some (.int .u32 ((rd_T24 t263 x7_1).f2)) := (blk_cell BK279.out 2).trans rfl
                                  have hcz135_3 : wc.cell? ⟨gb279, 3, none⟩ = some (.string ((rd_T24 t263 x7_1).f3)) := (blk_cell BK279.out 3).trans rfl
                                  have hfz135_0 := blk_frozen BK279.out 0
                                  have hfz135_1 := blk_frozen BK279.out 1
                                  have hfz135_2 := blk_frozen BK279.out 2
                                  have hfz135_3 := blk_frozen BK279.out 3
                                  have hnb136 := NB280_261.out
                                  have hnc136 := NB261_280.out
                                  have hnb137 := NB280_273.out
                                  have hnc137 := NB273_280.out
                                  have hcz138_0 : wc.cell? ⟨gb280, 0, none⟩ = some (.int .i64 ((rd_T24 t263 (ji23)).f0)) := (blk_cell BK280.out 0).trans rfl
                                  have hcz138_1 : wc.cell? ⟨gb280, 1, none⟩ = some (.int .u32 ((rd_T24 t263 (ji23)).f1)) := (blk_cell BK280.out 1).trans rfl
                                  have hcz138_2 : wc.cell? ⟨gb280, 2, none⟩ = some (.int .u32 ((rd_T24 t263 (ji23)).f2)) := (blk_cell BK280.out 2).trans rfl
                                  have hcz138_3 : wc.cell? ⟨gb280, 3, none⟩ = some (.string ((rd_T24 t263 (ji23)).f3)) := (blk_cell BK280.out 3).trans rfl
                                  have hfz138_0 := blk_frozen BK280.out 0
                                  have hfz138_1 := blk_frozen BK280.out 1
                                  have hfz138_2 := blk_frozen BK280.out 2
                                  have hfz138_3 := blk_frozen BK280.out 3
                                  have hnb139 := NB273_261.out
                                  have hnc139 := NB261_273.out
                                  have hcz140_0 : wc.cell? ⟨gb273, 0, none⟩ = some (.int .i64 ((rd_T24 t269 0).f0)) := (blk_cell BK273.out 0).trans rfl
                                  have hcz140_1 : wc.cell? ⟨gb273, 1, none⟩ = some (.int .u32 ((rd_T24 t269 0).f1)) := (blk_cell BK273.out 1).trans rfl
                                  have hcz140_2 : wc.cell? ⟨gb273, 2, none⟩ = some (.int .u32 ((rd_T24 t269 0).f2)) := (blk_cell BK273.out 2).trans rfl
                                  have hcz140_3 : wc.cell? ⟨gb273, 3, none⟩ = some (.string ((rd_T24 t269 0).f3)) := (blk_cell BK273.out 3).trans rfl
                                  have hfz140_0 := blk_frozen BK273.out 0
                                  have hfz140_1 := blk_frozen BK273.out 1
                                  have hfz140_2 := blk_frozen BK273.out 2
                                  have hfz140_3 := blk_frozen BK273.out 3
                                  go_wp2_with (first | (go_at_call 16; (with_reducible refine (croftlaw34_turn.calls ((rd_T24 t263 x7_1).f0) ((rd_T24 t263 x7_1).f1) ((rd_T24 t263 x7_1).f2) ((rd_T24 t263 x7_1).f3) ((rd_T24 t263 (ji23)).f0) ((rd_T24 t263 (ji23)).f1) ((rd_T24 t263 (ji23)).f2) ((rd_T24 t263 (ji23)).f3) ((rd_T24 t269 0).f0) ((rd_T24 t269 0).f1) ((rd_T24 t269 0).f2) ((rd_T24 t269 0).f3) t283 _ A130.out).mono ?_); rintro e w141 ⟨rfl, hb⟩; have n0_ := Aside0.mk (Kd.R_below (by (with_reducible repeat (first | apply Kd.R_alloc | apply Kd.R_drewN | apply Kd.R_drew)); exact HO_0.out) hb); have n1_ := Aside0.mk (blk_below (g := gb261) (o := .cells #[.int .i64 a1_0, .int .u32 a1_1, .int .u32 a1_2, .string a1_3] 24 (0, 0)) (by (with_reducible repeat (first | refine blk_drewN ?_ _ | refine blk_drew ?_ | refine blk_alloc ?_ _)); exact BK261.out) hb); have n2_ := Aside0.mk (blk_below (g := gb273) (o := .cells #[.int .i64 ((rd_T24 t269 0).f0), .int .u32 ((rd_T24 t269 0).f1), .int .u32 ((rd_T24 t269 0).f2), .string ((rd_T24 t269 0).f3)] 24 (0, 0)) (by (with_reducible repeat (first | refine blk_drewN ?_ _ | refine blk_drew ?_ | refine blk_alloc ?_ _)); exact BK273.out) hb); have n3_ := Aside0.mk (blk_below (g := gb279) (o := .cells #[.int .i64 ((rd_T24 t263 x7_1).f0), .int .u32 ((rd_T24 t263 x7_1).f1), .int .u32 ((rd_T24 t263 x7_1).f2), .string ((rd_T24 t263 x7_1).f3)] 24 (0, 0)) (by (with_reducible repeat (first | refine blk_drewN ?_ _ | refine blk_drew ?_ | refine blk_alloc ?_ _)); exact BK279.out) hb); have n4_ := Aside0.mk (blk_below (g := gb280) (o := .cells #[.int .i64 ((rd_T24 t263 (ji23)).f0), .int .u32 ((rd_T24 t263 (ji23)).f1), .int .u32 ((rd_T24 t263 (ji23)).f2), .string ((rd_T24 t263 (ji23)).f3)] 24 (0, 0)) (by (with_reducible repeat (first | refine blk_drewN ?_ _ | refine blk_drew ?_ | refine blk_alloc ?_ _)); exact BK280.out) hb); have n5_ := Aside0.mk (below_step (by repeat (first | (with_reducible first | exact HB.out | apply below_alloc | apply pw_below_drewN | apply below_drew1 | refine below_set ?_ GE261.out | refine below_set ?_ GE273.out | refine below_set ?_ GE279.out | refine below_set ?_ GE280.out) | exact HB.out)) hb); clear HO_0; clear BK261; clear BK273; clear BK279; clear BK280; clear HB; have HO_0 := n0_; have BK261 := n1_; have BK273 := n2_; have BK279 := n3_; have BK280 := n4_; have HB := n5_; clear n0_ n1_ n2_ n3_ n4_ n5_; (try clear hb); (try clear hb2); (try clear hk); (try clear hi)))
                                  go_roundg kj56
                                  case measure => have := HK1.out; have := HJ25.out; have := HJ56.out; omega
                                  case rel => exact ⟨(!x6_1), (wrap64 (x7_1 + 1)), (by first | rfl | (simp; done) | (simp [*]; done)), (by first | rfl | (simp; done) | (simp [*]; done)), H', ⟨by have := HK1.out; have := HJ25.out; have := HJ56.out; omega⟩, ⟨by (with_reducible repeat (first | apply Kd.R_alloc | apply Kd.R_drewN | apply Kd.R_drew)); exact Kd.R_mono HO_0.out (fun _ hk => ⟨hk.1, hk.2.1⟩)⟩, ⟨by (with_reducible repeat (first | refine blk_drewN ?_ _ | refine blk_drew ?_ | refine blk_alloc ?_ _)); exact BK261.out⟩, ⟨by (with_reducible repeat (first | refine blk_drewN ?_ _ | refine blk_drew ?_ | refine blk_alloc ?_ _)); exact BK273.out⟩, ⟨by repeat (first | (with_reducible first | exact HB.out | apply below_alloc | apply pw_below_drewN | apply below_drew1 | refine below_set ?_ GE261.out | refine below_set ?_ GE273.out | refine below_set ?_ GE279.out | refine below_set ?_ GE280.out) | exact HB.out)⟩⟩
                                · rw [if_neg c131] at H
                                  have c131b0 : decide (t283 < 0) = false := decide_eq_false c131
                                  clear c131
                                  have H' := Aside0.mk H
                                  clear H
                                  have hnb142 := NB279_261.out
                                  have hnc142 := NB261_279.out
                                  have hnb143 := NB279_273.out
                                  have hnc143 := NB273_279.out
                                  have hnb144 := NB279_280.out
                                  have hnc144 := NB280_279.out
                                  have hcz145_0 : wc.cell? ⟨gb279, 0, none⟩ = some (.int .i64 ((rd_T24 t263 x7_1).f0)) := (blk_cell BK279.out 0).trans rfl
                                  have hcz145_1 : wc.cell? ⟨gb279, 1, none⟩ = some (.int .u32 ((rd_T24 t263 x7_1).f1)) := (blk_cell BK279.out 1).trans rfl
                                  have hcz145_2 : wc.cell? ⟨gb279, 2, none⟩ = some (.int .u32 ((rd_T24 t263 x7_1).f2)) := (blk_cell BK279.out 2).trans rfl
                                  have hcz145_3 : wc.cell? ⟨gb279, 3, none⟩ = some (.string ((rd_T24 t263 x7_1).f3)) := (blk_cell BK279.out 3).trans rfl
                                  have hfz145_0 := blk_frozen BK279.out 0
                                  have hfz145_1 := blk_frozen BK279.out 1
                                  have hfz145_2 := blk_frozen BK279.out 2
                                  have hfz145_3 := blk_frozen BK279.out 3
                                  have hnb146 := NB280_261.out
                                  have hnc146 := NB261_280.out
                                  have hnb147 := NB280_273.out
                                  have hnc147 := NB273_280.out
                                  have hcz148_0 : wc.cell? ⟨gb280, 0, none⟩ = some (.int .i64 ((rd_T24 t263 (ji23)).f0)) := (blk_cell BK280.out 0).trans rfl
                                  have hcz148_1 : wc.cell? ⟨gb280, 1, none⟩ = some (.int .u32 ((rd_T24 t263 (ji23)).f1)) := (blk_cell BK280.out 1).trans rfl
                                  have hcz148_2 : wc.cell? ⟨gb280, 2, none⟩ = some (.int .u32 ((rd_T24 t263 (ji23)).f2)) := (blk_cell BK280.out 2).trans rfl
                                  have hcz148_3 : wc.cell? ⟨gb280, 3, none⟩ = some (.string ((rd_T24 t263 (ji23)).f3)) := (blk_cell BK280.out 3).trans rfl
                                  have hfz148_0 := blk_frozen BK280.out 0
                                  have hfz148_1 := blk_frozen BK280.out 1
                                  have hfz148_2 := blk_frozen BK280.out 2
                                  have hfz148_3 := blk_frozen BK280.out 3
                                  have hnb149 := NB273_261.out
                                  have hnc149 := NB261_273.out
                                  have hcz150_0 : wc.cell? ⟨gb273, 0, none⟩ = some (.int .i64 ((rd_T24 t269 0).f0)) := (blk_cell BK273.out 0).trans rfl
                                  have hcz150_1 : wc.cell? ⟨gb273, 1, none⟩ = some (.int .u32 ((rd_T24 t269 0).f1)) := (blk_cell BK273.out 1).trans rfl
                                  have hcz150_2 : wc.cell? ⟨gb273, 2, none⟩ = some (.int .u32 ((rd_T24 t269 0).f2)) := (blk_cell BK273.out 2).trans rfl
                                  have hcz150_3 : wc.cell? ⟨gb273, 3, none⟩ = some (.string ((rd_T24 t269 0).f3)) := (blk_cell BK273.out 3).trans rfl
                                  have hfz150_0 := blk_frozen BK273.out 0
                                  have hfz150_1 := blk_frozen BK273.out 1
                                  have hfz150_2 := blk_frozen BK273.out 2
                                  have hfz150_3 := blk_frozen BK273.out 3
                                  go_wp2_with (first | (go_at_call 16; (with_reducible refine (croftlaw34_turn.calls ((rd_T24 t263 x7_1).f0) ((rd_T24 t263 x7_1).f1) ((rd_T24 t263 x7_1).f2) ((rd_T24 t263 x7_1).f3) ((rd_T24 t263 (ji23)).f0) ((rd_T24 t263 (ji23)).f1) ((rd_T24 t263 (ji23)).f2) ((rd_T24 t263 (ji23)).f3) ((rd_T24 t269 0).f0) ((rd_T24 t269 0).f1) ((rd_T24 t269 0).f2) ((rd_T24 t269 0).f3) t283 _ A130.out).mono ?_); rintro e w151 ⟨rfl, hb⟩; have n0_ := Aside0.mk (Kd.R_below (by (with_reducible repeat (first | apply Kd.R_alloc | apply Kd.R_drewN | apply Kd.R_drew)); exact HO_0.out) hb); have n1_ := Aside0.mk (blk_below (g := gb261) (o := .cells #[.int .i64 a1_0, .int .u32 a1_1, .int .u32 a1_2, .string a1_3] 24 (0, 0)) (by (with_reducible repeat (first | refine blk_drewN ?_ _ | refine blk_drew ?_ | refine blk_alloc ?_ _)); exact BK261.out) hb); have n2_ := Aside0.mk (blk_below (g := gb273) (o := .cells #[.int .i64 ((rd_T24 t269 0).f0), .int .u32 ((rd_T24 t269 0).f1), .int .u32 ((rd_T24 t269 0).f2), .string ((rd_T24 t269 0).f3)] 24 (0, 0)) (by (with_reducible repeat (first | refine blk_drewN ?_ _ | refine blk_drew ?_ | refine blk_alloc ?_ _)); exact BK273.out) hb); have n3_ := Aside0.mk (blk_below (g := gb279) (o := .cells #[.int .i64 ((rd_T24 t263 x7_1).f0), .int .u32 ((rd_T24 t263 x7_1).f1), .int .u32 ((rd_T24 t263 x7_1).f2), .string ((rd_T24 t263 x7_1).f3)] 24 (0, 0)) (by (with_reducible repeat (first | refine blk_drewN ?_ _ | refine blk_drew ?_ | refine blk_alloc ?_ _)); exact BK279.out) hb); have n4_ := Aside0.mk (blk_below (g := gb280) (o := .cells #[.int .i64 ((rd_T24 t263 (ji23)).f0), .int .u32 ((rd_T24 t263 (ji23)).f1), .int .u32 ((rd_T24 t263 (ji23)).f2), .string ((rd_T24 t263 (ji23)).f3)] 24 (0, 0)) (by (with_reducible repeat (first | refine blk_drewN ?_ _ | refine blk_drew ?_ | refine blk_alloc ?_ _)); exact BK280.out) hb); have n5_ := Aside0.mk (below_step (by repeat (first | (with_reducible first | exact HB.out | apply below_alloc | apply pw_below_drewN | apply below_drew1 | refine below_set ?_ GE261.out | refine below_set ?_ GE273.out | refine below_set ?_ GE279.out | refine below_set ?_ GE280.out) | exact HB.out)) hb); clear HO_0; clear BK261; clear BK273; clear BK279; clear BK280; clear HB; have HO_0 := n0_; have BK261 := n1_; have BK273 := n2_; have BK279 := n3_; have BK280 := n4_; have HB := n5_; clear n0_ n1_ n2_ n3_ n4_ n5_; (try clear hb); (try clear hb2); (try clear hk); (try clear hi)))
                                  go_roundg kj56
                                  case measure => have := HK1.out; have := HJ25.out; have := HJ56.out; omega
                                  case rel => exact ⟨(x6_1), (wrap64 (x7_1 + 1)), (by first | rfl | (simp; done) | (simp [*]; done)), (by first | rfl | (simp; done) | (simp [*]; done)), H', ⟨by have := HK1.out; have := HJ25.out; have := HJ56.out; omega⟩, ⟨by (with_reducible repeat (first | apply Kd.R_alloc | apply Kd.R_drewN | apply Kd.R_drew)); exact Kd.R_mono HO_0.out (fun _ hk => ⟨hk.1, hk.2.1⟩)⟩, ⟨by (with_reducible repeat (first | refine blk_drewN ?_ _ | refine blk_drew ?_ | refine blk_alloc ?_ _)); exact BK261.out⟩, ⟨by (with_reducible repeat (first | refine blk_drewN ?_ _ | refine blk_drew ?_ | refine blk_alloc ?_ _)); exact BK273.out⟩, ⟨by repeat (first | (with_reducible first | exact HB.out | apply below_alloc | apply pw_below_drewN | apply below_drew1 | refine below_set ?_ GE261.out | refine below_set ?_ GE273.out | refine below_set ?_ GE279.out | refine below_set ?_ GE280.out) | exact HB.out)⟩⟩
                              · replace c129 := Bool.eq_false_iff.mpr c129
                                subst c129
                                have H1 : (croftlaw34_PolyWithin.l0 kj56 t263 x6_1 (wrap64 (x7_1 + 1)) ((rd_T24 t269 0).f0) ((rd_T24 t269 0).f1) ((rd_T24 t269 0).f2) ((rd_T24 t269 0).f3)) = some r := by rw [if_neg (show ¬ (false = true) by decide)] at H; exact H
                                clear H
                                have H := H1
                                clear H1
                                have H' := Aside0.mk H
                                clear H
                                go_wp2
                                go_roundg kj56
                                case measure => have := HK1.out; have := HJ25.out; have := HJ56.out; omega
                                case rel => exact ⟨(x6_1), (wrap64 (x7_1 + 1)), (by first | rfl | (simp; done) | (simp [*]; done)), (by first | rfl | (simp; done) | (simp [*]; done)), H', ⟨by have := HK1.out; have := HJ25.out; have := HJ56.out; omega⟩, ⟨by (with_reducible repeat (first | apply Kd.R_alloc | apply Kd.R_drewN | apply Kd.R_drew)); exact Kd.R_mono HO_0.out (fun _ hk => ⟨hk.1, hk.2.1⟩)⟩, ⟨by (with_reducible repeat (first | refine blk_drewN ?_ _ | refine blk_drew ?_ | refine blk_alloc ?_ _)); exact BK261.out⟩, ⟨by (with_reducible repeat (first | refine blk_drewN ?_ _ | refine blk_drew ?_ | refine blk_alloc ?_ _)); exact BK273.out⟩, ⟨by repeat (first | (with_reducible first | exact HB.out | apply below_alloc | apply pw_below_drewN | apply below_drew1 | refine below_set ?_ GE261.out | refine below_set ?_ GE273.out | refine below_set ?_ GE279.out | refine below_set ?_ GE280.out) | exact HB.out)⟩⟩
                  · rw [if_neg c25] at H
                    exact absurd H (by simp)
                · rw [if_neg c24] at H
                  exact absurd H (by simp)
            · rw [if_neg c21] at H
              exact absurd H (by simp)
          · rw [if_neg c20] at H
            have c20b0 : decide (x7_1 < (t263.length : Int)) = false := decide_eq_false c20
            clear c20
            replace H := Option.bind_eq_some_iff.mp H
            obtain ⟨t274, A1520, H⟩ := H
            replace H : ((poly_On.f k1 t263 ((rd_T24 t269 0).f1) ((rd_T24 t269 0).f2)).bind fun t275 => (if (t275 == t274) = true then ((poly_Within.f k1 t263 ((rd_T24 t269 0).f1) ((rd_T24 t269 0).f2)).bind fun t276 => (if t274 = true then (some (t276 == true)) else (some (t276 == x6_1)))) else (some false))) = some r := H
            have A152 := Aside0.mk A1520
            clear A1520
            replace H := Option.bind_eq_some_iff.mp H
            obtain ⟨t275, A1530, H⟩ := H
            replace H : (if (t275 == t274) = true then ((poly_Within.f k1 t263 ((rd_T24 t269 0).f1) ((rd_T24 t269 0).f2)).bind fun t276 => (if t274 = true then (some (t276 == true)) else (some (t276 == x6_1)))) else (some false)) = some r := H
            have A153 := Aside0.mk A1530
            clear A1530
            by_cases c154 : (t275 == t274) = true
            · rw [if_pos c154] at H
              have c154b0 : (t275 == t274) = true := c154
              (try (have c154b1 : decide (t275 = t274) = true := by simpa using c154))
              (try (have c154b2 : (t275 == t274) = true := by simpa using c154))
              clear c154
              replace H := Option.bind_eq_some_iff.mp H
              obtain ⟨t276, A1550, H⟩ := H
              replace H : (if t274 = true then (some (t276 == true)) else (some (t276 == x6_1))) = some r := H
              have A155 := Aside0.mk A1550
              clear A1550
              by_cases c156 : t274 = true
              · subst c156
                have H1 : (some (t276 == true)) = some r := by rw [if_pos rfl] at H; exact H
                clear H
                have H := H1
                clear H1
                obtain rfl := Option.some.inj H
                simp only [Option.some.injEq, Prod.mk.injEq] at H
                obtain ⟨rfl⟩ := H
                obtain ⟨Ao157, co157, eo157⟩ := Kd.R_slice HO_0.out
                subst eo157
                have hnb158 := NB273_261.out
                have hnc158 := NB261_273.out
                have hcz159_0 : wr.cell? ⟨gb273, 0, none⟩ = some (.int .i64 ((rd_T24 t269 0).f0)) := (blk_cell BK273.out 0).trans rfl
                have hcz159_1 : wr.cell? ⟨gb273, 1, none⟩ = some (.int .u32 ((rd_T24 t269 0).f1)) := (blk_cell BK273.out 1).trans rfl
                have hcz159_2 : wr.cell? ⟨gb273, 2, none⟩ = some (.int .u32 ((rd_T24 t269 0).f2)) := (blk_cell BK273.out 2).trans rfl
                have hcz159_3 : wr.cell? ⟨gb273, 3, none⟩ = some (.string ((rd_T24 t269 0).f3)) := (blk_cell BK273.out 3).trans rfl
                have hfz159_0 := blk_frozen BK273.out 0
                have hfz159_1 := blk_frozen BK273.out 1
                have hfz159_2 := blk_frozen BK273.out 2
                have hfz159_3 := blk_frozen BK273.out 3
                go_wp2_with (first | ((with_reducible refine gate_callee (f := 18) rfl ?_); refine goesL_ (some 86) rfl rfl Try.func18 (by kernel_rfl) rfl #[.slice Ao157 t263.length co157, .agg #[.int .i64 ((rd_T24 t269 0).f0), .int .u32 ((rd_T24 t269 0).f1), .int .u32 ((rd_T24 t269 0).f2), .string ((rd_T24 t269 0).f3)]] rfl (by (try simp only [List.map_toArray, List.map_cons, List.map_nil]); first | done | rfl | (simp only [List.length_drop, List.length_take]; rfl)) ?_; (with_reducible refine (croftlaw34_on.calls k1 _ _ t263 ((rd_T24 t269 0).f0) ((rd_T24 t269 0).f1) ((rd_T24 t269 0).f2) ((rd_T24 t269 0).f3) true _ ?side1 ?side2 A152.out).mono ?_); (case side1 => repeat (first | exact (Kd.R_reads' HO_0.out).2.2 | (with_reducible refine Kd.C_alloc ?_ _) | (with_reducible refine Kd.C_drewN ?_ _) | (with_reducible refine Kd.C_drew ?_))); (case side2 => exact (Kd.R_reads' HO_0.out).2.1); rintro e w160 ⟨rfl, hb⟩; refine ⟨_, rfl, ?_⟩; have n0_ := Aside0.mk (Kd.R_below (by (with_reducible repeat (first | apply Kd.R_alloc | apply Kd.R_drewN | apply Kd.R_drew)); exact HO_0.out) hb); have n1_ := Aside0.mk (blk_below (g := gb261) (o := .cells #[.int .i64 a1_0, .int .u32 a1_1, .int .u32 a1_2, .string a1_3] 24 (0, 0)) (by (with_reducible repeat (first | refine blk_drewN ?_ _ | refine blk_drew ?_ | refine blk_alloc ?_ _)); exact BK261.out) hb); have n2_ := Aside0.mk (blk_below (g := gb273) (o := .cells #[.int .i64 ((rd_T24 t269 0).f0), .int .u32 ((rd_T24 t269 0).f1), .int .u32 ((rd_T24 t269 0).f2), .string ((rd_T24 t269 0).f3)] 24 (0, 0)) (by (with_reducible repeat (first | refine blk_drewN ?_ _ | refine blk_drew ?_ | refine blk_alloc ?_ _)); exact BK273.out) hb); have n3_ := Aside0.mk (below_step (by repeat (first | (with_reducible first | exact HB.out | apply below_alloc | apply pw_below_drewN | apply below_drew1 | refine below_set ?_ GE261.out | refine below_set ?_ GE273.out) | exact HB.out)) hb); clear HO_0; clear BK261; clear BK273; clear HB; have HO_0 := n0_; have BK261 := n1_; have BK273 := n2_; have HB := n3_; clear n0_ n1_ n2_ n3_; (try clear hb); (try clear hb2); (try clear hk); (try clear hi); have hcz161_0 : w160.cell? ⟨gb273, 0, none⟩ = some (.int .i64 ((rd_T24 t269 0).f0)) := (blk_cell BK273.out 0).trans rfl; have hcz161_1 : w160.cell? ⟨gb273, 1, none⟩ = some (.int .u32 ((rd_T24 t269 0).f1)) := (blk_cell BK273.out 1).trans rfl; have hcz161_2 : w160.cell? ⟨gb273, 2, none⟩ = some (.int .u32 ((rd_T24 t269 0).f2)) := (blk_cell BK273.out 2).trans rfl; have hcz161_3 : w160.cell? ⟨gb273, 3, none⟩ = some (.string ((rd_T24 t269 0).f3)) := (blk_cell BK273.out 3).trans rfl; have hfz161_0 := blk_frozen BK273.out 0; have hfz161_1 := blk_frozen BK273.out 1; have hfz161_2 := blk_frozen BK273.out 2; have hfz161_3 := blk_frozen BK273.out 3) | ((with_reducible refine gate_callee (f := 28) rfl ?_); refine goesL_ (some 92) rfl rfl Try.func28 (by kernel_rfl) rfl #[.slice Ao157 t263.length co157, .int .u32 ((rd_T24 t269 0).f1), .int .u32 ((rd_T24 t269 0).f2)] rfl (by (try simp only [List.map_toArray, List.map_cons, List.map_nil]); first | done | rfl | (simp only [List.length_drop, List.length_take]; rfl)) ?_; (with_reducible refine (poly_On.calls k1 _ _ t263 ((rd_T24 t269 0).f1) ((rd_T24 t269 0).f2) t275 _ ?side1 ?side2 A153.out).mono ?_); (case side1 => repeat (first | exact (Kd.R_reads' HO_0.out).2.2 | (with_reducible refine Kd.C_alloc ?_ _) | (with_reducible refine Kd.C_drewN ?_ _) | (with_reducible refine Kd.C_drew ?_))); (case side2 => exact (Kd.R_reads' HO_0.out).2.1); rintro e w162 ⟨rfl, hb⟩; refine ⟨_, rfl, ?_⟩; have n0_ := Aside0.mk (Kd.R_below (by (with_reducible repeat (first | apply Kd.R_alloc | apply Kd.R_drewN | apply Kd.R_drew)); exact HO_0.out) hb); have n1_ := Aside0.mk (blk_below (g := gb261) (o := .cells #[.int .i64 a1_0, .int .u32 a1_1, .int .u32 a1_2, .string a1_3] 24 (0, 0)) (by (with_reducible repeat (first | refine blk_drewN ?_ _ | refine blk_drew ?_ | refine blk_alloc ?_ _)); exact BK261.out) hb); have n2_ := Aside0.mk (blk_below (g := gb273) (o := .cells #[.int .i64 ((rd_T24 t269 0).f0), .int .u32 ((rd_T24 t269 0).f1), .int .u32 ((rd_T24 t269 0).f2), .string ((rd_T24 t269 0).f3)] 24 (0, 0)) (by (with_reducible repeat (first | refine blk_drewN ?_ _ | refine blk_drew ?_ | refine blk_alloc ?_ _)); exact BK273.out) hb); have n3_ := Aside0.mk (below_step (by repeat (first | (with_reducible first | exact HB.out | apply below_alloc | apply pw_below_drewN | apply below_drew1 | refine below_set ?_ GE261.out | refine below_set ?_ GE273.out) | exact HB.out)) hb); clear HO_0; clear BK261; clear BK273; clear HB; have HO_0 := n0_; have BK261 := n1_; have BK273 := n2_; have HB := n3_; clear n0_ n1_ n2_ n3_; (try clear hb); (try clear hb2); (try clear hk); (try clear hi); have hcz163_0 : w162.cell? ⟨gb273, 0, none⟩ = some (.int .i64 ((rd_T24 t269 0).f0)) := (blk_cell BK273.out 0).trans rfl; have hcz163_1 : w162.cell? ⟨gb273, 1, none⟩ = some (.int .u32 ((rd_T24 t269 0).f1)) := (blk_cell BK273.out 1).trans rfl; have hcz163_2 : w162.cell? ⟨gb273, 2, none⟩ = some (.int .u32 ((rd_T24 t269 0).f2)) := (blk_cell BK273.out 2).trans rfl; have hcz163_3 : w162.cell? ⟨gb273, 3, none⟩ = some (.string ((rd_T24 t269 0).f3)) := (blk_cell BK273.out 3).trans rfl; have hfz163_0 := blk_frozen BK273.out 0; have hfz163_1 := blk_frozen BK273.out 1; have hfz163_2 := blk_frozen BK273.out 2; have hfz163_3 := blk_frozen BK273.out 3) | (go_at_call 29; (with_reducible refine (poly_Within.calls k1 _ _ t263 ((rd_T24 t269 0).f1) ((rd_T24 t269 0).f2) t276 _ ?side1 ?side2 A155.out).mono ?_); (case side1 => repeat (first | exact (Kd.R_reads' HO_0.out).2.2 | (with_reducible refine Kd.C_alloc ?_ _) | (with_reducible refine Kd.C_drewN ?_ _) | (with_reducible refine Kd.C_drew ?_))); (case side2 => exact (Kd.R_reads' HO_0.out).2.1); rintro e w164 ⟨rfl, hb⟩; have n0_ := Aside0.mk (Kd.R_below (by (with_reducible repeat (first | apply Kd.R_alloc | apply Kd.R_drewN | apply Kd.R_drew)); exact HO_0.out) hb); have n1_ := Aside0.mk (blk_below (g := gb261) (o := .cells #[.int .i64 a1_0, .int .u32 a1_1, .int .u32 a1_2, .string a1_3] 24 (0, 0)) (by (with_reducible repeat (first | refine blk_drewN ?_ _ | refine blk_drew ?_ | refine blk_alloc ?_ _)); exact BK261.out) hb); have n2_ := Aside0.mk (blk_below (g := gb273) (o := .cells #[.int .i64 ((rd_T24 t269 0).f0), .int .u32 ((rd_T24 t269 0).f1), .int .u32 ((rd_T24 t269 0).f2), .string ((rd_T24 t269 0).f3)] 24 (0, 0)) (by (with_reducible repeat (first | refine blk_drewN ?_ _ | refine blk_drew ?_ | refine blk_alloc ?_ _)); exact BK273.out) hb); have n3_ := Aside0.mk (below_step (by repeat (first | (with_reducible first | exact HB.out | apply below_alloc | apply pw_below_drewN | apply below_drew1 | refine below_set ?_ GE261.out | refine below_set ?_ GE273.out) | exact HB.out)) hb); clear HO_0; clear BK261; clear BK273; clear HB; have HO_0 := n0_; have BK261 := n1_; have BK273 := n2_; have HB := n3_; clear n0_ n1_ n2_ n3_; (try clear hb); (try clear hb2); (try clear hk); (try clear hi)))
                go_ret
                exact ⟨by first | rfl | (simp [errW_none, errW_some] <;> rfl) | (simp [*, errW_none, errW_some] <;> rfl), by repeat (first | (with_reducible first | exact HB.out | apply below_alloc | apply pw_below_drewN | apply below_drew1 | refine below_set ?_ GE261.out | refine below_set ?_ GE273.out) | exact HB.out)⟩
              · replace c156 := Bool.eq_false_iff.mpr c156
                subst c156
                have H1 : (some (t276 == x6_1)) = some r := by rw [if_neg (show ¬ (false = true) by decide)] at H; exact H
                clear H
                have H := H1
                clear H1
                obtain rfl := Option.some.inj H
                simp only [Option.some.injEq, Prod.mk.injEq] at H
                obtain ⟨rfl⟩ := H
                obtain ⟨Ao165, co165, eo165⟩ := Kd.R_slice HO_0.out
                subst eo165
                have hnb166 := NB273_261.out
                have hnc166 := NB261_273.out
                have hcz167_0 : wr.cell? ⟨gb273, 0, none⟩ = some (.int .i64 ((rd_T24 t269 0).f0)) := (blk_cell BK273.out 0).trans rfl
                have hcz167_1 : wr.cell? ⟨gb273, 1, none⟩ = some (.int .u32 ((rd_T24 t269 0).f1)) := (blk_cell BK273.out 1).trans rfl
                have hcz167_2 : wr.cell? ⟨gb273, 2, none⟩ = some (.int .u32 ((rd_T24 t269 0).f2)) := (blk_cell BK273.out 2).trans rfl
                have hcz167_3 : wr.cell? ⟨gb273, 3, none⟩ = some (.string ((rd_T24 t269 0).f3)) := (blk_cell BK273.out 3).trans rfl
                have hfz167_0 := blk_frozen BK273.out 0
                have hfz167_1 := blk_frozen BK273.out 1
                have hfz167_2 := blk_frozen BK273.out 2
                have hfz167_3 := blk_frozen BK273.out 3
                go_wp2_with (first | ((with_reducible refine gate_callee (f := 18) rfl ?_); refine goesL_ (some 86) rfl rfl Try.func18 (by kernel_rfl) rfl #[.slice Ao165 t263.length co165, .agg #[.int .i64 ((rd_T24 t269 0).f0), .int .u32 ((rd_T24 t269 0).f1), .int .u32 ((rd_T24 t269 0).f2), .string ((rd_T24 t269 0).f3)]] rfl (by (try simp only [List.map_toArray, List.map_cons, List.map_nil]); first | done | rfl | (simp only [List.length_drop, List.length_take]; rfl)) ?_; (with_reducible refine (croftlaw34_on.calls k1 _ _ t263 ((rd_T24 t269 0).f0) ((rd_T24 t269 0).f1) ((rd_T24 t269 0).f2) ((rd_T24 t269 0).f3) false _ ?side1 ?side2 A152.out).mono ?_); (case side1 => repeat (first | exact (Kd.R_reads' HO_0.out).2.2 | (with_reducible refine Kd.C_alloc ?_ _) | (with_reducible refine Kd.C_drewN ?_ _) | (with_reducible refine Kd.C_drew ?_))); (case side2 => exact (Kd.R_reads' HO_0.out).2.1); rintro e w168 ⟨rfl, hb⟩; refine ⟨_, rfl, ?_⟩; have n0_ := Aside0.mk (Kd.R_below (by (with_reducible repeat (first | apply Kd.R_alloc | apply Kd.R_drewN | apply Kd.R_drew)); exact HO_0.out) hb); have n1_ := Aside0.mk (blk_below (g := gb261) (o := .cells #[.int .i64 a1_0, .int .u32 a1_1, .int .u32 a1_2, .string a1_3] 24 (0, 0)) (by (with_reducible repeat (first | refine blk_drewN ?_ _ | refine blk_drew ?_ | refine blk_alloc ?_ _)); exact BK261.out) hb); have n2_ := Aside0.mk (blk_below (g := gb273) (o := .cells #[.int .i64 ((rd_T24 t269 0).f0), .int .u32 ((rd_T24 t269 0).f1), .int .u32 ((rd_T24 t269 0).f2), .string ((rd_T24 t269 0).f3)] 24 (0, 0)) (by (with_reducible repeat (first | refine blk_drewN ?_ _ | refine blk_drew ?_ | refine blk_alloc ?_ _)); exact BK273.out) hb); have n3_ := Aside0.mk (below_step (by repeat (first | (with_reducible first | exact HB.out | apply below_alloc | apply pw_below_drewN | apply below_drew1 | refine below_set ?_ GE261.out | refine below_set ?_ GE273.out) | exact HB.out)) hb); clear HO_0; clear BK261; clear BK273; clear HB; have HO_0 := n0_; have BK261 := n1_; have BK273 := n2_; have HB := n3_; clear n0_ n1_ n2_ n3_; (try clear hb); (try clear hb2); (try clear hk); (try clear hi); have hcz169_0 : w168.cell? ⟨gb273, 0, none⟩ = some (.int .i64 ((rd_T24 t269 0).f0)) := (blk_cell BK273.out 0).trans rfl; have hcz169_1 : w168.cell? ⟨gb273, 1, none⟩ = some (.int .u32 ((rd_T24 t269 0).f1)) := (blk_cell BK273.out 1).trans rfl; have hcz169_2 : w168.cell? ⟨gb273, 2, none⟩ = some (.int .u32 ((rd_T24 t269 0).f2)) := (blk_cell BK273.out 2).trans rfl; have hcz169_3 : w168.cell? ⟨gb273, 3, none⟩ = some (.string ((rd_T24 t269 0).f3)) := (blk_cell BK273.out 3).trans rfl; have hfz169_0 := blk_frozen BK273.out 0; have hfz169_1 := blk_frozen BK273.out 1; have hfz169_2 := blk_frozen BK273.out 2; have hfz169_3 := blk_frozen BK273.out 3) | ((with_reducible refine gate_callee (f := 28) rfl ?_); refine goesL_ (some 92) rfl rfl Try.func28 (by kernel_rfl) rfl #[.slice Ao165 t263.length co165, .int .u32 ((rd_T24 t269 0).f1), .int .u32 ((rd_T24 t269 0).f2)] rfl (by (try simp only [List.map_toArray, List.map_cons, List.map_nil]); first | done | rfl | (simp only [List.length_drop, List.length_take]; rfl)) ?_; (with_reducible refine (poly_On.calls k1 _ _ t263 ((rd_T24 t269 0).f1) ((rd_T24 t269 0).f2) t275 _ ?side1 ?side2 A153.out).mono ?_); (case side1 => repeat (first | exact (Kd.R_reads' HO_0.out).2.2 | (with_reducible refine Kd.C_alloc ?_ _) | (with_reducible refine Kd.C_drewN ?_ _) | (with_reducible refine Kd.C_drew ?_))); (case side2 => exact (Kd.R_reads' HO_0.out).2.1); rintro e w170 ⟨rfl, hb⟩; refine ⟨_, rfl, ?_⟩; have n0_ := Aside0.mk (Kd.R_below (by (with_reducible repeat (first | apply Kd.R_alloc | apply Kd.R_drewN | apply Kd.R_drew)); exact HO_0.out) hb); have n1_ := Aside0.mk (blk_below (g := gb261) (o := .cells #[.int .i64 a1_0, .int .u32 a1_1, .int .u32 a1_2, .string a1_3] 24 (0, 0)) (by (with_reducible repeat (first | refine blk_drewN ?_ _ | refine blk_drew ?_ | refine blk_alloc ?_ _)); exact BK261.out) hb); have n2_ := Aside0.mk (blk_below (g := gb273) (o := .cells #[.int .i64 ((rd_T24 t269 0).f0), .int .u32 ((rd_T24 t269 0).f1), .int .u32 ((rd_T24 t269 0).f2), .string ((rd_T24 t269 0).f3)] 24 (0, 0)) (by (with_reducible repeat (first | refine blk_drewN ?_ _ | refine blk_drew ?_ | refine blk_alloc ?_ _)); exact BK273.out) hb); have n3_ := Aside0.mk (below_step (by repeat (first | (with_reducible first | exact HB.out | apply below_alloc | apply pw_below_drewN | apply below_drew1 | refine below_set ?_ GE261.out | refine below_set ?_ GE273.out) | exact HB.out)) hb); clear HO_0; clear BK261; clear BK273; clear HB; have HO_0 := n0_; have BK261 := n1_; have BK273 := n2_; have HB := n3_; clear n0_ n1_ n2_ n3_; (try clear hb); (try clear hb2); (try clear hk); (try clear hi); have hcz171_0 : w170.cell? ⟨gb273, 0, none⟩ = some (.int .i64 ((rd_T24 t269 0).f0)) := (blk_cell BK273.out 0).trans rfl; have hcz171_1 : w170.cell? ⟨gb273, 1, none⟩ = some (.int .u32 ((rd_T24 t269 0).f1)) := (blk_cell BK273.out 1).trans rfl; have hcz171_2 : w170.cell? ⟨gb273, 2, none⟩ = some (.int .u32 ((rd_T24 t269 0).f2)) := (blk_cell BK273.out 2).trans rfl; have hcz171_3 : w170.cell? ⟨gb273, 3, none⟩ = some (.string ((rd_T24 t269 0).f3)) := (blk_cell BK273.out 3).trans rfl; have hfz171_0 := blk_frozen BK273.out 0; have hfz171_1 := blk_frozen BK273.out 1; have hfz171_2 := blk_frozen BK273.out 2; have hfz171_3 := blk_frozen BK273.out 3) | (go_at_call 29; (with_reducible refine (poly_Within.calls k1 _ _ t263 ((rd_T24 t269 0).f1) ((rd_T24 t269 0).f2) t276 _ ?side1 ?side2 A155.out).mono ?_); (case side1 => repeat (first | exact (Kd.R_reads' HO_0.out).2.2 | (with_reducible refine Kd.C_alloc ?_ _) | (with_reducible refine Kd.C_drewN ?_ _) | (with_reducible refine Kd.C_drew ?_))); (case side2 => exact (Kd.R_reads' HO_0.out).2.1); rintro e w172 ⟨rfl, hb⟩; have n0_ := Aside0.mk (Kd.R_below (by (with_reducible repeat (first | apply Kd.R_alloc | apply Kd.R_drewN | apply Kd.R_drew)); exact HO_0.out) hb); have n1_ := Aside0.mk (blk_below (g := gb261) (o := .cells #[.int .i64 a1_0, .int .u32 a1_1, .int .u32 a1_2, .string a1_3] 24 (0, 0)) (by (with_reducible repeat (first | refine blk_drewN ?_ _ | refine blk_drew ?_ | refine blk_alloc ?_ _)); exact BK261.out) hb); have n2_ := Aside0.mk (blk_below (g := gb273) (o := .cells #[.int .i64 ((rd_T24 t269 0).f0), .int .u32 ((rd_T24 t269 0).f1), .int .u32 ((rd_T24 t269 0).f2), .string ((rd_T24 t269 0).f3)] 24 (0, 0)) (by (with_reducible repeat (first | refine blk_drewN ?_ _ | refine blk_drew ?_ | refine blk_alloc ?_ _)); exact BK273.out) hb); have n3_ := Aside0.mk (below_step (by repeat (first | (with_reducible first | exact HB.out | apply below_alloc | apply pw_below_drewN | apply below_drew1 | refine below_set ?_ GE261.out | refine below_set ?_ GE273.out) | exact HB.out)) hb); clear HO_0; clear BK261; clear BK273; clear HB; have HO_0 := n0_; have BK261 := n1_; have BK273 := n2_; have HB := n3_; clear n0_ n1_ n2_ n3_; (try clear hb); (try clear hb2); (try clear hk); (try clear hi)))
                go_ret
                exact ⟨by first | rfl | (simp [errW_none, errW_some] <;> rfl) | (simp [*, errW_none, errW_some] <;> rfl), by repeat (first | (with_reducible first | exact HB.out | apply below_alloc | apply pw_below_drewN | apply below_drew1 | refine below_set ?_ GE261.out | refine below_set ?_ GE273.out) | exact HB.out)⟩
            · rw [if_neg c154] at H
              have c154b0 : (t275 == t274) = false := by simpa using c154
              (try (have c154b1 : decide (t275 = t274) = false := by simpa using c154))
              (try (have c154b2 : (t275 == t274) = false := by simpa using c154))
              (try (have c154b3 : ¬ (t275 = t274) := by simpa using c154))
              clear c154
              obtain rfl := Option.some.inj H
              exact absurd HT.out (by simp)
    · rw [if_neg c7] at H
      exact absurd H (by simp)
  · replace c4 := Bool.eq_false_iff.mpr c4
    subst c4
    have H1 : (some false) = some r := by rw [if_neg (show ¬ (false = true) by decide)] at H; exact H
    clear H
    have H := H1
    clear H1
    obtain rfl := Option.some.inj H
    exact absurd HT.out (by simp)

/-- THE ONE PURE STATEMENT of croftlaw34_PolyWithin. -/
def croftlaw34_PolyWithin.Pure : Prop := ∀ (l0 : List (S24)) (a1_0 : Int) (a1_1 : Int) (a1_2 : Int) (a1_3 : ByteArray), l0.length ≤ maxLen → l0.length * 32 ≤ 140737488351232 → (∀ x ∈ l0, (Lit.int .i64 x.f0).wf = true ∧ (Lit.int .u32 x.f1).wf = true ∧ (Lit.int .u32 x.f2).wf = true) → (Lit.int .i64 a1_0).wf = true → (Lit.int .u32 a1_1).wf = true → (Lit.int .u32 a1_2).wf = true → ∃ k, croftlaw34_PolyWithin.f k l0 a1_0 a1_1 a1_2 a1_3 = some true

end Go.Proofs.Ytgepbfcaimejmaa.PA
