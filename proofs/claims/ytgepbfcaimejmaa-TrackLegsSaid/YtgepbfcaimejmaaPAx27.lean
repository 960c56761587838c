-- Printed by a program of this session (wip/tools), out of the translation: Lean checks it.
import Derived.Test.YtgepbfcaimejmaaPAx0
import Derived.Test.YtgepbfcaimejmaaPAx2
import Derived.Test.YtgepbfcaimejmaaPAx9
import Derived.Test.YtgepbfcaimejmaaPAx16
import Derived.Test.YtgepbfcaimejmaaPAx20
import Derived.Test.YtgepbfcaimejmaaPAx21
import Derived.Test.YtgepbfcaimejmaaPAx26
namespace Go.Proofs.Ytgepbfcaimejmaa.PA
open Go.RowKit Go.Proofs.YtgepbfcaimejmaaW.PrintWords Go.Proofs.YtgepbfcaimejmaaW.PrintLast Go.Proofs.YtgepbfcaimejmaaW.PrintMore
attribute [local go_sem] max2_int min2_int max_two min_two max_three min_three max_four min_four   -- for this text's walks alone
set_option linter.unusedVariables false
set_option linter.unusedSimpArgs false

attribute [local go_sem high] eqA43
/-! ### croftlaw46_TrackLegs: function 12 -/
mutual
def croftlaw46_TrackLegs.j0 : Nat → List (S24) → Option (Bool)
  | 0, _ => none
  | k + 1, x0 => (track_Legs.f k x0).bind fun t484 => (if (t484.length : Int) = (mx (wrap64 ((x0.length : Int) - 1)) 0) then (croftlaw46_TrackLegs.l0 k x0 t484 0 0 1 0 0) else (some false))
def croftlaw46_TrackLegs.l0 : Nat → List (S24) → List (S43) → Int → Int → Int → Int → Int → Option (Bool)
  | 0, _, _, _, _, _, _, _ => none
  | k + 1, x0, x3, x5, x6, x7, x488000, x488001 => if x7 < (x0.length : Int) then (if 0 ≤ (wrap64 (x7 - 1)) then (if (wrap64 (x7 - 1)) < (x0.length : Int) then (if 0 ≤ x7 then ((croftref03_Between.f ((rd_T24 x0 (wrap64 (x7 - 1))).f1) ((rd_T24 x0 (wrap64 (x7 - 1))).f2) ((rd_T24 x0 x7).f1) ((rd_T24 x0 x7).f2)).bind fun bt496 => (if (wrap64 (x7 - 1)) < (x3.length : Int) then (if (!(((rd_T43 x3 (wrap64 (x7 - 1))).f0) == bt496.1) || (!(((rd_T43 x3 (wrap64 (x7 - 1))).f1) == bt496.2))) = true then (some false) else (if (IntKind.u64.wrap (x488001 + bt496.2)) < bt496.2 then (if x7 > 1 then (if 0 ≤ (wrap64 (x7 - 2)) then (if (wrap64 (x7 - 2)) < (x0.length : Int) then ((poly_Turn.f k ((rd_T24 x0 (wrap64 (x7 - 2))).f0) ((rd_T24 x0 (wrap64 (x7 - 2))).f1) ((rd_T24 x0 (wrap64 (x7 - 2))).f2) ((rd_T24 x0 (wrap64 (x7 - 2))).f3) ((rd_T24 x0 (wrap64 (x7 - 1))).f0) ((rd_T24 x0 (wrap64 (x7 - 1))).f1) ((rd_T24 x0 (wrap64 (x7 - 1))).f2) ((rd_T24 x0 (wrap64 (x7 - 1))).f3) ((rd_T24 x0 x7).f0) ((rd_T24 x0 x7).f1) ((rd_T24 x0 x7).f2) ((rd_T24 x0 x7).f3)).bind fun t502 => (croftlaw46_TrackLegs.l0 k x0 x3 (wrap64 (x5 + (mx t502 0))) (wrap64 (x6 + (mx (wrap64 (-t502)) 0))) (wrap64 (x7 + 1)) (IntKind.u64.wrap ((IntKind.u64.wrap (x488000 + 1)) + bt496.1)) (IntKind.u64.wrap (x488001 + bt496.2)))) else (none)) else (none)) else (croftlaw46_TrackLegs.l0 k x0 x3 x5 x6 (wrap64 (x7 + 1)) (IntKind.u64.wrap ((IntKind.u64.wrap (x488000 + 1)) + bt496.1)) (IntKind.u64.wrap (x488001 + bt496.2)))) else (if x7 > 1 then (if 0 ≤ (wrap64 (x7 - 2)) then (if (wrap64 (x7 - 2)) < (x0.length : Int) then ((poly_Turn.f k ((rd_T24 x0 (wrap64 (x7 - 2))).f0) ((rd_T24 x0 (wrap64 (x7 - 2))).f1) ((rd_T24 x0 (wrap64 (x7 - 2))).f2) ((rd_T24 x0 (wrap64 (x7 - 2))).f3) ((rd_T24 x0 (wrap64 (x7 - 1))).f0) ((rd_T24 x0 (wrap64 (x7 - 1))).f1) ((rd_T24 x0 (wrap64 (x7 - 1))).f2) ((rd_T24 x0 (wrap64 (x7 - 1))).f3) ((rd_T24 x0 x7).f0) ((rd_T24 x0 x7).f1) ((rd_T24 x0 x7).f2) ((rd_T24 x0 x7).f3)).bind fun t506 => (croftlaw46_TrackLegs.l0 k x0 x3 (wrap64 (x5 + (mx t506 0))) (wrap64 (x6 + (mx (wrap64 (-t506)) 0))) (wrap64 (x7 + 1)) (IntKind.u64.wrap (x488000 + bt496.1)) (IntKind.u64.wrap (x488001 + bt496.2)))) else (none)) else (none)) else (croftlaw46_TrackLegs.l0 k x0 x3 x5 x6 (wrap64 (x7 + 1)) (IntKind.u64.wrap (x488000 + bt496.1)) (IntKind.u64.wrap (x488001 + bt496.2)))))) else (none))) else (none)) else (none)) else (none)) else ((track_Turns.f k x0).bind fun bt488 => ((track_Length.f k x0).bind fun bt490 => (if (bt490.1 == x488000 && (bt490.2 == x488001)) = true then (if bt488.1 = x5 then (some (bt488.2 == x6)) else (some false)) else (some false))))
end
def croftlaw46_TrackLegs.f (k : Nat) (l0 : List (S24)) : Option (Bool) := (croftlaw46_alive.f k).bind fun t478 => (if t478 = true then (if (l0.length : Int) > 60 then (if 60 ≤ (l0.length : Int) then (croftlaw46_TrackLegs.j0 k (l0.take 60)) else (none)) else (croftlaw46_TrackLegs.j0 k l0)) else (some false))
theorem croftlaw46_TrackLegs.mono_l : ∀ k, (∀ y0, LeO (croftlaw46_TrackLegs.j0 k y0) (croftlaw46_TrackLegs.j0 (k + 1) y0)) ∧ (∀ y0 y1 y2 y3 y4 y5 y6, LeO (croftlaw46_TrackLegs.l0 k y0 y1 y2 y3 y4 y5 y6) (croftlaw46_TrackLegs.l0 (k + 1) y0 y1 y2 y3 y4 y5 y6))
  | 0 => ⟨fun _ r h => by simp [croftlaw46_TrackLegs.j0] at h, fun _ _ _ _ _ _ _ r h => by simp [croftlaw46_TrackLegs.l0] at h⟩
  | k + 1 => by
    obtain ⟨ih0, ih1⟩ := croftlaw46_TrackLegs.mono_l k
    refine ⟨?_, ?_⟩
    · intro y0
      unfold croftlaw46_TrackLegs.j0
      repeat' first
      | (with_reducible exact ih0 _)
      | (with_reducible exact ih1 _ _ _ _ _ _ _)
      | (with_reducible exact croftlaw46_alive.mono _)
      | (with_reducible exact poly_Turn.mono _ _ _ _ _ _ _ _ _ _ _ _ _)
      | (with_reducible exact track_Legs.mono _ _)
      | (with_reducible exact track_Length.mono _ _)
      | (with_reducible exact track_Turns.mono _ _)
      | (with_reducible exact LeO.refl _)
      | (with_reducible exact LeO.none _)
      | (with_reducible refine LeO.ite ?_ ?_)
      | (with_reducible refine LeO.bind ?_ (fun _ => ?_))
      | exact ih0 _
      | exact ih1 _ _ _ _ _ _ _
      | exact croftlaw46_alive.mono _
      | exact poly_Turn.mono _ _ _ _ _ _ _ _ _ _ _ _ _
      | exact track_Legs.mono _ _
      | exact track_Length.mono _ _
      | exact track_Turns.mono _ _
      | exact LeO.none _
      | refine LeO.ite ?_ ?_
      | refine LeO.bind ?_ (fun _ => ?_)
    · intro y0 y1 y2 y3 y4 y5 y6
      unfold croftlaw46_TrackLegs.l0
      repeat' first
      | (with_reducible exact ih0 _)
      | (with_reducible exact ih1 _ _ _ _ _ _ _)
      | (with_reducible exact croftlaw46_alive.mono _)
      | (with_reducible exact poly_Turn.mono _ _ _ _ _ _ _ _ _ _ _ _ _)
      | (with_reducible exact track_Legs.mono _ _)
      | (with_reducible exact track_Length.mono _ _)
      | (with_reducible exact track_Turns.mono _ _)
      | (with_reducible exact LeO.refl _)
      | (with_reducible exact LeO.none _)
      | (with_reducible refine LeO.ite ?_ ?_)
      | (with_reducible refine LeO.bind ?_ (fun _ => ?_))
      | exact ih0 _
      | exact ih1 _ _ _ _ _ _ _
      | exact croftlaw46_alive.mono _
      | exact poly_Turn.mono _ _ _ _ _ _ _ _ _ _ _ _ _
      | exact track_Legs.mono _ _
      | exact track_Length.mono _ _
      | exact track_Turns.mono _ _
      | exact LeO.none _
      | refine LeO.ite ?_ ?_
      | refine LeO.bind ?_ (fun _ => ?_)
theorem croftlaw46_TrackLegs.mono : ∀ a0 k, LeO (croftlaw46_TrackLegs.f k a0) (croftlaw46_TrackLegs.f (k + 1) a0) := by
  intro a0 k
  obtain ⟨ih0, ih1⟩ := croftlaw46_TrackLegs.mono_l k
  unfold croftlaw46_TrackLegs.f
  repeat' first
      | (with_reducible exact ih0 _)
      | (with_reducible exact ih1 _ _ _ _ _ _ _)
      | (with_reducible exact croftlaw46_alive.mono _)
      | (with_reducible exact poly_Turn.mono _ _ _ _ _ _ _ _ _ _ _ _ _)
      | (with_reducible exact track_Legs.mono _ _)
      | (with_reducible exact track_Length.mono _ _)
      | (with_reducible exact track_Turns.mono _ _)
      | (with_reducible exact LeO.refl _)
      | (with_reducible exact LeO.none _)
      | (with_reducible refine LeO.ite ?_ ?_)
      | (with_reducible refine LeO.bind ?_ (fun _ => ?_))
      | exact ih0 _
      | exact ih1 _ _ _ _ _ _ _
      | exact croftlaw46_alive.mono _
      | exact poly_Turn.mono _ _ _ _ _ _ _ _ _ _ _ _ _
      | exact track_Legs.mono _ _
      | exact track_Length.mono _ _
      | exact track_Turns.mono _ _
      | exact LeO.none _
      | refine LeO.ite ?_ ?_
      | refine LeO.bind ?_ (fun _ => ?_)
def croftlaw46_TrackLegs.T13 : Bool × List (List Nat × List Nat) := (true, [([], []), ([], []), ([1], [1]), ([0, 2], [0, 2]), ([3], [3]), ([4], [4]), ([], []), ([], []), ([7], [7]), ([6, 8], [6, 8]), ([9], [9]), ([10], [10]), ([], []), ([], []), ([12, 13], [12, 13]), ([14], [14]), ([15], [15]), ([], []), ([], []), ([17, 18], [17, 18]), ([19], [19]), ([20], [20]), ([5, 11, 16, 21], [5, 11, 16, 21]), ([22], [22]), ([23], [23]), ([23], [23]), ([24, 22, 0, 1, 2, 3, 4, 5, 6, 7, 8, 9, 10, 11, 12, 13, 14, 15, 16, 17, 18, 19, 20, 21, 22, 23, 24], [24]), ([25, 26, 0, 1, 2, 3, 4, 5, 6, 7, 8, 9, 10, 11, 12, 13, 14, 15, 16, 17, 18, 19, 20, 21, 22, 23, 24, 25, 26], [25])])
def croftlaw46_TrackLegs.B13 : List Nat := [0, 0, 2, 7, 15, 31, 0, 0, 128, 448, 960, 1984, 0, 0, 12288, 28672, 61440, 0, 0, 393216, 917504, 1966080, 4194303, 8388607, 16777215, 16777215, 33554431, 134217727]
theorem croftlaw46_TrackLegs.tab13 : rtab .any (opsOf Try.f12 13) = croftlaw46_TrackLegs.T13 := by kernel_rfl
theorem croftlaw46_TrackLegs.bits13 : waitsOk croftlaw46_TrackLegs.T13.2 croftlaw46_TrackLegs.B13 = true := by kernel_rfl
def croftlaw46_TrackLegs.T21 : Bool × List (List Nat × List Nat) := (true, [([], []), ([], []), ([1], [1]), ([0, 2], [0, 2]), ([3], [3]), ([], []), ([], []), ([6], [6]), ([5, 7], [5, 7]), ([8], [8]), ([], []), ([], []), ([10, 11], [10, 11]), ([12], [12]), ([4, 9, 13], [4, 9, 13]), ([14, 14, 0, 1, 2, 3, 4, 5, 6, 7, 8, 9, 10, 11, 12, 13, 14], [14])])
def croftlaw46_TrackLegs.B21 : List Nat := [0, 0, 2, 7, 15, 0, 0, 64, 224, 480, 0, 0, 3072, 7168, 16383, 32767]
theorem croftlaw46_TrackLegs.tab21 : rtab .any (opsOf Try.f12 21) = croftlaw46_TrackLegs.T21 := by kernel_rfl
theorem croftlaw46_TrackLegs.bits21 : waitsOk croftlaw46_TrackLegs.T21.2 croftlaw46_TrackLegs.B21 = true := by kernel_rfl
def croftlaw46_TrackLegs.T24 : Bool × List (List Nat × List Nat) := (true, [([], []), ([0], [0]), ([], []), ([1, 2], [1, 2]), ([3, 1], [3]), ([4], [4]), ([4], [4]), ([5, 6, 4], [4, 5, 6]), ([4, 7], [4, 7]), ([8, 4], [8]), ([9], [9]), ([9], [9]), ([10, 11, 9], [9, 10, 11]), ([9, 12], [9, 12]), ([13, 9, 0, 1, 2, 3, 4, 5, 6, 7, 8, 9, 10, 11, 12, 13], [13])])
def croftlaw46_TrackLegs.B24 : List Nat := [0, 1, 0, 7, 15, 31, 31, 127, 255, 511, 1023, 1023, 4095, 8191, 16383]
theorem croftlaw46_TrackLegs.tab24 : rtab .any (opsOf Try.f12 24) = croftlaw46_TrackLegs.T24 := by kernel_rfl
theorem croftlaw46_TrackLegs.bits24 : waitsOk croftlaw46_TrackLegs.T24.2 croftlaw46_TrackLegs.B24 = true := by kernel_rfl
set_option maxHeartbeats 8000000 in
set_option maxRecDepth 100000 in
theorem croftlaw46_TrackLegs.calls (k : Nat) (P0_ : Nat → Prop) (A0 : Option Addr) (c0 : Nat) (l0 : List (S24)) (r : Bool) (w : World) (hs0 : Kd.V k24 24 w w.heap.size (fun k_ => P0_ k_) (.slice A0 l0.length c0) l0) (hT : r = true) (h : croftlaw46_TrackLegs.f k l0 = some r) :
    Calls Try.prog 12 #[.slice A0 l0.length c0] w fun e w' => e = .returned (.bool r) ∧ Below w.heap.size w w' := by
  have hu43 := Try.underlying43
  have hu24 := Try.underlying24
  have HT := Aside0.mk hT
  clear hT
  have HO0 := Aside0.mk (show Kd.V k24 24 w w.heap.size (fun k_ => (P0_ k_ ∨ w.heap.size ≤ k_)) (.slice A0 l0.length c0) l0 from Kd.V_mono hs0 (fun k_ hk => .inl hk))
  have HB := Aside0.mk (Below.refl w.heap.size w)
  have H : ((croftlaw46_alive.f k).bind fun t478 => (if t478 = true then (if (l0.length : Int) > 60 then (if 60 ≤ (l0.length : Int) then (croftlaw46_TrackLegs.j0 k (l0.take 60)) else (none)) else (croftlaw46_TrackLegs.j0 k l0)) else (some false))) = some r := h
  clear h
  replace H := Option.bind_eq_some_iff.mp H
  obtain ⟨t478, A20, H⟩ := H
  replace H : (if t478 = true then (if (l0.length : Int) > 60 then (if 60 ≤ (l0.length : Int) then (croftlaw46_TrackLegs.j0 k (l0.take 60)) else (none)) else (croftlaw46_TrackLegs.j0 k l0)) else (some false)) = some r := H
  have A2 := Aside0.mk A20
  clear A20
  by_cases c3 : t478 = true
  · subst c3
    have H1 : (if (l0.length : Int) > 60 then (if 60 ≤ (l0.length : Int) then (croftlaw46_TrackLegs.j0 k (l0.take 60)) else (none)) else (croftlaw46_TrackLegs.j0 k l0)) = some r := by rw [if_pos rfl] at H; exact H
    clear H
    have H := H1
    clear H1
    have HC4 := Aside0.mk H
    clear H
    go_enter Try.func12, Try.ntmps12
    go_upto_if 18 with (first | ((with_reducible refine gate_callee (f := 30) rfl ?_); refine goesL_ (some 14) rfl rfl Try.func30 (by kernel_rfl) rfl #[] rfl (by (try simp only [List.map_toArray, List.map_cons, List.map_nil]); first | done | rfl | (simp only [List.length_drop, List.length_take]; rfl)) ?_; (with_reducible refine (croftlaw46_alive.calls k  true _ A2.out).mono ?_); rintro e w5 ⟨rfl, hb⟩; refine ⟨_, rfl, ?_⟩; have n0_ := Aside0.mk (Kd.V_below (by (with_reducible repeat (first | apply Kd.V_alloc | apply Kd.V_drewN | apply Kd.V_drew)); exact HO0.out) hb); have n1_ := Aside0.mk (below_step (by repeat (first | (with_reducible first | exact HB.out | apply below_alloc | apply pw_below_drewN | apply below_drew1) | exact HB.out)) hb); clear HO0; clear HB; have HO0 := n0_; have HB := n1_; clear n0_ n1_; (try clear hb); (try clear hb2); (try clear hk); (try clear hi)))
    (try simp only [Act.put, List.setIfInBounds_toArray, List.set_cons_zero, List.set_cons_succ])
    go_cut [0] (fun v0 wc => ∃ (kq : Nat) (x0_3 : List (S24)), Aside0 (croftlaw46_TrackLegs.j0 kq x0_3 = some r) ∧ Aside0 (kq ≤ k) ∧ Aside0 (Kd.V k24 24 wc w.heap.size (fun k_ => (P0_ k_ ∨ w.heap.size ≤ k_)) v0 x0_3) ∧ Aside0 (Below w.heap.size w wc))
    case first =>
      have H := HC4.out
      clear HC4
      by_cases c6 : (l0.length : Int) > 60
      · rw [if_pos c6] at H
        have c6b0 : decide (60 < (l0.length : Int)) = true := decide_eq_true c6
        have c6b1 : decide (60 < l0.length) = true := decide_eq_true (by omega)
        clear c6
        (first | rw [c6b0] | (simp only [i64_w, i32_w]; rw [c6b0]) | skip)
        by_cases c7 : 60 ≤ (l0.length : Int)
        · rw [if_pos c7] at H
          have c7b0 := eq_true c7
          have c7b1 : decide (60 ≤ (l0.length : Int)) = true := decide_eq_true c7
          clear c7
          obtain ⟨y479, hy479⟩ : ∃ y_ : List (S24), y_ = (l0.take 60) := ⟨_, rfl⟩
          replace H : (croftlaw46_TrackLegs.j0 k y479) = some r := by first | (rw [hy479]; with_reducible exact H) | (have H2_ := (Option.bind_some _ _).symm.trans H; rw [hy479]; with_reducible exact H2_) | (have H2_ := (Option.bind_some _ _).symm.trans H; with_reducible exact H2_) | with_reducible exact H | (rw [hy479]; exact H) | exact H
          have Ny479 := Aside0.mk hy479
          clear hy479
          have H' := Aside0.mk H
          clear H
          have q8 : (60 : Int) ≤ ((l0.length : Int) : Int) := of_decide_eq_true (by first | (with_reducible assumption) | assumption)
          obtain ⟨i08, hi08, _, hsz8, _⟩ := info_parts info24
          have hroom8 : l0.length ≤ c0 := (Kd.V_reads' HO0.out).2.1
          have hC8 : Kd.F k24 _ _ A0 l0.length l0 := (Kd.V_at (base := w.heap.size) HO0.out).2.2
          have hcut8 := cut_to (P := Try.prog) 27 24 .i64 Try.underlying27 hi08 A0 l0.length c0 60 (by omega) q8 hroom8
          have hr8 := Kd.F_take (m := 60) hC8 (by omega)
          have hy8 : y479.length = (60 : Int).toNat := (by rw [Ny479.out, List.length_take]; omega)
          rw [← Ny479.out] at hr8
          rw [← hy8] at hcut8
          have HO483 := Aside0.mk (show Kd.V k24 24 _ w.heap.size _ (.slice A0 y479.length c0) y479 from Kd.V_mk (by omega) hr8)
          have HC483 := Aside0.mk (show y479.length ≤ c0 from by omega)
          clear hr8 hC8 hroom8 hi08 hsz8
          have KY8 := Aside0.mk hy8
          clear hy8
          replace q8 := eq_true q8
          go_wp2
          go_meet
          case rel => exact ⟨_, (y479), H', ⟨by first | omega | exact Nat.le_refl _⟩, ⟨by (with_reducible repeat (first | apply Kd.V_alloc | apply Kd.V_drewN | apply Kd.V_drew)); exact HO483.out⟩, ⟨by repeat (first | (with_reducible first | exact HB.out | apply below_alloc | apply pw_below_drewN | apply below_drew1) | exact HB.out)⟩⟩
        · rw [if_neg c7] at H
          exact absurd H (by simp)
      · rw [if_neg c6] at H
        have c6b0 : decide (60 < (l0.length : Int)) = false := decide_eq_false c6
        have c6b1 : decide (60 < l0.length) = false := decide_eq_false (by omega)
        clear c6
        (first | rw [c6b0] | (simp only [i64_w, i32_w]; rw [c6b0]) | skip)
        have H' := Aside0.mk H
        clear H
        go_wp2
        go_meet
        case rel => exact ⟨_, (l0), H', ⟨by first | omega | exact Nat.le_refl _⟩, ⟨by (with_reducible repeat (first | apply Kd.V_alloc | apply Kd.V_drewN | apply Kd.V_drew)); exact HO0.out⟩, ⟨by repeat (first | (with_reducible first | exact HB.out | apply below_alloc | apply pw_below_drewN | apply below_drew1) | exact HB.out)⟩⟩
    case rest =>
      clear HC4
      try clear c1
      try clear p2
      try clear c3
      try clear c6
      try clear c6b0
      try clear c6b1
      try clear c7
      try clear c7b0
      try clear c7b1
      try clear q8
      try clear q8
      obtain ⟨kq, x0_3, HA, HJ3, HO_0, HB⟩ := hcut
      cases kq with
      | zero => exact absurd HA.out (by simp [croftlaw46_TrackLegs.j0])
      | succ kj3 =>
        have H := HA.out
        clear HA
        simp only [croftlaw46_TrackLegs.j0] at H
        replace H := Option.bind_eq_some_iff.mp H
        obtain ⟨t484, A90, H⟩ := H
        replace H : (if (t484.length : Int) = (mx (wrap64 ((x0_3.length : Int) - 1)) 0) then (croftlaw46_TrackLegs.l0 kj3 x0_3 t484 0 0 1 0 0) else (some false)) = some r := H
        have A9 := Aside0.mk A90
        clear A90
        obtain ⟨ji10, hji10⟩ : ∃ j_ : Int, (mx (wrap64 ((x0_3.length : Int) - 1)) 0) = j_ := ⟨_, rfl⟩
        replace H : (if (t484.length : Int) = (ji10) then (croftlaw46_TrackLegs.l0 kj3 x0_3 t484 0 0 1 0 0) else (some false)) = some r := by first | (rw [hji10] at H; exact H) | (simp only [hji10] at H ⊢; exact H)
        (try rw [hji10] at A9)
        have hji10_ : (if (wrap64 ((x0_3.length : Int) - 1)) < 0 then 0 else (wrap64 ((x0_3.length : Int) - 1))) = ji10 := hji10
        by_cases c11 : (t484.length : Int) = (ji10)
        · rw [if_pos c11] at H
          have c11b0 : ((t484.length : Int) == (ji10)) = true := beq_iff_eq.mpr c11
          have c11b1 : ((t484.length : Int) != (ji10)) = false := bne_eq_false_iff_eq.mpr c11
          clear c11
          have H' := Aside0.mk H
          clear H
          obtain ⟨Ao12, co12, eo12⟩ := Kd.V_slice HO_0.out
          subst eo12
          go_wp2_with (first | ((with_reducible refine gate_callee (f := 35) rfl ?_); refine goesL_ (some 22) rfl rfl Try.func35 (by kernel_rfl) rfl #[.slice Ao12 x0_3.length co12] rfl (by (try simp only [List.map_toArray, List.map_cons, List.map_nil]); first | done | rfl | (simp only [List.length_drop, List.length_take]; rfl)) ?_; (with_reducible refine (track_Legs.calls kj3 _ _ x0_3 t484 _ ?side1 ?side2 A9.out).mono ?_); (case side1 => repeat (first | exact (Kd.V_reads' HO_0.out).2.2 | (with_reducible refine Kd.C_alloc ?_ _) | (with_reducible refine Kd.C_drewN ?_ _) | (with_reducible refine Kd.C_drew ?_))); (case side2 => exact (Kd.V_reads' HO_0.out).2.1); rintro e w13 ⟨v485, rfl, ho0, hb⟩; refine ⟨_, rfl, ?_⟩; have n0_ := Aside0.mk (Kd.V_elder' (by (with_reducible repeat (first | apply Kd.V_alloc | apply Kd.V_drewN | apply Kd.V_drew)); exact HO_0.out) (Kd.R_base ho0) hb); have n1_ := Aside0.mk (Kd.R_lower (Kd.R_newM (M := fun k_ => (w.heap.size ≤ k_)) ho0 (below_size (by repeat (first | (with_reducible first | exact HB.out | apply below_alloc | apply pw_below_drewN | apply below_drew1) | exact HB.out))) (fun k_ h_ => h_)) (below_size (by repeat (first | (with_reducible first | exact HB.out | apply below_alloc | apply pw_below_drewN | apply below_drew1) | exact HB.out)))); have n2_ := Aside0.mk (below_step (by repeat (first | (with_reducible first | exact HB.out | apply below_alloc | apply pw_below_drewN | apply below_drew1) | exact HB.out)) hb); clear HO_0; clear HB; have HO_0 := n0_; have HO486 := n1_; have HB := n2_; clear n0_ n1_ n2_; (try clear hb); (try clear hb2); (try clear hk); (try clear hi); (try clear ho0)) | ((with_reducible refine gate_dst (N := 4) rfl ?_); refine box_event ?hg (N := 4) ?hd (cs := #[.int .u64 0, .int .u64 0]) (t := 43) ?hr ?_; (case hd => rfl); (case hg => rfl); (case hr => first | (go_simp; done) | (go_simp; rfl)); intro gb487 hg w14 hbox hb; have n0_ := Aside0.mk (Kd.V_below (Kd.V_elderB (by (with_reducible repeat (first | apply Kd.V_alloc | apply Kd.V_drewN | apply Kd.V_drew)); exact HO_0.out) gb487 (Nat.le_of_eq hg.symm)) hb); have n1_ := Aside0.mk (Kd.R_below (Kd.R_elderB (by (with_reducible repeat (first | apply Kd.R_alloc | apply Kd.R_drewN | apply Kd.R_drew)); exact HO486.out) gb487 (Nat.le_of_eq hg.symm)) hb); have n2_ := Aside0.mk (below_step (by repeat (first | (with_reducible first | exact HB.out | apply below_alloc | apply pw_below_drewN | apply below_drew1) | exact HB.out)) hb); have n3_ := Aside0.mk (hbox); have n4_ := Aside0.mk ((by rw [hg]; exact (below_size (by repeat (first | (with_reducible first | exact HB.out | apply below_alloc | apply pw_below_drewN | apply below_drew1) | exact HB.out))) : w.heap.size ≤ gb487)); have n5_ := Aside0.mk ((by rw [hg]; exact (below_size (by repeat (first | (with_reducible first | exact HB.out | apply below_alloc | apply pw_below_drewN | apply below_drew1) | exact HB.out))) : w.heap.size ≤ gb487)); clear HO_0; clear HO486; clear HB; have HO_0 := n0_; have HO486 := n1_; have HB := n2_; have BK487 := n3_; have GW487 := n4_; have GE487 := n5_; clear n0_ n1_ n2_ n3_ n4_ n5_; clear hb hbox hg; obtain ⟨Ao15, co15, eo15⟩ := Kd.R_slice HO486.out; subst eo15))
          go_loopg [5, 6, 7] kj3 (fun kq v5 v6 v7 w' => ∃ (x5_2 : Int) (x6_2 : Int) (x7_2 : Int) (x488000_2 : Int) (x488001_2 : Int), v5 = .int .i64 x5_2 ∧ v6 = .int .i64 x6_2 ∧ v7 = .int .i64 x7_2 ∧ Aside0 (croftlaw46_TrackLegs.l0 kq x0_3 t484 x5_2 x6_2 x7_2 x488000_2 x488001_2 = some r) ∧ Aside0 (kq ≤ kj3) ∧ Aside0 (Kd.V k24 24 w' w.heap.size (fun k_ => (P0_ k_ ∨ w.heap.size ≤ k_) ∧ some k_ ≠ ((.slice Ao15 t484.length co15) : Value).ownBlock ∧ k_ ≠ gb487) (.slice Ao12 x0_3.length co12) x0_3) ∧ Aside0 (Kd.R k43 43 w' w.heap.size (fun k_ => (w.heap.size ≤ k_) ∧ k_ ≠ gb487) (.slice Ao15 t484.length co15) t484) ∧ Aside0 (w'.heap[gb487]? = some (.cells #[.int .u64 x488000_2, .int .u64 x488001_2] 43 (0, 0))) ∧ Aside0 (Below w.heap.size w w'))
          case atStart => exact ⟨(0), (0), (1), (0), (0), (by first | rfl | (simp; done) | (simp [*]; done)), (by first | rfl | (simp; done) | (simp [*]; done)), (by first | rfl | (simp; done) | (simp [*]; done)), H', ⟨Nat.le_refl _⟩, ⟨by (with_reducible repeat (first | apply Kd.V_alloc | apply Kd.V_drewN | apply Kd.V_drew)); exact Kd.V_mono HO_0.out (fun _ hk => ⟨hk.1.1, ⟨hk.1.2, hk.2⟩⟩)⟩, ⟨by (with_reducible repeat (first | apply Kd.R_alloc | apply Kd.R_drewN | apply Kd.R_drew)); exact Kd.R_mono HO486.out (fun _ hk => ⟨hk.1.1, hk.2⟩)⟩, ⟨by (with_reducible repeat (first | refine blk_drewN ?_ _ | refine blk_drew ?_ | refine blk_alloc ?_ _)); exact BK487.out⟩, ⟨by repeat (first | (with_reducible first | exact HB.out | apply below_alloc | apply pw_below_drewN | apply below_drew1 | refine below_set ?_ GE487.out) | exact HB.out)⟩⟩
          case round =>
            clear H'
            try clear c1
            try clear p2
            try clear c3
            try clear c6
            try clear c6b0
            try clear c6b1
            try clear p6
            try clear c7
            try clear c7b0
            try clear c7b1
            try clear q8
            try clear c11
            try clear c11b0
            try clear c11b1
            try clear c12
            try clear p2
            try clear q8
            obtain ⟨x5_2, x6_2, x7_2, x488000_2, x488001_2, rfl, rfl, rfl, HA, HK2, HO_0, HO_3, BK487, HB⟩ := hrel
            cases gk with
            | zero => exact absurd HA.out (by simp [croftlaw46_TrackLegs.l0])
            | succ k2 =>
              have H := HA.out
              clear HA
              simp only [croftlaw46_TrackLegs.l0] at H
              by_cases c16 : x7_2 < (x0_3.length : Int)
              · rw [if_pos c16] at H
                have c16b0 : decide (x7_2 < (x0_3.length : Int)) = true := decide_eq_true c16
                clear c16
                obtain ⟨ji17, hji17⟩ : ∃ j_ : Int, (wrap64 (x7_2 - 1)) = j_ := ⟨_, rfl⟩
                replace H : (if 0 ≤ (ji17) then (if (ji17) < (x0_3.length : Int) then (if 0 ≤ x7_2 then ((croftref03_Between.f ((rd_T24 x0_3 (ji17)).f1) ((rd_T24 x0_3 (ji17)).f2) ((rd_T24 x0_3 x7_2).f1) ((rd_T24 x0_3 x7_2).f2)).bind fun bt496 => (if (ji17) < (t484.length : Int) then (if (!(((rd_T43 t484 (ji17)).f0) == bt496.1) || (!(((rd_T43 t484 (ji17)).f1) == bt496.2))) = true then (some false) else (if (IntKind.u64.wrap (x488001_2 + bt496.2)) < bt496.2 then (if x7_2 > 1 then (if 0 ≤ (wrap64 (x7_2 - 2)) then (if (wrap64 (x7_2 - 2)) < (x0_3.length : Int) then ((poly_Turn.f k2 ((rd_T24 x0_3 (wrap64 (x7_2 - 2))).f0) ((rd_T24 x0_3 (wrap64 (x7_2 - 2))).f1) ((rd_T24 x0_3 (wrap64 (x7_2 - 2))).f2) ((rd_T24 x0_3 (wrap64 (x7_2 - 2))).f3) ((rd_T24 x0_3 (ji17)).f0) ((rd_T24 x0_3 (ji17)).f1) ((rd_T24 x0_3 (ji17)).f2) ((rd_T24 x0_3 (ji17)).f3) ((rd_T24 x0_3 x7_2).f0) ((rd_T24 x0_3 x7_2).f1) ((rd_T24 x0_3 x7_2).f2) ((rd_T24 x0_3 x7_2).f3)).bind fun t502 => (croftlaw46_TrackLegs.l0 k2 x0_3 t484 (wrap64 (x5_2 + (mx t502 0))) (wrap64 (x6_2 + (mx (wrap64 (-t502)) 0))) (wrap64 (x7_2 + 1)) (IntKind.u64.wrap ((IntKind.u64.wrap (x488000_2 + 1)) + bt496.1)) (IntKind.u64.wrap (x488001_2 + bt496.2)))) else (none)) else (none)) else (croftlaw46_TrackLegs.l0 k2 x0_3 t484 x5_2 x6_2 (wrap64 (x7_2 + 1)) (IntKind.u64.wrap ((IntKind.u64.wrap (x488000_2 + 1)) + bt496.1)) (IntKind.u64.wrap (x488001_2 + bt496.2)))) else (if x7_2 > 1 then (if 0 ≤ (wrap64 (x7_2 - 2)) then (if (wrap64 (x7_2 - 2)) < (x0_3.length : Int) then ((poly_Turn.f k2 ((rd_T24 x0_3 (wrap64 (x7_2 - 2))).f0) ((rd_T24 x0_3 (wrap64 (x7_2 - 2))).f1) ((rd_T24 x0_3 (wrap64 (x7_2 - 2))).f2) ((rd_T24 x0_3 (wrap64 (x7_2 - 2))).f3) ((rd_T24 x0_3 (ji17)).f0) ((rd_T24 x0_3 (ji17)).f1) ((rd_T24 x0_3 (ji17)).f2) ((rd_T24 x0_3 (ji17)).f3) ((rd_T24 x0_3 x7_2).f0) ((rd_T24 x0_3 x7_2).f1) ((rd_T24 x0_3 x7_2).f2) ((rd_T24 x0_3 x7_2).f3)).bind fun t506 => (croftlaw46_TrackLegs.l0 k2 x0_3 t484 (wrap64 (x5_2 + (mx t506 0))) (wrap64 (x6_2 + (mx (wrap64 (-t506)) 0))) (wrap64 (x7_2 + 1)) (IntKind.u64.wrap (x488000_2 + bt496.1)) (IntKind.u64.wrap (x488001_2 + bt496.2)))) else (none)) else (none)) else (croftlaw46_TrackLegs.l0 k2 x0_3 t484 x5_2 x6_2 (wrap64 (x7_2 + 1)) (IntKind.u64.wrap (x488000_2 + bt496.1)) (IntKind.u64.wrap (x488001_2 + bt496.2)))))) else (none))) else (none)) else (none)) else (none)) = some r := by first | (rw [hji17] at H; exact H) | (simp only [hji17] at H ⊢; exact H)
                have hji17w : (IntKind.i64.wrap (x7_2 - 1)) = ji17 := (i64_w _).trans hji17
                by_cases c18 : 0 ≤ (ji17)
                · rw [if_pos c18] at H
                  have c18b0 : decide (0 ≤ (ji17)) = true := decide_eq_true c18
                  clear c18
                  by_cases c19 : (ji17) < (x0_3.length : Int)
                  · rw [if_pos c19] at H
                    have c19b0 : decide ((ji17) < (x0_3.length : Int)) = true := decide_eq_true c19
                    clear c19
                    by_cases c20 : 0 ≤ x7_2
                    · rw [if_pos c20] at H
                      have c20b0 : decide (0 ≤ x7_2) = true := decide_eq_true c20
                      clear c20
                      replace H := Option.bind_eq_some_iff.mp H
                      obtain ⟨⟨t496, t497⟩, A210, H⟩ := H
                      replace H : (if (ji17) < (t484.length : Int) then (if (!(((rd_T43 t484 (ji17)).f0) == t496) || (!(((rd_T43 t484 (ji17)).f1) == t497))) = true then (some false) else (if (IntKind.u64.wrap (x488001_2 + t497)) < t497 then (if x7_2 > 1 then (if 0 ≤ (wrap64 (x7_2 - 2)) then (if (wrap64 (x7_2 - 2)) < (x0_3.length : Int) then ((poly_Turn.f k2 ((rd_T24 x0_3 (wrap64 (x7_2 - 2))).f0) ((rd_T24 x0_3 (wrap64 (x7_2 - 2))).f1) ((rd_T24 x0_3 (wrap64 (x7_2 - 2))).f2) ((rd_T24 x0_3 (wrap64 (x7_2 - 2))).f3) ((rd_T24 x0_3 (ji17)).f0) ((rd_T24 x0_3 (ji17)).f1) ((rd_T24 x0_3 (ji17)).f2) ((rd_T24 x0_3 (ji17)).f3) ((rd_T24 x0_3 x7_2).f0) ((rd_T24 x0_3 x7_2).f1) ((rd_T24 x0_3 x7_2).f2) ((rd_T24 x0_3 x7_2).f3)).bind fun t502 => (croftlaw46_TrackLegs.l0 k2 x0_3 t484 (wrap64 (x5_2 + (mx t502 0))) (wrap64 (x6_2 + (mx (wrap64 (-t502)) 0))) (wrap64 (x7_2 + 1)) (IntKind.u64.wrap ((IntKind.u64.wrap (x488000_2 + 1)) + t496)) (IntKind.u64.wrap (x488001_2 + t497)))) else (none)) else (none)) else (croftlaw46_TrackLegs.l0 k2 x0_3 t484 x5_2 x6_2 (wrap64 (x7_2 + 1)) (IntKind.u64.wrap ((IntKind.u64.wrap (x488000_2 + 1)) + t496)) (IntKind.u64.wrap (x488001_2 + t497)))) else (if x7_2 > 1 then (if 0 ≤ (wrap64 (x7_2 - 2)) then (if (wrap64 (x7_2 - 2)) < (x0_3.length : Int) then ((poly_Turn.f k2 ((rd_T24 x0_3 (wrap64 (x7_2 - 2))).f0) ((rd_T24 x0_3 (wrap64 (x7_2 - 2))).f1) ((rd_T24 x0_3 (wrap64 (x7_2 - 2))).f2) ((rd_T24 x0_3 (wrap64 (x7_2 - 2))).f3) ((rd_T24 x0_3 (ji17)).f0) ((rd_T24 x0_3 (ji17)).f1) ((rd_T24 x0_3 (ji17)).f2) ((rd_T24 x0_3 (ji17)).f3) ((rd_T24 x0_3 x7_2).f0) ((rd_T24 x0_3 x7_2).f1) ((rd_T24 x0_3 x7_2).f2) ((rd_T24 x0_3 x7_2).f3)).bind fun t506 => (croftlaw46_TrackLegs.l0 k2 x0_3 t484 (wrap64 (x5_2 + (mx t506 0))) (wrap64 (x6_2 + (mx (wrap64 (-t506)) 0))) (wrap64 (x7_2 + 1)) (IntKind.u64.wrap (x488000_2 + t496)) (IntKind.u64.wrap (x488001_2 + t497)))) else (none)) else (none)) else (croftlaw46_TrackLegs.l0 k2 x0_3 t484 x5_2 x6_2 (wrap64 (x7_2 + 1)) (IntKind.u64.wrap (x488000_2 + t496)) (IntKind.u64.wrap (x488001_2 + t497)))))) else (none)) = some r := H
                      have A21 := Aside0.mk A210
                      clear A210
                      by_cases c22 : (ji17) < (t484.length : Int)
                      · rw [if_pos c22] at H
                        have c22b0 : decide ((ji17) < (t484.length : Int)) = true := decide_eq_true c22
                        clear c22
                        by_cases c23 : (!(((rd_T43 t484 (ji17)).f0) == t496) || (!(((rd_T43 t484 (ji17)).f1) == t497))) = true
                        · rw [if_pos c23] at H
                          have c23b0 : (!(((rd_T43 t484 (ji17)).f0) == t496) || (!(((rd_T43 t484 (ji17)).f1) == t497))) = true := c23
                          clear c23
                          obtain rfl := Option.some.inj H
                          exact absurd HT.out (by simp)
                        · rw [if_neg c23] at H
                          have c23b0 : (!(((rd_T43 t484 (ji17)).f0) == t496) || (!(((rd_T43 t484 (ji17)).f1) == t497))) = false := by simpa using c23
                          clear c23
                          by_cases c24 : (IntKind.u64.wrap (x488001_2 + t497)) < t497
                          · rw [if_pos c24] at H
                            have c24b0 : decide ((IntKind.u64.wrap (x488001_2 + t497)) < t497) = true := decide_eq_true c24
                            clear c24
                            by_cases c25 : x7_2 > 1
                            · rw [if_pos c25] at H
                              have c25b0 : decide (1 < x7_2) = true := decide_eq_true c25
                              clear c25
                              obtain ⟨ji26, hji26⟩ : ∃ j_ : Int, (wrap64 (x7_2 - 2)) = j_ := ⟨_, rfl⟩
                              replace H : (if 0 ≤ (ji26) then (if (ji26) < (x0_3.length : Int) then ((poly_Turn.f k2 ((rd_T24 x0_3 (ji26)).f0) ((rd_T24 x0_3 (ji26)).f1) ((rd_T24 x0_3 (ji26)).f2) ((rd_T24 x0_3 (ji26)).f3) ((rd_T24 x0_3 (ji17)).f0) ((rd_T24 x0_3 (ji17)).f1) ((rd_T24 x0_3 (ji17)).f2) ((rd_T24 x0_3 (ji17)).f3) ((rd_T24 x0_3 x7_2).f0) ((rd_T24 x0_3 x7_2).f1) ((rd_T24 x0_3 x7_2).f2) ((rd_T24 x0_3 x7_2).f3)).bind fun t502 => (croftlaw46_TrackLegs.l0 k2 x0_3 t484 (wrap64 (x5_2 + (mx t502 0))) (wrap64 (x6_2 + (mx (wrap64 (-t502)) 0))) (wrap64 (x7_2 + 1)) (IntKind.u64.wrap ((IntKind.u64.wrap (x488000_2 + 1)) + t496)) (IntKind.u64.wrap (x488001_2 + t497)))) else (none)) else (none)) = some r := by first | (rw [hji26] at H; exact H) | (simp only [hji26] at H ⊢; exact H)
                              (try rw [hji26] at A21)
                              have hji26w : (IntKind.i64.wrap (x7_2 - 2)) = ji26 := (i64_w _).trans hji26
                              by_cases c27 : 0 ≤ (ji26)
                              · rw [if_pos c27] at H
                                have c27b0 : decide (0 ≤ (ji26)) = true := decide_eq_true c27
                                clear c27
                                by_cases c28 : (ji26) < (x0_3.length : Int)
                                · rw [if_pos c28] at H
                                  have c28b0 : decide ((ji26) < (x0_3.length : Int)) = true := decide_eq_true c28
                                  clear c28
                                  replace H := Option.bind_eq_some_iff.mp H
                                  obtain ⟨t502, A290, H⟩ := H
                                  replace H : (croftlaw46_TrackLegs.l0 k2 x0_3 t484 (wrap64 (x5_2 + (mx t502 0))) (wrap64 (x6_2 + (mx (wrap64 (-t502)) 0))) (wrap64 (x7_2 + 1)) (IntKind.u64.wrap ((IntKind.u64.wrap (x488000_2 + 1)) + t496)) (IntKind.u64.wrap (x488001_2 + t497))) = some r := H
                                  have A29 := Aside0.mk A290
                                  clear A290
                                  obtain ⟨ji30, hji30⟩ : ∃ j_ : Int, (mx t502 0) = j_ := ⟨_, rfl⟩
                                  replace H : (croftlaw46_TrackLegs.l0 k2 x0_3 t484 (wrap64 (x5_2 + (ji30))) (wrap64 (x6_2 + (mx (wrap64 (-t502)) 0))) (wrap64 (x7_2 + 1)) (IntKind.u64.wrap ((IntKind.u64.wrap (x488000_2 + 1)) + t496)) (IntKind.u64.wrap (x488001_2 + t497))) = some r := by first | (rw [hji30] at H; exact H) | (simp only [hji30] at H ⊢; exact H)
                                  (try rw [hji30] at A21)
                                  (try rw [hji30] at A29)
                                  (try (have hji30l : 0 ≤ ji30 := by (rw [← hji30]; unfold mx; (repeat' split) <;> omega)))
                                  (try (have hji30m : 0 ≤ ji30 := by omega))
                                  have hji30_ : (if t502 < 0 then 0 else t502) = ji30 := hji30
                                  obtain ⟨ji31, hji31⟩ : ∃ j_ : Int, (mx (wrap64 (-t502)) 0) = j_ := ⟨_, rfl⟩
                                  replace H : (croftlaw46_TrackLegs.l0 k2 x0_3 t484 (wrap64 (x5_2 + (ji30))) (wrap64 (x6_2 + (ji31))) (wrap64 (x7_2 + 1)) (IntKind.u64.wrap ((IntKind.u64.wrap (x488000_2 + 1)) + t496)) (IntKind.u64.wrap (x488001_2 + t497))) = some r := by first | (rw [hji31] at H; exact H) | (simp only [hji31] at H ⊢; exact H)
                                  (try rw [hji31] at A21)
                                  (try rw [hji31] at A29)
                                  (try (have hji31l : 0 ≤ ji31 := by (rw [← hji31]; unfold mx; (repeat' split) <;> omega)))
                                  (try (have hji31m : 0 ≤ ji31 := by omega))
                                  have hji31_ : (if (wrap64 (-t502)) < 0 then 0 else (wrap64 (-t502))) = ji31 := hji31
                                  have H' := Aside0.mk H
                                  clear H
                                  try go_wp2
                                  have n0_ := Aside0.mk (Kd.V_drew HO_0.out)
                                  have n1_ := Aside0.mk (Kd.R_drew HO_3.out)
                                  have n2_ := Aside0.mk (blk_drew BK487.out)
                                  have n3_ := Aside0.mk (below_drew1 HB.out)
                                  clear HO_0
                                  clear HO_3
                                  clear BK487
                                  clear HB
                                  have HO_0 := n0_
                                  have HO_3 := n1_
                                  have BK487 := n2_
                                  have HB := n3_
                                  clear n0_ n1_ n2_ n3_
                                  have p492 : 0 ≤ ((ji17) : Int) := of_decide_eq_true (by first | (with_reducible assumption) | assumption)
                                  have q492 : (ji17) < (x0_3.length : Int) := of_decide_eq_true (by first | (with_reducible assumption) | assumption)
                                  obtain ⟨ad492, e492, hx492_0, hx492_1, hx492_2, hx492_3⟩ := at_T24 (Kd.V_reads' HO_0.out).2.2 (ji17) p492 q492
                                  cases e492
                                  replace p492 := eq_true p492
                                  replace q492 := eq_true q492
                                  have p493 : 0 ≤ ((ji17) : Int) := of_decide_eq_true (by first | (with_reducible assumption) | assumption)
                                  have q493 : (ji17) < (x0_3.length : Int) := of_decide_eq_true (by first | (with_reducible assumption) | assumption)
                                  obtain ⟨ad493, e493, hx493_0, hx493_1, hx493_2, hx493_3⟩ := at_T24 (Kd.V_reads' HO_0.out).2.2 (ji17) p493 q493
                                  obtain rfl : ad492 = ad493 := (by injection e493)
                                  replace p493 := eq_true p493
                                  replace q493 := eq_true q493
                                  have p494 : 0 ≤ (x7_2 : Int) := of_decide_eq_true (by first | (with_reducible assumption) | assumption)
                                  have q494 : x7_2 < (x0_3.length : Int) := of_decide_eq_true (by first | (with_reducible assumption) | assumption)
                                  obtain ⟨ad494, e494, hx494_0, hx494_1, hx494_2, hx494_3⟩ := at_T24 (Kd.V_reads' HO_0.out).2.2 x7_2 p494 q494
                                  obtain rfl : ad492 = ad494 := (by injection e494)
                                  replace p494 := eq_true p494
                                  replace q494 := eq_true q494
                                  have p495 : 0 ≤ (x7_2 : Int) := of_decide_eq_true (by first | (with_reducible assumption) | assumption)
                                  have q495 : x7_2 < (x0_3.length : Int) := of_decide_eq_true (by first | (with_reducible assumption) | assumption)
                                  obtain ⟨ad495, e495, hx495_0, hx495_1, hx495_2, hx495_3⟩ := at_T24 (Kd.V_reads' HO_0.out).2.2 x7_2 p495 q495
                                  obtain rfl : ad492 = ad495 := (by injection e495)
                                  replace p495 := eq_true p495
                                  replace q495 := eq_true q495
                                  refine start_ (n := 28) (S := fun w' => w'.cell? (ad492.add (((ji17)).toNat * 4)) = some (.int .i64 ((rd_T24 x0_3 (ji17)).f0)) ∧ w'.cell? ⟨(ad492.add (((ji17)).toNat * 4)).block, (ad492.add (((ji17)).toNat * 4)).off + 1, none⟩ = some (.int .u32 ((rd_T24 x0_3 (ji17)).f1)) ∧ w'.cell? ⟨(ad492.add (((ji17)).toNat * 4)).block, (ad492.add (((ji17)).toNat * 4)).off + 2, none⟩ = some (.int .u32 ((rd_T24 x0_3 (ji17)).f2)) ∧ w'.cell? ⟨(ad492.add (((ji17)).toNat * 4)).block, (ad492.add (((ji17)).toNat * 4)).off + 3, none⟩ = some (.string ((rd_T24 x0_3 (ji17)).f3)) ∧ w'.cell? (ad492.add (((ji17)).toNat * 4)) = some (.int .i64 ((rd_T24 x0_3 (ji17)).f0)) ∧ w'.cell? ⟨(ad492.add (((ji17)).toNat * 4)).block, (ad492.add (((ji17)).toNat * 4)).off + 1, none⟩ = some (.int .u32 ((rd_T24 x0_3 (ji17)).f1)) ∧ w'.cell? ⟨(ad492.add (((ji17)).toNat * 4)).block, (ad492.add (((ji17)).toNat * 4)).off + 2, none⟩ = some (.int .u32 ((rd_T24 x0_3 (ji17)).f2)) ∧ w'.cell? ⟨(ad492.add (((ji17)).toNat * 4)).block, (ad492.add (((ji17)).toNat * 4)).off + 3, none⟩ = some (.string ((rd_T24 x0_3 (ji17)).f3)) ∧ w'.cell? (ad492.add ((x7_2).toNat * 4)) = some (.int .i64 ((rd_T24 x0_3 x7_2).f0)) ∧ w'.cell? ⟨(ad492.add ((x7_2).toNat * 4)).block, (ad492.add ((x7_2).toNat * 4)).off + 1, none⟩ = some (.int .u32 ((rd_T24 x0_3 x7_2).f1)) ∧ w'.cell? ⟨(ad492.add ((x7_2).toNat * 4)).block, (ad492.add ((x7_2).toNat * 4)).off + 2, none⟩ = some (.int .u32 ((rd_T24 x0_3 x7_2).f2)) ∧ w'.cell? ⟨(ad492.add ((x7_2).toNat * 4)).block, (ad492.add ((x7_2).toNat * 4)).off + 3, none⟩ = some (.string ((rd_T24 x0_3 x7_2).f3)) ∧ w'.cell? (ad492.add ((x7_2).toNat * 4)) = some (.int .i64 ((rd_T24 x0_3 x7_2).f0)) ∧ w'.cell? ⟨(ad492.add ((x7_2).toNat * 4)).block, (ad492.add ((x7_2).toNat * 4)).off + 1, none⟩ = some (.int .u32 ((rd_T24 x0_3 x7_2).f1)) ∧ w'.cell? ⟨(ad492.add ((x7_2).toNat * 4)).block, (ad492.add ((x7_2).toNat * 4)).off + 2, none⟩ = some (.int .u32 ((rd_T24 x0_3 x7_2).f2)) ∧ w'.cell? ⟨(ad492.add ((x7_2).toNat * 4)).block, (ad492.add ((x7_2).toNat * 4)).off + 3, none⟩ = some (.string ((rd_T24 x0_3 x7_2).f3))) (ds := []) #[false, false, false, false, false, false, false, false, false, false, false, false, false, false, false, false, false, false, false, false, false, false, false, false, false, false, false, false] (by kernel_rfl) rfl rfl ⟨hx492_0, hx492_1, hx492_2, hx492_3, hx493_0, hx493_1, hx493_2, hx493_3, hx494_0, hx494_1, hx494_2, hx494_3, hx495_0, hx495_1, hx495_2, hx495_3⟩ (fun hHeld => ?_); refine with_tabW croftlaw46_TrackLegs.tab13 croftlaw46_TrackLegs.bits13 (fun HT_ HW_ => ?_)
                                  generalize wr.drew = w32 at HO_0 HO_3 BK487 HB hx492_0 hx492_1 hx492_2 hx492_3 hx493_0 hx493_1 hx493_2 hx493_3 hx494_0 hx494_1 hx494_2 hx494_3 hx495_0 hx495_1 hx495_2 hx495_3 hHeld ⊢
                                  refine pure_ (i := 0) (N := some 37) (v := ?_) (a' := ?_) #[true, false, false, false, false, false, false, false, false, false, false, false, false, false, false, false, false, false, false, false, false, false, false, false, false, false, false, false] rfl rfl (any_of HT_.out (by kernel_rfl)) (fun _ _ _ h => h) (Or.inl ⟨by rfl, ?_⟩) ?_ ?_
                                  rotate_left
                                  · intro w'
                                    go_simp
                                    with_reducible rfl
                                  rotate_left
                                  · simp only [Act.put, List.setIfInBounds_toArray, List.set_cons_zero, List.set_cons_succ, i64_w, i32_w]
                                    rfl
                                  refine pure_ (i := 1) (N := some 38) (v := ?_) (a' := ?_) #[true, true, false, false, false, false, false, false, false, false, false, false, false, false, false, false, false, false, false, false, false, false, false, false, false, false, false, false] rfl rfl (any_of HT_.out (by kernel_rfl)) (fun _ _ _ h => h) (Or.inl ⟨by rfl, ?_⟩) ?_ ?_
                                  rotate_left
                                  · intro w'
                                    go_simp
                                    with_reducible rfl
                                  rotate_left
                                  · simp only [Act.put, List.setIfInBounds_toArray, List.set_cons_zero, List.set_cons_succ, i64_w, i32_w]
                                    rfl
                                  refine pure_ (i := 2) (N := some 39) (v := ?_) (a' := ?_) #[true, true, true, false, false, false, false, false, false, false, false, false, false, false, false, false, false, false, false, false, false, false, false, false, false, false, false, false] rfl rfl (any_of HT_.out (by kernel_rfl)) (fun _ _ _ h => h) (Or.inl ⟨by rfl, ?_⟩) ?_ ?_
                                  rotate_left
                                  · intro w'
                                    go_simp
                                    with_reducible rfl
                                  rotate_left
                                  · simp only [Act.put, List.setIfInBounds_toArray, List.set_cons_zero, List.set_cons_succ, i64_w, i32_w]
                                    rfl
                                  refine pure_ (i := 3) (N := some 40) (v := ?_) (a' := ?_) #[true, true, true, true, false, false, false, false, false, false, false, false, false, false, false, false, false, false, false, false, false, false, false, false, false, false, false, false] rfl rfl (any_of HT_.out (by kernel_rfl)) (fun _ _ _ h => h) (Or.inl ⟨by rfl, ?_⟩) ?_ ?_
                                  rotate_left
                                  · intro w'
                                    go_simp
                                    with_reducible rfl
                                  rotate_left
                                  · simp only [Act.put, List.setIfInBounds_toArray, List.set_cons_zero, List.set_cons_succ, i64_w, i32_w]
                                    rfl
                                  refine pure_ (i := 4) (N := some 41) (v := ?_) (a' := ?_) #[true, true, true, true, true, false, false, false, false, false, false, false, false, false, false, false, false, false, false, false, false, false, false, false, false, false, false, false] rfl rfl (any_of HT_.out (by kernel_rfl)) (fun _ _ _ h => h) (Or.inl ⟨by rfl, ?_⟩) ?_ ?_
                                  rotate_left
                                  · intro w'
                                    go_simp
                                    with_reducible rfl
                                  rotate_left
                                  · simp only [Act.put, List.setIfInBounds_toArray, List.set_cons_zero, List.set_cons_succ, i64_w, i32_w]
                                    rfl
                                  refine pure_ (i := 6) (N := some 43) (v := ?_) (a' := ?_) #[true, true, true, true, true, false, true, false, false, false, false, false, false, false, false, false, false, false, false, false, false, false, false, false, false, false, false, false] rfl rfl (any_of HT_.out (by kernel_rfl)) (fun _ _ _ h => h) (Or.inl ⟨by rfl, ?_⟩) ?_ ?_
                                  rotate_left
                                  · intro w'
                                    go_simp
                                    with_reducible rfl
                                  rotate_left
                                  · simp only [Act.put, List.setIfInBounds_toArray, List.set_cons_zero, List.set_cons_succ, i64_w, i32_w]
                                    rfl
                                  refine pure_ (i := 7) (N := some 44) (v := ?_) (a' := ?_) #[true, true, true, true, true, false, true, true, false, false, false, false, false, false, false, false, false, false, false, false, false, false, false, false, false, false, false, false] rfl rfl (any_of HT_.out (by kernel_rfl)) (fun _ _ _ h => h) (Or.inl ⟨by rfl, ?_⟩) ?_ ?_
                                  rotate_left
                                  · intro w'
                                    go_simp
                                    with_reducible rfl
                                  rotate_left
                                  · simp only [Act.put, List.setIfInBounds_toArray, List.set_cons_zero, List.set_cons_succ, i64_w, i32_w]
                                    rfl
                                  refine pure_ (i := 8) (N := some 45) (v := ?_) (a' := ?_) #[true, true, true, true, true, false, true, true, true, false, false, false, false, false, false, false, false, false, false, false, false, false, false, false, false, false, false, false] rfl rfl (any_of HT_.out (by kernel_rfl)) (fun _ _ _ h => h) (Or.inl ⟨by rfl, ?_⟩) ?_ ?_
                                  rotate_left
                                  · intro w'
                                    go_simp
                                    with_reducible rfl
                                  rotate_left
                                  · simp only [Act.put, List.setIfInBounds_toArray, List.set_cons_zero, List.set_cons_succ, i64_w, i32_w]
                                    rfl
                                  refine pure_ (i := 9) (N := some 46) (v := ?_) (a' := ?_) #[true, true, true, true, true, false, true, true, true, true, false, false, false, false, false, false, false, false, false, false, false, false, false, false, false, false, false, false] rfl rfl (any_of HT_.out (by kernel_rfl)) (fun _ _ _ h => h) (Or.inl ⟨by rfl, ?_⟩) ?_ ?_
                                  rotate_left
                                  · intro w'
                                    go_simp
                                    with_reducible rfl
                                  rotate_left
                                  · simp only [Act.put, List.setIfInBounds_toArray, List.set_cons_zero, List.set_cons_succ, i64_w, i32_w]
                                    rfl
                                  refine pure_ (i := 10) (N := some 47) (v := ?_) (a' := ?_) #[true, true, true, true, true, false, true, true, true, true, true, false, false, false, false, false, false, false, false, false, false, false, false, false, false, false, false, false] rfl rfl (any_of HT_.out (by kernel_rfl)) (fun _ _ _ h => h) (Or.inl ⟨by rfl, ?_⟩) ?_ ?_
                                  rotate_left
                                  · intro w'
                                    go_simp
                                    with_reducible rfl
                                  rotate_left
                                  · simp only [Act.put, List.setIfInBounds_toArray, List.set_cons_zero, List.set_cons_succ, i64_w, i32_w]
                                    rfl
                                  refine pure_ (i := 12) (N := some 49) (v := ?_) (a' := ?_) #[true, true, true, true, true, false, true, true, true, true, true, false, true, false, false, false, false, false, false, false, false, false, false, false, false, false, false, false] rfl rfl (any_of HT_.out (by kernel_rfl)) (fun _ _ _ h => h) (Or.inl ⟨by rfl, ?_⟩) ?_ ?_
                                  rotate_left
                                  · intro w'
                                    go_simp
                                    with_reducible rfl
                                  rotate_left
                                  · simp only [Act.put, List.setIfInBounds_toArray, List.set_cons_zero, List.set_cons_succ, i64_w, i32_w]
                                    rfl
                                  refine pure_ (i := 13) (N := some 50) (v := ?_) (a' := ?_) #[true, true, true, true, true, false, true, true, true, true, true, false, true, true, false, false, false, false, false, false, false, false, false, false, false, false, false, false] rfl rfl (any_of HT_.out (by kernel_rfl)) (fun _ _ _ h => h) (Or.inl ⟨by rfl, ?_⟩) ?_ ?_
                                  rotate_left
                                  · intro w'
                                    go_simp
                                    with_reducible rfl
                                  rotate_left
                                  · simp only [Act.put, List.setIfInBounds_toArray, List.set_cons_zero, List.set_cons_succ, i64_w, i32_w]
                                    rfl
                                  refine pure_ (i := 14) (N := some 51) (v := ?_) (a' := ?_) #[true, true, true, true, true, false, true, true, true, true, true, false, true, true, true, false, false, false, false, false, false, false, false, false, false, false, false, false] rfl rfl (any_of HT_.out (by kernel_rfl)) (fun _ _ _ h => h) (Or.inl ⟨by rfl, ?_⟩) ?_ ?_
                                  rotate_left
                                  · intro w'
                                    go_simp
                                    with_reducible rfl
                                  rotate_left
                                  · simp only [Act.put, List.setIfInBounds_toArray, List.set_cons_zero, List.set_cons_succ, i64_w, i32_w]
                                    rfl
                                  refine pure_ (i := 15) (N := some 52) (v := ?_) (a' := ?_) #[true, true, true, true, true, false, true, true, true, true, true, false, true, true, true, true, false, false, false, false, false, false, false, false, false, false, false, false] rfl rfl (any_of HT_.out (by kernel_rfl)) (fun _ _ _ h => h) (Or.inl ⟨by rfl, ?_⟩) ?_ ?_
                                  rotate_left
                                  · intro w'
                                    go_simp
                                    with_reducible rfl
                                  rotate_left
                                  · simp only [Act.put, List.setIfInBounds_toArray, List.set_cons_zero, List.set_cons_succ, i64_w, i32_w]
                                    rfl
                                  refine pure_ (i := 17) (N := some 54) (v := ?_) (a' := ?_) #[true, true, true, true, true, false, true, true, true, true, true, false, true, true, true, true, false, true, false, false, false, false, false, false, false, false, false, false] rfl rfl (any_of HT_.out (by kernel_rfl)) (fun _ _ _ h => h) (Or.inl ⟨by rfl, ?_⟩) ?_ ?_
                                  rotate_left
                                  · intro w'
                                    go_simp
                                    with_reducible rfl
                                  rotate_left
                                  · simp only [Act.put, List.setIfInBounds_toArray, List.set_cons_zero, List.set_cons_succ, i64_w, i32_w]
                                    rfl
                                  refine pure_ (i := 18) (N := some 55) (v := ?_) (a' := ?_) #[true, true, true, true, true, false, true, true, true, true, true, false, true, true, true, true, false, true, true, false, false, false, false, false, false, false, false, false] rfl rfl (any_of HT_.out (by kernel_rfl)) (fun _ _ _ h => h) (Or.inl ⟨by rfl, ?_⟩) ?_ ?_
                                  rotate_left
                                  · intro w'
                                    go_simp
                                    with_reducible rfl
                                  rotate_left
                                  · simp only [Act.put, List.setIfInBounds_toArray, List.set_cons_zero, List.set_cons_succ, i64_w, i32_w]
                                    rfl
                                  refine pure_ (i := 19) (N := some 56) (v := ?_) (a' := ?_) #[true, true, true, true, true, false, true, true, true, true, true, false, true, true, true, true, false, true, true, true, false, false, false, false, false, false, false, false] rfl rfl (any_of HT_.out (by kernel_rfl)) (fun _ _ _ h => h) (Or.inl ⟨by rfl, ?_⟩) ?_ ?_
                                  rotate_left
                                  · intro w'
                                    go_simp
                                    with_reducible rfl
                                  rotate_left
                                  · simp only [Act.put, List.setIfInBounds_toArray, List.set_cons_zero, List.set_cons_succ, i64_w, i32_w]
                                    rfl
                                  refine pure_ (i := 20) (N := some 57) (v := ?_) (a' := ?_) #[true, true, true, true, true, false, true, true, true, true, true, false, true, true, true, true, false, true, true, true, true, false, false, false, false, false, false, false] rfl rfl (any_of HT_.out (by kernel_rfl)) (fun _ _ _ h => h) (Or.inl ⟨by rfl, ?_⟩) ?_ ?_
                                  rotate_left
                                  · intro w'
                                    go_simp
                                    with_reducible rfl
                                  rotate_left
                                  · simp only [Act.put, List.setIfInBounds_toArray, List.set_cons_zero, List.set_cons_succ, i64_w, i32_w]
                                    rfl
                                  refine take_ (i := 5) (N := some 42) (v := ?_) (a' := ?_) #[true, true, true, true, true, true, true, true, true, true, true, false, true, true, true, true, false, true, true, true, true, false, false, false, false, false, false, false] rfl rfl (take_ofW HT_.out HW_.out (by kernel_rfl)) (fun _ _ _ h => h) (Or.inl ⟨by rfl, ?_⟩) hHeld ?_ ?_
                                  rotate_left
                                  · rintro w' ⟨s0, s1, s2, s3, s4, s5, s6, s7, s8, s9, s10, s11, s12, s13, s14, s15⟩
                                    go_simp
                                    with_reducible rfl
                                  rotate_left
                                  · simp only [Act.put, List.setIfInBounds_toArray, List.set_cons_zero, List.set_cons_succ, i64_w, i32_w]
                                    rfl
                                  refine take_ (i := 11) (N := some 48) (v := ?_) (a' := ?_) #[true, true, true, true, true, true, true, true, true, true, true, true, true, true, true, true, false, true, true, true, true, false, false, false, false, false, false, false] rfl rfl (take_ofW HT_.out HW_.out (by kernel_rfl)) (fun _ _ _ h => h) (Or.inl ⟨by rfl, ?_⟩) hHeld ?_ ?_
                                  rotate_left
                                  · rintro w' ⟨s0, s1, s2, s3, s4, s5, s6, s7, s8, s9, s10, s11, s12, s13, s14, s15⟩
                                    go_simp
                                    with_reducible rfl
                                  rotate_left
                                  · simp only [Act.put, List.setIfInBounds_toArray, List.set_cons_zero, List.set_cons_succ, i64_w, i32_w]
                                    rfl
                                  refine take_ (i := 16) (N := some 53) (v := ?_) (a' := ?_) #[true, true, true, true, true, true, true, true, true, true, true, true, true, true, true, true, true, true, true, true, true, false, false, false, false, false, false, false] rfl rfl (take_ofW HT_.out HW_.out (by kernel_rfl)) (fun _ _ _ h => h) (Or.inl ⟨by rfl, ?_⟩) hHeld ?_ ?_
                                  rotate_left
                                  · rintro w' ⟨s0, s1, s2, s3, s4, s5, s6, s7, s8, s9, s10, s11, s12, s13, s14, s15⟩
                                    go_simp
                                    with_reducible rfl
                                  rotate_left
                                  · simp only [Act.put, List.setIfInBounds_toArray, List.set_cons_zero, List.set_cons_succ, i64_w, i32_w]
                                    rfl
                                  refine take_ (i := 21) (N := some 58) (v := ?_) (a' := ?_) #[true, true, true, true, true, true, true, true, true, true, true, true, true, true, true, true, true, true, true, true, true, true, false, false, false, false, false, false] rfl rfl (take_ofW HT_.out HW_.out (by kernel_rfl)) (fun _ _ _ h => h) (Or.inl ⟨by rfl, ?_⟩) hHeld ?_ ?_
                                  rotate_left
                                  · rintro w' ⟨s0, s1, s2, s3, s4, s5, s6, s7, s8, s9, s10, s11, s12, s13, s14, s15⟩
                                    go_simp
                                    with_reducible rfl
                                  rotate_left
                                  · simp only [Act.put, List.setIfInBounds_toArray, List.set_cons_zero, List.set_cons_succ, i64_w, i32_w]
                                    rfl
                                  refine one_ (i := 22) (N := some 59) #[true, true, true, true, true, true, true, true, true, true, true, true, true, true, true, true, true, true, true, true, true, true, true, false, false, false, false, false] rfl rfl (one_of HT_.out (by kernel_rfl)) (by decide) (fun K hK => ?_)
                                  refine goes_ Try.func20 (by kernel_rfl) rfl #[.int .u32 ((rd_T24 x0_3 (ji17)).f1), .int .u32 ((rd_T24 x0_3 (ji17)).f2), .int .u32 ((rd_T24 x0_3 x7_2).f1), .int .u32 ((rd_T24 x0_3 x7_2).f2)] (by rfl) rfl rfl (by (try simp only [List.map_toArray, List.map_cons, List.map_nil]); first | done | (simp only [hji17]; rfl) | rfl | (simp only [List.length_drop, List.length_take]; rfl)) ?_
                                  with_reducible refine (croftref03_Between.calls ((rd_T24 x0_3 (ji17)).f1) ((rd_T24 x0_3 (ji17)).f2) ((rd_T24 x0_3 x7_2).f1) ((rd_T24 x0_3 x7_2).f2) t496 t497 _ A21.out).mono ?_
                                  rintro e w' ⟨rfl, ⟨nd, rfl⟩⟩
                                  refine ⟨_, rfl, ?_⟩
                                  refine hK.out _ _ ⟨hHeld.1, hHeld.2.1, hHeld.2.2.1, hHeld.2.2.2.1, hHeld.2.2.2.2.1, hHeld.2.2.2.2.2.1, hHeld.2.2.2.2.2.2.1, hHeld.2.2.2.2.2.2.2.1, hHeld.2.2.2.2.2.2.2.2.1, hHeld.2.2.2.2.2.2.2.2.2.1, hHeld.2.2.2.2.2.2.2.2.2.2.1, hHeld.2.2.2.2.2.2.2.2.2.2.2.1, hHeld.2.2.2.2.2.2.2.2.2.2.2.2.1, hHeld.2.2.2.2.2.2.2.2.2.2.2.2.2.1, hHeld.2.2.2.2.2.2.2.2.2.2.2.2.2.2.1, hHeld.2.2.2.2.2.2.2.2.2.2.2.2.2.2.2⟩ (fun hHeld => ?_)
                                  clear hK K
                                  refine norm_ (a' := ?_) ?_ ?_
                                  rotate_left
                                  · show Act.put _ (some 59) _ = _
                                    simp only [Act.put, List.setIfInBounds_toArray, List.set_cons_zero, List.set_cons_succ, i64_w, i32_w]
                                    rfl
                                  refine pure_ (i := 23) (N := some 36) (v := ?_) (a' := ?_) #[true, true, true, true, true, true, true, true, true, true, true, true, true, true, true, true, true, true, true, true, true, true, true, true, false, false, false, false] rfl rfl (any_of HT_.out (by kernel_rfl)) (fun _ _ _ h => h) (Or.inl ⟨by rfl, ?_⟩) ?_ ?_
                                  rotate_left
                                  · intro w'
                                    go_simp
                                    with_reducible rfl
                                  rotate_left
                                  · simp only [Act.put, List.setIfInBounds_toArray, List.set_cons_zero, List.set_cons_succ, i64_w, i32_w]
                                    rfl
                                  refine pure_ (i := 24) (N := some 60) (v := ?_) (a' := ?_) #[true, true, true, true, true, true, true, true, true, true, true, true, true, true, true, true, true, true, true, true, true, true, true, true, true, false, false, false] rfl rfl (any_of HT_.out (by kernel_rfl)) (fun _ _ _ h => h) (Or.inl ⟨by rfl, ?_⟩) ?_ ?_
                                  rotate_left
                                  · intro w'
                                    go_simp
                                    with_reducible rfl
                                  rotate_left
                                  · simp only [Act.put, List.setIfInBounds_toArray, List.set_cons_zero, List.set_cons_succ, i64_w, i32_w]
                                    rfl
                                  refine pure_ (i := 25) (N := some 61) (v := ?_) (a' := ?_) #[true, true, true, true, true, true, true, true, true, true, true, true, true, true, true, true, true, true, true, true, true, true, true, true, true, true, false, false] rfl rfl (any_of HT_.out (by kernel_rfl)) (fun _ _ _ h => h) (Or.inl ⟨by rfl, ?_⟩) ?_ ?_
                                  rotate_left
                                  · intro w'
                                    go_simp
                                    with_reducible rfl
                                  rotate_left
                                  · simp only [Act.put, List.setIfInBounds_toArray, List.set_cons_zero, List.set_cons_succ, i64_w, i32_w]
                                    rfl
                                  refine pure_ (i := 26) (N := some 8) (v := ?_) (a' := ?_) #[true, true, true, true, true, true, true, true, true, true, true, true, true, true, true, true, true, true, true, true, true, true, true, true, true, true, true, false] rfl rfl (any_of HT_.out (by kernel_rfl)) (fun _ _ _ h => h) (Or.inl ⟨by rfl, ?_⟩) ?_ ?_
                                  rotate_left
                                  · intro w'
                                    go_simp
                                    with_reducible rfl
                                  rotate_left
                                  · simp only [Act.put, List.setIfInBounds_toArray, List.set_cons_zero, List.set_cons_succ, i64_w, i32_w]
                                    rfl
                                  refine pure_ (i := 27) (N := some 9) (v := ?_) (a' := ?_) #[true, true, true, true, true, true, true, true, true, true, true, true, true, true, true, true, true, true, true, true, true, true, true, true, true, true, true, true] rfl rfl (any_of HT_.out (by kernel_rfl)) (fun _ _ _ h => h) (Or.inl ⟨by rfl, ?_⟩) ?_ ?_
                                  rotate_left
                                  · intro w'
                                    go_simp
                                    with_reducible rfl
                                  rotate_left
                                  · simp only [Act.put, List.setIfInBounds_toArray, List.set_cons_zero, List.set_cons_succ, i64_w, i32_w]
                                    rfl
                                  refine done_ (done_of HT_.out (by kernel_rfl)) ?_
                                  have p498 : 0 ≤ ((ji17) : Int) := of_decide_eq_true (by first | (with_reducible assumption) | assumption)
                                  have q498 : (ji17) < (t484.length : Int) := of_decide_eq_true (by first | (with_reducible assumption) | assumption)
                                  obtain ⟨ad498, e498, hx498_0, hx498_1⟩ := at_T43 (Kd.R_reads' HO_3.out).2.2 (ji17) p498 q498
                                  cases e498
                                  replace p498 := eq_true p498
                                  replace q498 := eq_true q498
                                  have hcz33_0 : w32.cell? ⟨gb487, 0, none⟩ = some (.int .u64 x488000_2) := (blk_cell BK487.out 0).trans rfl
                                  have hcz33_1 : w32.cell? ⟨gb487, 1, none⟩ = some (.int .u64 x488001_2) := (blk_cell BK487.out 1).trans rfl
                                  have hfz33_0 := blk_frozen BK487.out 0
                                  have hfz33_1 := blk_frozen BK487.out 1
                                  try go_wp2
                                  have q0_ := Kd.V_drewN HO_0.out nd
                                  have q1_ := Kd.R_drewN HO_3.out nd
                                  have q2_ := blk_drewN BK487.out nd
                                  have q3_ := pw_below_drewN HB.out nd
                                  generalize w32.drewN nd = w32 at q0_ q1_ q2_ q3_ ⊢
                                  clear HO_0 HO_3 BK487 HB
                                  have HO_0 := Aside0.mk q0_
                                  have HO_3 := Aside0.mk q1_
                                  have BK487 := Aside0.mk q2_
                                  have HB := Aside0.mk q3_
                                  clear q0_ q1_ q2_ q3_
                                  have n0_ : Aside0 (Kd.V k24 24 (((w32.setCell ⟨gb487, 0, none⟩ (.int .u64 (IntKind.u64.wrap (x488000_2 + 1)))).setCell ⟨gb487, 0, none⟩ (.int .u64 (IntKind.u64.wrap ((IntKind.u64.wrap (x488000_2 + 1)) + t496)))).setCell ⟨gb487, 1, none⟩ (.int .u64 (IntKind.u64.wrap (x488001_2 + t497)))) w.heap.size (fun k_ => (P0_ k_ ∨ w.heap.size ≤ k_) ∧ some k_ ≠ (.slice (some ad498) t484.length co15 : Value).ownBlock ∧ k_ ≠ gb487) (.slice (some ad492) x0_3.length co12) x0_3) := ⟨by (with_reducible repeat (first | apply Kd.V_alloc | apply Kd.V_drewN | apply Kd.V_drew)); exact Kd.V_mono (Kd.V_far (p := ⟨gb487, 1, none⟩) (Kd.V_far (p := ⟨gb487, 0, none⟩) (Kd.V_far (p := ⟨gb487, 0, none⟩) (Kd.V_mono HO_0.out (fun k_ hk => (⟨hk, hk.2.2⟩ : _ ∧ k_ ≠ gb487))) (fun _ hk => hk.2) (.int .u64 (IntKind.u64.wrap (x488000_2 + 1)))) (fun _ hk => hk.2) (.int .u64 (IntKind.u64.wrap ((IntKind.u64.wrap (x488000_2 + 1)) + t496)))) (fun _ hk => hk.2) (.int .u64 (IntKind.u64.wrap (x488001_2 + t497)))) (fun _ hk => ⟨hk.1.1, ⟨hk.1.2.1, hk.1.2.2⟩⟩)⟩
                                  have n1_ : Aside0 (Kd.R k43 43 (((w32.setCell ⟨gb487, 0, none⟩ (.int .u64 (IntKind.u64.wrap (x488000_2 + 1)))).setCell ⟨gb487, 0, none⟩ (.int .u64 (IntKind.u64.wrap ((IntKind.u64.wrap (x488000_2 + 1)) + t496)))).setCell ⟨gb487, 1, none⟩ (.int .u64 (IntKind.u64.wrap (x488001_2 + t497)))) w.heap.size (fun k_ => (w.heap.size ≤ k_) ∧ k_ ≠ gb487) (.slice (some ad498) t484.length co15) t484) := ⟨by (with_reducible repeat (first | apply Kd.R_alloc | apply Kd.R_drewN | apply Kd.R_drew)); exact Kd.R_mono (Kd.R_far (p := ⟨gb487, 1, none⟩) (Kd.R_far (p := ⟨gb487, 0, none⟩) (Kd.R_far (p := ⟨gb487, 0, none⟩) (Kd.R_mono HO_3.out (fun k_ hk => (⟨hk, hk.2⟩ : _ ∧ k_ ≠ gb487))) (fun _ hk => hk.2) (.int .u64 (IntKind.u64.wrap (x488000_2 + 1)))) (fun _ hk => hk.2) (.int .u64 (IntKind.u64.wrap ((IntKind.u64.wrap (x488000_2 + 1)) + t496)))) (fun _ hk => hk.2) (.int .u64 (IntKind.u64.wrap (x488001_2 + t497)))) (fun _ hk => ⟨hk.1.1, hk.1.2⟩)⟩
                                  have n2_ : Aside0 ((((w32.setCell ⟨gb487, 0, none⟩ (.int .u64 (IntKind.u64.wrap (x488000_2 + 1)))).setCell ⟨gb487, 0, none⟩ (.int .u64 (IntKind.u64.wrap ((IntKind.u64.wrap (x488000_2 + 1)) + t496)))).setCell ⟨gb487, 1, none⟩ (.int .u64 (IntKind.u64.wrap (x488001_2 + t497)))).heap[gb487]? = some (.cells #[.int .u64 (IntKind.u64.wrap ((IntKind.u64.wrap (x488000_2 + 1)) + t496)), .int .u64 (IntKind.u64.wrap (x488001_2 + t497))] 43 (0, 0))) := ⟨by (with_reducible repeat (first | refine blk_drewN ?_ _ | refine blk_drew ?_ | refine blk_alloc ?_ _)); refine blk_put (cs := #[.int .u64 (IntKind.u64.wrap ((IntKind.u64.wrap (x488000_2 + 1)) + t496)), .int .u64 x488001_2]) ?_ 1 _ rfl; (with_reducible repeat (first | refine blk_drewN ?_ _ | refine blk_drew ?_ | refine blk_alloc ?_ _)); refine blk_put (cs := #[.int .u64 (IntKind.u64.wrap (x488000_2 + 1)), .int .u64 x488001_2]) ?_ 0 _ rfl; (with_reducible repeat (first | refine blk_drewN ?_ _ | refine blk_drew ?_ | refine blk_alloc ?_ _)); refine blk_put (cs := #[.int .u64 x488000_2, .int .u64 x488001_2]) ?_ 0 _ rfl; (with_reducible repeat (first | refine blk_drewN ?_ _ | refine blk_drew ?_ | refine blk_alloc ?_ _)); exact BK487.out⟩
                                  have n3_ : Aside0 (Below w.heap.size w (((w32.setCell ⟨gb487, 0, none⟩ (.int .u64 (IntKind.u64.wrap (x488000_2 + 1)))).setCell ⟨gb487, 0, none⟩ (.int .u64 (IntKind.u64.wrap ((IntKind.u64.wrap (x488000_2 + 1)) + t496)))).setCell ⟨gb487, 1, none⟩ (.int .u64 (IntKind.u64.wrap (x488001_2 + t497))))) := ⟨by repeat (first | (with_reducible first | exact HB.out | apply below_alloc | apply pw_below_drewN | apply below_drew1 | refine below_set ?_ GE487.out) | exact HB.out)⟩
                                  (try clear HO_0)
                                  (try clear HO_3)
                                  (try clear BK487)
                                  (try clear HB)
                                  generalize (((w32.setCell ⟨gb487, 0, none⟩ (.int .u64 (IntKind.u64.wrap (x488000_2 + 1)))).setCell ⟨gb487, 0, none⟩ (.int .u64 (IntKind.u64.wrap ((IntKind.u64.wrap (x488000_2 + 1)) + t496)))).setCell ⟨gb487, 1, none⟩ (.int .u64 (IntKind.u64.wrap (x488001_2 + t497)))) = w34 at n0_ n1_ n2_ n3_ ⊢
                                  have HO_0 := n0_
                                  have HO_3 := n1_
                                  have BK487 := n2_
                                  have HB := n3_
                                  clear n0_ n1_ n2_ n3_
                                  (try (rw [drewN_self w34]; generalize hq_ : World.drewN w34 _ = w34; have n0_ : Aside0 (Kd.V k24 24 w34 w.heap.size (fun k_ => (P0_ k_ ∨ w.heap.size ≤ k_) ∧ some k_ ≠ (.slice (some ad498) t484.length co15 : Value).ownBlock ∧ k_ ≠ gb487) (.slice (some ad492) x0_3.length co12) x0_3) := ⟨by rw [← hq_]; exact (by (with_reducible repeat (first | apply Kd.V_alloc | apply Kd.V_drewN | apply Kd.V_drew)); exact HO_0.out)⟩; have n1_ : Aside0 (Kd.R k43 43 w34 w.heap.size (fun k_ => (w.heap.size ≤ k_) ∧ k_ ≠ gb487) (.slice (some ad498) t484.length co15) t484) := ⟨by rw [← hq_]; exact (by (with_reducible repeat (first | apply Kd.R_alloc | apply Kd.R_drewN | apply Kd.R_drew)); exact HO_3.out)⟩; have n2_ : Aside0 (w34.heap[gb487]? = some (.cells #[.int .u64 (IntKind.u64.wrap ((IntKind.u64.wrap (x488000_2 + 1)) + t496)), .int .u64 (IntKind.u64.wrap (x488001_2 + t497))] 43 (0, 0))) := ⟨by rw [← hq_]; exact (by (with_reducible repeat (first | refine blk_drewN ?_ _ | refine blk_drew ?_ | refine blk_alloc ?_ _)); exact BK487.out)⟩; have n3_ : Aside0 (Below w.heap.size w w34) := ⟨by rw [← hq_]; exact (by repeat (first | (with_reducible first | exact HB.out | apply below_alloc | apply pw_below_drewN | apply below_drew1 | refine below_set ?_ GE487.out) | exact HB.out))⟩; clear HO_0 HO_3 BK487 HB hq_; have HO_0 := n0_; have HO_3 := n1_; have BK487 := n2_; have HB := n3_; clear n0_ n1_ n2_ n3_))
                                  have n0_ := Aside0.mk (Kd.V_drew HO_0.out)
                                  have n1_ := Aside0.mk (Kd.R_drew HO_3.out)
                                  have n2_ := Aside0.mk (blk_drew BK487.out)
                                  have n3_ := Aside0.mk (below_drew1 HB.out)
                                  clear HO_0
                                  clear HO_3
                                  clear BK487
                                  clear HB
                                  have HO_0 := n0_
                                  have HO_3 := n1_
                                  have BK487 := n2_
                                  have HB := n3_
                                  clear n0_ n1_ n2_ n3_
                                  have p499 : 0 ≤ ((ji26) : Int) := of_decide_eq_true (by first | (with_reducible assumption) | assumption)
                                  have q499 : (ji26) < (x0_3.length : Int) := of_decide_eq_true (by first | (with_reducible assumption) | assumption)
                                  obtain ⟨ad499, e499, hx499_0, hx499_1, hx499_2, hx499_3⟩ := at_T24 (Kd.V_reads' HO_0.out).2.2 (ji26) p499 q499
                                  obtain rfl : ad492 = ad499 := (by injection e499)
                                  replace p499 := eq_true p499
                                  replace q499 := eq_true q499
                                  have p500 : 0 ≤ ((ji17) : Int) := of_decide_eq_true (by first | (with_reducible assumption) | assumption)
                                  have q500 : (ji17) < (x0_3.length : Int) := of_decide_eq_true (by first | (with_reducible assumption) | assumption)
                                  obtain ⟨ad500, e500, hx500_0, hx500_1, hx500_2, hx500_3⟩ := at_T24 (Kd.V_reads' HO_0.out).2.2 (ji17) p500 q500
                                  obtain rfl : ad492 = ad500 := (by injection e500)
                                  replace p500 := eq_true p500
                                  replace q500 := eq_true q500
                                  have p501 : 0 ≤ (x7_2 : Int) := of_decide_eq_true (by first | (with_reducible assumption) | assumption)
                                  have q501 : x7_2 < (x0_3.length : Int) := of_decide_eq_true (by first | (with_reducible assumption) | assumption)
                                  obtain ⟨ad501, e501, hx501_0, hx501_1, hx501_2, hx501_3⟩ := at_T24 (Kd.V_reads' HO_0.out).2.2 x7_2 p501 q501
                                  obtain rfl : ad492 = ad501 := (by injection e501)
                                  replace p501 := eq_true p501
                                  replace q501 := eq_true q501
                                  refine start_ (n := 16) (S := fun w' => w'.cell? (ad492.add (((ji26)).toNat * 4)) = some (.int .i64 ((rd_T24 x0_3 (ji26)).f0)) ∧ w'.cell? ⟨(ad492.add (((ji26)).toNat * 4)).block, (ad492.add (((ji26)).toNat * 4)).off + 1, none⟩ = some (.int .u32 ((rd_T24 x0_3 (ji26)).f1)) ∧ w'.cell? ⟨(ad492.add (((ji26)).toNat * 4)).block, (ad492.add (((ji26)).toNat * 4)).off + 2, none⟩ = some (.int .u32 ((rd_T24 x0_3 (ji26)).f2)) ∧ w'.cell? ⟨(ad492.add (((ji26)).toNat * 4)).block, (ad492.add (((ji26)).toNat * 4)).off + 3, none⟩ = some (.string ((rd_T24 x0_3 (ji26)).f3)) ∧ w'.cell? (ad492.add (((ji17)).toNat * 4)) = some (.int .i64 ((rd_T24 x0_3 (ji17)).f0)) ∧ w'.cell? ⟨(ad492.add (((ji17)).toNat * 4)).block, (ad492.add (((ji17)).toNat * 4)).off + 1, none⟩ = some (.int .u32 ((rd_T24 x0_3 (ji17)).f1)) ∧ w'.cell? ⟨(ad492.add (((ji17)).toNat * 4)).block, (ad492.add (((ji17)).toNat * 4)).off + 2, none⟩ = some (.int .u32 ((rd_T24 x0_3 (ji17)).f2)) ∧ w'.cell? ⟨(ad492.add (((ji17)).toNat * 4)).block, (ad492.add (((ji17)).toNat * 4)).off + 3, none⟩ = some (.string ((rd_T24 x0_3 (ji17)).f3)) ∧ w'.cell? (ad492.add ((x7_2).toNat * 4)) = some (.int .i64 ((rd_T24 x0_3 x7_2).f0)) ∧ w'.cell? ⟨(ad492.add ((x7_2).toNat * 4)).block, (ad492.add ((x7_2).toNat * 4)).off + 1, none⟩ = some (.int .u32 ((rd_T24 x0_3 x7_2).f1)) ∧ w'.cell? ⟨(ad492.add ((x7_2).toNat * 4)).block, (ad492.add ((x7_2).toNat * 4)).off + 2, none⟩ = some (.int .u32 ((rd_T24 x0_3 x7_2).f2)) ∧ w'.cell? ⟨(ad492.add ((x7_2).toNat * 4)).block, (ad492.add ((x7_2).toNat * 4)).off + 3, none⟩ = some (.string ((rd_T24 x0_3 x7_2).f3))) (ds := []) #[false, false, false, false, false, false, false, false, false, false, false, false, false, false, false, false] (by kernel_rfl) rfl rfl ⟨hx499_0, hx499_1, hx499_2, hx499_3, hx500_0, hx500_1, hx500_2, hx500_3, hx501_0, hx501_1, hx501_2, hx501_3⟩ (fun hHeld => ?_); refine with_tabW croftlaw46_TrackLegs.tab21 croftlaw46_TrackLegs.bits21 (fun HT_ HW_ => ?_)
                                  generalize w34.drew = w35 at HO_0 HO_3 BK487 HB hx499_0 hx499_1 hx499_2 hx499_3 hx500_0 hx500_1 hx500_2 hx500_3 hx501_0 hx501_1 hx501_2 hx501_3 hHeld ⊢
                                  refine pure_ (i := 0) (N := some 90) (v := ?_) (a' := ?_) #[true, false, false, false, false, false, false, false, false, false, false, false, false, false, false, false] rfl rfl (any_of HT_.out (by kernel_rfl)) (fun _ _ _ h => h) (Or.inl ⟨by rfl, ?_⟩) ?_ ?_
                                  rotate_left
                                  · intro w'
                                    go_simp
                                    with_reducible rfl
                                  rotate_left
                                  · simp only [Act.put, List.setIfInBounds_toArray, List.set_cons_zero, List.set_cons_succ, i64_w, i32_w]
                                    rfl
                                  refine pure_ (i := 1) (N := some 91) (v := ?_) (a' := ?_) #[true, true, false, false, false, false, false, false, false, false, false, false, false, false, false, false] rfl rfl (any_of HT_.out (by kernel_rfl)) (fun _ _ _ h => h) (Or.inl ⟨by rfl, ?_⟩) ?_ ?_
                                  rotate_left
                                  · intro w'
                                    go_simp
                                    with_reducible rfl
                                  rotate_left
                                  · simp only [Act.put, List.setIfInBounds_toArray, List.set_cons_zero, List.set_cons_succ, i64_w, i32_w]
                                    rfl
                                  refine pure_ (i := 2) (N := some 92) (v := ?_) (a' := ?_) #[true, true, true, false, false, false, false, false, false, false, false, false, false, false, false, false] rfl rfl (any_of HT_.out (by kernel_rfl)) (fun _ _ _ h => h) (Or.inl ⟨by rfl, ?_⟩) ?_ ?_
                                  rotate_left
                                  · intro w'
                                    go_simp
                                    with_reducible rfl
                                  rotate_left
                                  · simp only [Act.put, List.setIfInBounds_toArray, List.set_cons_zero, List.set_cons_succ, i64_w, i32_w]
                                    rfl
                                  refine pure_ (i := 3) (N := some 93) (v := ?_) (a' := ?_) #[true, true, true, true, false, false, false, false, false, false, false, false, false, false, false, false] rfl rfl (any_of HT_.out (by kernel_rfl)) (fun _ _ _ h => h) (Or.inl ⟨by rfl, ?_⟩) ?_ ?_
                                  rotate_left
                                  · intro w'
                                    go_simp
                                    with_reducible rfl
                                  rotate_left
                                  · simp only [Act.put, List.setIfInBounds_toArray, List.set_cons_zero, List.set_cons_succ, i64_w, i32_w]
                                    rfl
                                  refine pure_ (i := 5) (N := some 95) (v := ?_) (a' := ?_) #[true, true, true, true, false, true, false, false, false, false, false, false, false, false, false, false] rfl rfl (any_of HT_.out (by kernel_rfl)) (fun _ _ _ h => h) (Or.inl ⟨by rfl, ?_⟩) ?_ ?_
                                  rotate_left
                                  · intro w'
                                    go_simp
                                    with_reducible rfl
                                  rotate_left
                                  · simp only [Act.put, List.setIfInBounds_toArray, List.set_cons_zero, List.set_cons_succ, i64_w, i32_w]
                                    rfl
                                  refine pure_ (i := 6) (N := some 96) (v := ?_) (a' := ?_) #[true, true, true, true, false, true, true, false, false, false, false, false, false, false, false, false] rfl rfl (any_of HT_.out (by kernel_rfl)) (fun _ _ _ h => h) (Or.inl ⟨by rfl, ?_⟩) ?_ ?_
                                  rotate_left
                                  · intro w'
                                    go_simp
                                    with_reducible rfl
                                  rotate_left
                                  · simp only [Act.put, List.setIfInBounds_toArray, List.set_cons_zero, List.set_cons_succ, i64_w, i32_w]
                                    rfl
                                  refine pure_ (i := 7) (N := some 97) (v := ?_) (a' := ?_) #[true, true, true, true, false, true, true, true, false, false, false, false, false, false, false, false] rfl rfl (any_of HT_.out (by kernel_rfl)) (fun _ _ _ h => h) (Or.inl ⟨by rfl, ?_⟩) ?_ ?_
                                  rotate_left
                                  · intro w'
                                    go_simp
                                    with_reducible rfl
                                  rotate_left
                                  · simp only [Act.put, List.setIfInBounds_toArray, List.set_cons_zero, List.set_cons_succ, i64_w, i32_w]
                                    rfl
                                  refine pure_ (i := 8) (N := some 98) (v := ?_) (a' := ?_) #[true, true, true, true, false, true, true, true, true, false, false, false, false, false, false, false] rfl rfl (any_of HT_.out (by kernel_rfl)) (fun _ _ _ h => h) (Or.inl ⟨by rfl, ?_⟩) ?_ ?_
                                  rotate_left
                                  · intro w'
                                    go_simp
                                    with_reducible rfl
                                  rotate_left
                                  · simp only [Act.put, List.setIfInBounds_toArray, List.set_cons_zero, List.set_cons_succ, i64_w, i32_w]
                                    rfl
                                  refine pure_ (i := 10) (N := some 100) (v := ?_) (a' := ?_) #[true, true, true, true, false, true, true, true, true, false, true, false, false, false, false, false] rfl rfl (any_of HT_.out (by kernel_rfl)) (fun _ _ _ h => h) (Or.inl ⟨by rfl, ?_⟩) ?_ ?_
                                  rotate_left
                                  · intro w'
                                    go_simp
                                    with_reducible rfl
                                  rotate_left
                                  · simp only [Act.put, List.setIfInBounds_toArray, List.set_cons_zero, List.set_cons_succ, i64_w, i32_w]
                                    rfl
                                  refine pure_ (i := 11) (N := some 101) (v := ?_) (a' := ?_) #[true, true, true, true, false, true, true, true, true, false, true, true, false, false, false, false] rfl rfl (any_of HT_.out (by kernel_rfl)) (fun _ _ _ h => h) (Or.inl ⟨by rfl, ?_⟩) ?_ ?_
                                  rotate_left
                                  · intro w'
                                    go_simp
                                    with_reducible rfl
                                  rotate_left
                                  · simp only [Act.put, List.setIfInBounds_toArray, List.set_cons_zero, List.set_cons_succ, i64_w, i32_w]
                                    rfl
                                  refine pure_ (i := 12) (N := some 102) (v := ?_) (a' := ?_) #[true, true, true, true, false, true, true, true, true, false, true, true, true, false, false, false] rfl rfl (any_of HT_.out (by kernel_rfl)) (fun _ _ _ h => h) (Or.inl ⟨by rfl, ?_⟩) ?_ ?_
                                  rotate_left
                                  · intro w'
                                    go_simp
                                    with_reducible rfl
                                  rotate_left
                                  · simp only [Act.put, List.setIfInBounds_toArray, List.set_cons_zero, List.set_cons_succ, i64_w, i32_w]
                                    rfl
                                  refine take_ (i := 4) (N := some 94) (v := ?_) (a' := ?_) #[true, true, true, true, true, true, true, true, true, false, true, true, true, false, false, false] rfl rfl (take_ofW HT_.out HW_.out (by kernel_rfl)) (fun _ _ _ h => h) (Or.inl ⟨by rfl, ?_⟩) hHeld ?_ ?_
                                  rotate_left
                                  · rintro w' ⟨s0, s1, s2, s3, s4, s5, s6, s7, s8, s9, s10, s11⟩
                                    go_simp
                                    with_reducible rfl
                                  rotate_left
                                  · simp only [Act.put, List.setIfInBounds_toArray, List.set_cons_zero, List.set_cons_succ, i64_w, i32_w]
                                    rfl
                                  refine take_ (i := 9) (N := some 99) (v := ?_) (a' := ?_) #[true, true, true, true, true, true, true, true, true, true, true, true, true, false, false, false] rfl rfl (take_ofW HT_.out HW_.out (by kernel_rfl)) (fun _ _ _ h => h) (Or.inl ⟨by rfl, ?_⟩) hHeld ?_ ?_
                                  rotate_left
                                  · rintro w' ⟨s0, s1, s2, s3, s4, s5, s6, s7, s8, s9, s10, s11⟩
                                    go_simp
                                    with_reducible rfl
                                  rotate_left
                                  · simp only [Act.put, List.setIfInBounds_toArray, List.set_cons_zero, List.set_cons_succ, i64_w, i32_w]
                                    rfl
                                  refine take_ (i := 13) (N := some 103) (v := ?_) (a' := ?_) #[true, true, true, true, true, true, true, true, true, true, true, true, true, true, false, false] rfl rfl (take_ofW HT_.out HW_.out (by kernel_rfl)) (fun _ _ _ h => h) (Or.inl ⟨by rfl, ?_⟩) hHeld ?_ ?_
                                  rotate_left
                                  · rintro w' ⟨s0, s1, s2, s3, s4, s5, s6, s7, s8, s9, s10, s11⟩
                                    go_simp
                                    with_reducible rfl
                                  rotate_left
                                  · simp only [Act.put, List.setIfInBounds_toArray, List.set_cons_zero, List.set_cons_succ, i64_w, i32_w]
                                    rfl
                                  refine one_ (i := 14) (N := some 104) #[true, true, true, true, true, true, true, true, true, true, true, true, true, true, true, false] rfl rfl (one_of HT_.out (by kernel_rfl)) (by decide) (fun K hK => ?_)
                                  refine goes_ Try.func14 (by kernel_rfl) rfl #[.agg #[.int .i64 ((rd_T24 x0_3 (ji26)).f0), .int .u32 ((rd_T24 x0_3 (ji26)).f1), .int .u32 ((rd_T24 x0_3 (ji26)).f2), .string ((rd_T24 x0_3 (ji26)).f3)], .agg #[.int .i64 ((rd_T24 x0_3 (ji17)).f0), .int .u32 ((rd_T24 x0_3 (ji17)).f1), .int .u32 ((rd_T24 x0_3 (ji17)).f2), .string ((rd_T24 x0_3 (ji17)).f3)], .agg #[.int .i64 ((rd_T24 x0_3 x7_2).f0), .int .u32 ((rd_T24 x0_3 x7_2).f1), .int .u32 ((rd_T24 x0_3 x7_2).f2), .string ((rd_T24 x0_3 x7_2).f3)]] (by rfl) rfl rfl (by (try simp only [List.map_toArray, List.map_cons, List.map_nil]); first | done | (simp only [hji17, hji26]; rfl) | rfl | (simp only [List.length_drop, List.length_take]; rfl)) ?_
                                  with_reducible refine (poly_Turn.calls k2 ((rd_T24 x0_3 (ji26)).f0) ((rd_T24 x0_3 (ji26)).f1) ((rd_T24 x0_3 (ji26)).f2) ((rd_T24 x0_3 (ji26)).f3) ((rd_T24 x0_3 (ji17)).f0) ((rd_T24 x0_3 (ji17)).f1) ((rd_T24 x0_3 (ji17)).f2) ((rd_T24 x0_3 (ji17)).f3) ((rd_T24 x0_3 x7_2).f0) ((rd_T24 x0_3 x7_2).f1) ((rd_T24 x0_3 x7_2).f2) ((rd_T24 x0_3 x7_2).f3) t502 _ A29.out).mono ?_
                                  rintro e w36 ⟨rfl, hb⟩
                                  have HS0_ := (hb.cell (World.block_lt_of_cell? _ _ (hHeld.1))).trans (hHeld.1)
                                  have HS1_ := (hb.cell (World.block_lt_of_cell? _ _ (hHeld.2.1))).trans (hHeld.2.1)
                                  have HS2_ := (hb.cell (World.block_lt_of_cell? _ _ (hHeld.2.2.1))).trans (hHeld.2.2.1)
                                  have HS3_ := (hb.cell (World.block_lt_of_cell? _ _ (hHeld.2.2.2.1))).trans (hHeld.2.2.2.1)
                                  have HS4_ := (hb.cell (World.block_lt_of_cell? _ _ (hHeld.2.2.2.2.1))).trans (hHeld.2.2.2.2.1)
                                  have HS5_ := (hb.cell (World.block_lt_of_cell? _ _ (hHeld.2.2.2.2.2.1))).trans (hHeld.2.2.2.2.2.1)
                                  have HS6_ := (hb.cell (World.block_lt_of_cell? _ _ (hHeld.2.2.2.2.2.2.1))).trans (hHeld.2.2.2.2.2.2.1)
                                  have HS7_ := (hb.cell (World.block_lt_of_cell? _ _ (hHeld.2.2.2.2.2.2.2.1))).trans (hHeld.2.2.2.2.2.2.2.1)
                                  have HS8_ := (hb.cell (World.block_lt_of_cell? _ _ (hHeld.2.2.2.2.2.2.2.2.1))).trans (hHeld.2.2.2.2.2.2.2.2.1)
                                  have HS9_ := (hb.cell (World.block_lt_of_cell? _ _ (hHeld.2.2.2.2.2.2.2.2.2.1))).trans (hHeld.2.2.2.2.2.2.2.2.2.1)
                                  have HS10_ := (hb.cell (World.block_lt_of_cell? _ _ (hHeld.2.2.2.2.2.2.2.2.2.2.1))).trans (hHeld.2.2.2.2.2.2.2.2.2.2.1)
                                  have HS11_ := (hb.cell (World.block_lt_of_cell? _ _ (hHeld.2.2.2.2.2.2.2.2.2.2.2))).trans (hHeld.2.2.2.2.2.2.2.2.2.2.2)
                                  refine ⟨_, rfl, ?_⟩
                                  have n0_ := Aside0.mk (Kd.V_below (by (with_reducible repeat (first | apply Kd.V_alloc | apply Kd.V_drewN | apply Kd.V_drew)); exact HO_0.out) hb)
                                  have n1_ := Aside0.mk (Kd.R_below (by (with_reducible repeat (first | apply Kd.R_alloc | apply Kd.R_drewN | apply Kd.R_drew)); exact HO_3.out) hb)
                                  have n2_ := Aside0.mk (blk_below (g := gb487) (o := .cells #[.int .u64 (IntKind.u64.wrap ((IntKind.u64.wrap (x488000_2 + 1)) + t496)), .int .u64 (IntKind.u64.wrap (x488001_2 + t497))] 43 (0, 0)) (by (with_reducible repeat (first | refine blk_drewN ?_ _ | refine blk_drew ?_ | refine blk_alloc ?_ _)); exact BK487.out) hb)
                                  have n3_ := Aside0.mk (below_step (by repeat (first | (with_reducible first | exact HB.out | apply below_alloc | apply pw_below_drewN | apply below_drew1 | refine below_set ?_ GE487.out) | exact HB.out)) hb)
                                  clear HO_0
                                  clear HO_3
                                  clear BK487
                                  clear HB
                                  have HO_0 := n0_
                                  have HO_3 := n1_
                                  have BK487 := n2_
                                  have HB := n3_
                                  clear n0_ n1_ n2_ n3_
                                  (try clear hb)
                                  (try clear hb2)
                                  (try clear hk)
                                  (try clear hi)
                                  refine hK.out _ _ ⟨HS0_, HS1_, HS2_, HS3_, HS4_, HS5_, HS6_, HS7_, HS8_, HS9_, HS10_, HS11_⟩ (fun hHeld => ?_)
                                  clear hK K
                                  refine norm_ (a' := ?_) ?_ ?_
                                  rotate_left
                                  · show Act.put _ (some 104) _ = _
                                    simp only [Act.put, List.setIfInBounds_toArray, List.set_cons_zero, List.set_cons_succ, i64_w, i32_w]
                                    rfl
                                  refine pure_ (i := 15) (N := some 11) (v := ?_) (a' := ?_) #[true, true, true, true, true, true, true, true, true, true, true, true, true, true, true, true] rfl rfl (any_of HT_.out (by kernel_rfl)) (fun _ _ _ h => h) (Or.inl ⟨by rfl, ?_⟩) ?_ ?_
                                  rotate_left
                                  · intro w'
                                    go_simp
                                    with_reducible rfl
                                  rotate_left
                                  · simp only [Act.put, List.setIfInBounds_toArray, List.set_cons_zero, List.set_cons_succ, i64_w, i32_w]
                                    rfl
                                  refine done_ (done_of HT_.out (by kernel_rfl)) ?_
                                  try go_wp2
                                  go_roundg k2
                                  case measure => have := HJ3.out; have := HK2.out; omega
                                  case rel => exact ⟨(wrap64 (x5_2 + (ji30))), (wrap64 (x6_2 + (ji31))), (wrap64 (x7_2 + 1)), (IntKind.u64.wrap ((IntKind.u64.wrap (x488000_2 + 1)) + t496)), (IntKind.u64.wrap (x488001_2 + t497)), (by first | rfl | (simp; done) | (simp only [← hji30] <;> (first | rfl | simp)) | (simp [*]; done)), (by first | rfl | (simp; done) | (simp only [← hji31] <;> (first | rfl | simp)) | (simp [*]; done)), (by first | rfl | (simp; done) | (simp [*]; done)), H', ⟨by have := HJ3.out; have := HK2.out; omega⟩, ⟨by (with_reducible repeat (first | apply Kd.V_alloc | apply Kd.V_drewN | apply Kd.V_drew)); exact HO_0.out⟩, ⟨by (with_reducible repeat (first | apply Kd.R_alloc | apply Kd.R_drewN | apply Kd.R_drew)); exact HO_3.out⟩, ⟨by (with_reducible repeat (first | refine blk_drewN ?_ _ | refine blk_drew ?_ | refine blk_alloc ?_ _)); exact BK487.out⟩, ⟨by repeat (first | (with_reducible first | exact HB.out | apply below_alloc | apply pw_below_drewN | apply below_drew1 | refine below_set ?_ GE487.out) | exact HB.out)⟩⟩
                                · rw [if_neg c28] at H
                                  exact absurd H (by simp)
                              · rw [if_neg c27] at H
                                exact absurd H (by simp)
                            · rw [if_neg c25] at H
                              have c25b0 : decide (1 < x7_2) = false := decide_eq_false c25
                              clear c25
                              have H' := Aside0.mk H
                              clear H
                              try go_wp2
                              have n0_ := Aside0.mk (Kd.V_drew HO_0.out)
                              have n1_ := Aside0.mk (Kd.R_drew HO_3.out)
                              have n2_ := Aside0.mk (blk_drew BK487.out)
                              have n3_ := Aside0.mk (below_drew1 HB.out)
                              clear HO_0
                              clear HO_3
                              clear BK487
                              clear HB
                              have HO_0 := n0_
                              have HO_3 := n1_
                              have BK487 := n2_
                              have HB := n3_
                              clear n0_ n1_ n2_ n3_
                              have p492 : 0 ≤ ((ji17) : Int) := of_decide_eq_true (by first | (with_reducible assumption) | assumption)
                              have q492 : (ji17) < (x0_3.length : Int) := of_decide_eq_true (by first | (with_reducible assumption) | assumption)
                              obtain ⟨ad492, e492, hx492_0, hx492_1, hx492_2, hx492_3⟩ := at_T24 (Kd.V_reads' HO_0.out).2.2 (ji17) p492 q492
                              cases e492
                              replace p492 := eq_true p492
                              replace q492 := eq_true q492
                              have p493 : 0 ≤ ((ji17) : Int) := of_decide_eq_true (by first | (with_reducible assumption) | assumption)
                              have q493 : (ji17) < (x0_3.length : Int) := of_decide_eq_true (by first | (with_reducible assumption) | assumption)
                              obtain ⟨ad493, e493, hx493_0, hx493_1, hx493_2, hx493_3⟩ := at_T24 (Kd.V_reads' HO_0.out).2.2 (ji17) p493 q493
                              obtain rfl : ad492 = ad493 := (by injection e493)
                              replace p493 := eq_true p493
                              replace q493 := eq_true q493
                              have p494 : 0 ≤ (x7_2 : Int) := of_decide_eq_true (by first | (with_reducible assumption) | assumption)
                              have q494 : x7_2 < (x0_3.length : Int) := of_decide_eq_true (by first | (with_reducible assumption) | assumption)
                              obtain ⟨ad494, e494, hx494_0, hx494_1, hx494_2, hx494_3⟩ := at_T24 (Kd.V_reads' HO_0.out).2.2 x7_2 p494 q494
                              obtain rfl : ad492 = ad494 := (by injection e494)
                              replace p494 := eq_true p494
                              replace q494 := eq_true q494
                              have p495 : 0 ≤ (x7_2 : Int) := of_decide_eq_true (by first | (with_reducible assumption) | assumption)
                              have q495 : x7_2 < (x0_3.length : Int) := of_decide_eq_true (by first | (with_reducible assumption) | assumption)
                              obtain ⟨ad495, e495, hx495_0, hx495_1, hx495_2, hx495_3⟩ := at_T24 (Kd.V_reads' HO_0.out).2.2 x7_2 p495 q495
                              obtain rfl : ad492 = ad495 := (by injection e495)
                              replace p495 := eq_true p495
                              replace q495 := eq_true q495
                              refine start_ (n := 28) (S := fun w' => w'.cell? (ad492.add (((ji17)).toNat * 4)) = some (.int .i64 ((rd_T24 x0_3 (ji17)).f0)) ∧ w'.cell? ⟨(ad492.add (((ji17)).toNat * 4)).block, (ad492.add (((ji17)).toNat * 4)).off + 1, none⟩ = some (.int .u32 ((rd_T24 x0_3 (ji17)).f1)) ∧ w'.cell? ⟨(ad492.add (((ji17)).toNat * 4)).block, (ad492.add (((ji17)).toNat * 4)).off + 2, none⟩ = some (.int .u32 ((rd_T24 x0_3 (ji17)).f2)) ∧ w'.cell? ⟨(ad492.add (((ji17)).toNat * 4)).block, (ad492.add (((ji17)).toNat * 4)).off + 3, none⟩ = some (.string ((rd_T24 x0_3 (ji17)).f3)) ∧ w'.cell? (ad492.add (((ji17)).toNat * 4)) = some (.int .i64 ((rd_T24 x0_3 (ji17)).f0)) ∧ w'.cell? ⟨(ad492.add (((ji17)).toNat * 4)).block, (ad492.add (((ji17)).toNat * 4)).off + 1, none⟩ = some (.int .u32 ((rd_T24 x0_3 (ji17)).f1)) ∧ w'.cell? ⟨(ad492.add (((ji17)).toNat * 4)).block, (ad492.add (((ji17)).toNat * 4)).off + 2, none⟩ = some (.int .u32 ((rd_T24 x0_3 (ji17)).f2)) ∧ w'.cell? ⟨(ad492.add (((ji17)).toNat * 4)).block, (ad492.add (((ji17)).toNat * 4)).off + 3, none⟩ = some (.string ((rd_T24 x0_3 (ji17)).f3)) ∧ w'.cell? (ad492.add ((x7_2).toNat * 4)) = some (.int .i64 ((rd_T24 x0_3 x7_2).f0)) ∧ w'.cell? ⟨(ad492.add ((x7_2).toNat * 4)).block, (ad492.add ((x7_2).toNat * 4)).off + 1, none⟩ = some (.int .u32 ((rd_T24 x0_3 x7_2).f1)) ∧ w'.cell? ⟨(ad492.add ((x7_2).toNat * 4)).block, (ad492.add ((x7_2).toNat * 4)).off + 2, none⟩ = some (.int .u32 ((rd_T24 x0_3 x7_2).f2)) ∧ w'.cell? ⟨(ad492.add ((x7_2).toNat * 4)).block, (ad492.add ((x7_2).toNat * 4)).off + 3, none⟩ = some (.string ((rd_T24 x0_3 x7_2).f3)) ∧ w'.cell? (ad492.add ((x7_2).toNat * 4)) = some (.int .i64 ((rd_T24 x0_3 x7_2).f0)) ∧ w'.cell? ⟨(ad492.add ((x7_2).toNat * 4)).block, (ad492.add ((x7_2).toNat * 4)).off + 1, none⟩ = some (.int .u32 ((rd_T24 x0_3 x7_2).f1)) ∧ w'.cell? ⟨(ad492.add ((x7_2).toNat * 4)).block, (ad492.add ((x7_2).toNat * 4)).off + 2, none⟩ = some (.int .u32 ((rd_T24 x0_3 x7_2).f2)) ∧ w'.cell? ⟨(ad492.add ((x7_2).toNat * 4)).block, (ad492.add ((x7_2).toNat * 4)).off + 3, none⟩ = some (.string ((rd_T24 x0_3 x7_2).f3))) (ds := []) #[false, false, false, false, false, false, false, false, false, false, false, false, false, false, false, false, false, false, false, false, false, false, false, false, false, false, false, false] (by kernel_rfl) rfl rfl ⟨hx492_0, hx492_1, hx492_2, hx492_3, hx493_0, hx493_1, hx493_2, hx493_3, hx494_0, hx494_1, hx494_2, hx494_3, hx495_0, hx495_1, hx495_2, hx495_3⟩ (fun hHeld => ?_); refine with_tabW croftlaw46_TrackLegs.tab13 croftlaw46_TrackLegs.bits13 (fun HT_ HW_ => ?_)
                              generalize wr.drew = w37 at HO_0 HO_3 BK487 HB hx492_0 hx492_1 hx492_2 hx492_3 hx493_0 hx493_1 hx493_2 hx493_3 hx494_0 hx494_1 hx494_2 hx494_3 hx495_0 hx495_1 hx495_2 hx495_3 hHeld ⊢
                              refine pure_ (i := 0) (N := some 37) (v := ?_) (a' := ?_) #[true, false, false, false, false, false, false, false, false, false, false, false, false, false, false, false, false, false, false, false, false, false, false, false, false, false, false, false] rfl rfl (any_of HT_.out (by kernel_rfl)) (fun _ _ _ h => h) (Or.inl ⟨by rfl, ?_⟩) ?_ ?_
                              rotate_left
                              · intro w'
                                go_simp
                                with_reducible rfl
                              rotate_left
                              · simp only [Act.put, List.setIfInBounds_toArray, List.set_cons_zero, List.set_cons_succ, i64_w, i32_w]
                                rfl
                              refine pure_ (i := 1) (N := some 38) (v := ?_) (a' := ?_) #[true, true, false, false, false, false, false, false, false, false, false, false, false, false, false, false, false, false, false, false, false, false, false, false, false, false, false, false] rfl rfl (any_of HT_.out (by kernel_rfl)) (fun _ _ _ h => h) (Or.inl ⟨by rfl, ?_⟩) ?_ ?_
                              rotate_left
                              · intro w'
                                go_simp
                                with_reducible rfl
                              rotate_left
                              · simp only [Act.put, List.setIfInBounds_toArray, List.set_cons_zero, List.set_cons_succ, i64_w, i32_w]
                                rfl
                              refine pure_ (i := 2) (N := some 39) (v := ?_) (a' := ?_) #[true, true, true, false, false, false, false, false, false, false, false, false, false, false, false, false, false, false, false, false, false, false, false, false, false, false, false, false] rfl rfl (any_of HT_.out (by kernel_rfl)) (fun _ _ _ h => h) (Or.inl ⟨by rfl, ?_⟩) ?_ ?_
                              rotate_left
                              · intro w'
                                go_simp
                                with_reducible rfl
                              rotate_left
                              · simp only [Act.put, List.setIfInBounds_toArray, List.set_cons_zero, List.set_cons_succ, i64_w, i32_w]
                                rfl
                              refine pure_ (i := 3) (N := some 40) (v := ?_) (a' := ?_) #[true, true, true, true, false, false, false, false, false, false, false, false, false, false, false, false, false, false, false, false, false, false, false, false, false, false, false, false] rfl rfl (any_of HT_.out (by kernel_rfl)) (fun _ _ _ h => h) (Or.inl ⟨by rfl, ?_⟩) ?_ ?_
                              rotate_left
                              · intro w'
                                go_simp
                                with_reducible rfl
                              rotate_left
                              · simp only [Act.put, List.setIfInBounds_toArray, List.set_cons_zero, List.set_cons_succ, i64_w, i32_w]
                                rfl
                              refine pure_ (i := 4) (N := some 41) (v := ?_) (a' := ?_) #[true, true, true, true, true, false, false, false, false, false, false, false, false, false, false, false, false, false, false, false, false, false, false, false, false, false, false, false] rfl rfl (any_of HT_.out (by kernel_rfl)) (fun _ _ _ h => h) (Or.inl ⟨by rfl, ?_⟩) ?_ ?_
                              rotate_left
                              · intro w'
                                go_simp
                                with_reducible rfl
                              rotate_left
                              · simp only [Act.put, List.setIfInBounds_toArray, List.set_cons_zero, List.set_cons_succ, i64_w, i32_w]
                                rfl
                              refine pure_ (i := 6) (N := some 43) (v := ?_) (a' := ?_) #[true, true, true, true, true, false, true, false, false, false, false, false, false, false, false, false, false, false, false, false, false, false, false, false, false, false, false, false] rfl rfl (any_of HT_.out (by kernel_rfl)) (fun _ _ _ h => h) (Or.inl ⟨by rfl, ?_⟩) ?_ ?_
                              rotate_left
                              · intro w'
                                go_simp
                                with_reducible rfl
                              rotate_left
                              · simp only [Act.put, List.setIfInBounds_toArray, List.set_cons_zero, List.set_cons_succ, i64_w, i32_w]
                                rfl
                              refine pure_ (i := 7) (N := some 44) (v := ?_) (a' := ?_) #[true, true, true, true, true, false, true, true, false, false, false, false, false, false, false, false, false, false, false, false, false, false, false, false, false, false, false, false] rfl rfl (any_of HT_.out (by kernel_rfl)) (fun _ _ _ h => h) (Or.inl ⟨by rfl, ?_⟩) ?_ ?_
                              rotate_left
                              · intro w'
                                go_simp
                                with_reducible rfl
                              rotate_left
                              · simp only [Act.put, List.setIfInBounds_toArray, List.set_cons_zero, List.set_cons_succ, i64_w, i32_w]
                                rfl
                              refine pure_ (i := 8) (N := some 45) (v := ?_) (a' := ?_) #[true, true, true, true, true, false, true, true, true, false, false, false, false, false, false, false, false, false, false, false, false, false, false, false, false, false, false, false] rfl rfl (any_of HT_.out (by kernel_rfl)) (fun _ _ _ h => h) (Or.inl ⟨by rfl, ?_⟩) ?_ ?_
                              rotate_left
                              · intro w'
                                go_simp
                                with_reducible rfl
                              rotate_left
                              · simp only [Act.put, List.setIfInBounds_toArray, List.set_cons_zero, List.set_cons_succ, i64_w, i32_w]
                                rfl
                              refine pure_ (i := 9) (N := some 46) (v := ?_) (a' := ?_) #[true, true, true, true, true, false, true, true, true, true, false, false, false, false, false, false, false, false, false, false, false, false, false, false, false, false, false, false] rfl rfl (any_of HT_.out (by kernel_rfl)) (fun _ _ _ h => h) (Or.inl ⟨by rfl, ?_⟩) ?_ ?_
                              rotate_left
                              · intro w'
                                go_simp
                                with_reducible rfl
                              rotate_left
                              · simp only [Act.put, List.setIfInBounds_toArray, List.set_cons_zero, List.set_cons_succ, i64_w, i32_w]
                                rfl
                              refine pure_ (i := 10) (N := some 47) (v := ?_) (a' := ?_) #[true, true, true, true, true, false, true, true, true, true, true, false, false, false, false, false, false, false, false, false, false, false, false, false, false, false, false, false] rfl rfl (any_of HT_.out (by kernel_rfl)) (fun _ _ _ h => h) (Or.inl ⟨by rfl, ?_⟩) ?_ ?_
                              rotate_left
                              · intro w'
                                go_simp
                                with_reducible rfl
                              rotate_left
                              · simp only [Act.put, List.setIfInBounds_toArray, List.set_cons_zero, List.set_cons_succ, i64_w, i32_w]
                                rfl
                              refine pure_ (i := 12) (N := some 49) (v := ?_) (a' := ?_) #[true, true, true, true, true, false, true, true, true, true, true, false, true, false, false, false, false, false, false, false, false, false, false, false, false, false, false, false] rfl rfl (any_of HT_.out (by kernel_rfl)) (fun _ _ _ h => h) (Or.inl ⟨by rfl, ?_⟩) ?_ ?_
                              rotate_left
                              · intro w'
                                go_simp
                                with_reducible rfl
                              rotate_left
                              · simp only [Act.put, List.setIfInBounds_toArray, List.set_cons_zero, List.set_cons_succ, i64_w, i32_w]
                                rfl
                              refine pure_ (i := 13) (N := some 50) (v := ?_) (a' := ?_) #[true, true, true, true, true, false, true, true, true, true, true, false, true, true, false, false, false, false, false, false, false, false, false, false, false, false, false, false] rfl rfl (any_of HT_.out (by kernel_rfl)) (fun _ _ _ h => h) (Or.inl ⟨by rfl, ?_⟩) ?_ ?_
                              rotate_left
                              · intro w'
                                go_simp
                                with_reducible rfl
                              rotate_left
                              · simp only [Act.put, List.setIfInBounds_toArray, List.set_cons_zero, List.set_cons_succ, i64_w, i32_w]
                                rfl
                              refine pure_ (i := 14) (N := some 51) (v := ?_) (a' := ?_) #[true, true, true, true, true, false, true, true, true, true, true, false, true, true, true, false, false, false, false, false, false, false, false, false, false, false, false, false] rfl rfl (any_of HT_.out (by kernel_rfl)) (fun _ _ _ h => h) (Or.inl ⟨by rfl, ?_⟩) ?_ ?_
                              rotate_left
                              · intro w'
                                go_simp
                                with_reducible rfl
                              rotate_left
                              · simp only [Act.put, List.setIfInBounds_toArray, List.set_cons_zero, List.set_cons_succ, i64_w, i32_w]
                                rfl
                              refine pure_ (i := 15) (N := some 52) (v := ?_) (a' := ?_) #[true, true, true, true, true, false, true, true, true, true, true, false, true, true, true, true, false, false, false, false, false, false, false, false, false, false, false, false] rfl rfl (any_of HT_.out (by kernel_rfl)) (fun _ _ _ h => h) (Or.inl ⟨by rfl, ?_⟩) ?_ ?_
                              rotate_left
                              · intro w'
                                go_simp
                                with_reducible rfl
                              rotate_left
                              · simp only [Act.put, List.setIfInBounds_toArray, List.set_cons_zero, List.set_cons_succ, i64_w, i32_w]
                                rfl
                              refine pure_ (i := 17) (N := some 54) (v := ?_) (a' := ?_) #[true, true, true, true, true, false, true, true, true, true, true, false, true, true, true, true, false, true, false, false, false, false, false, false, false, false, false, false] rfl rfl (any_of HT_.out (by kernel_rfl)) (fun _ _ _ h => h) (Or.inl ⟨by rfl, ?_⟩) ?_ ?_
                              rotate_left
                              · intro w'
                                go_simp
                                with_reducible rfl
                              rotate_left
                              · simp only [Act.put, List.setIfInBounds_toArray, List.set_cons_zero, List.set_cons_succ, i64_w, i32_w]
                                rfl
                              refine pure_ (i := 18) (N := some 55) (v := ?_) (a' := ?_) #[true, true, true, true, true, false, true, true, true, true, true, false, true, true, true, true, false, true, true, false, false, false, false, false, false, false, false, false] rfl rfl (any_of HT_.out (by kernel_rfl)) (fun _ _ _ h => h) (Or.inl ⟨by rfl, ?_⟩) ?_ ?_
                              rotate_left
                              · intro w'
                                go_simp
                                with_reducible rfl
                              rotate_left
                              · simp only [Act.put, List.setIfInBounds_toArray, List.set_cons_zero, List.set_cons_succ, i64_w, i32_w]
                                rfl
                              refine pure_ (i := 19) (N := some 56) (v := ?_) (a' := ?_) #[true, true, true, true, true, false, true, true, true, true, true, false, true, true, true, true, false, true, true, true, false, false, false, false, false, false, false, false] rfl rfl (any_of HT_.out (by kernel_rfl)) (fun _ _ _ h => h) (Or.inl ⟨by rfl, ?_⟩) ?_ ?_
                              rotate_left
                              · intro w'
                                go_simp
                                with_reducible rfl
                              rotate_left
                              · simp only [Act.put, List.setIfInBounds_toArray, List.set_cons_zero, List.set_cons_succ, i64_w, i32_w]
                                rfl
                              refine pure_ (i := 20) (N := some 57) (v := ?_) (a' := ?_) #[true, true, true, true, true, false, true, true, true, true, true, false, true, true, true, true, false, true, true, true, true, false, false, false, false, false, false, false] rfl rfl (any_of HT_.out (by kernel_rfl)) (fun _ _ _ h => h) (Or.inl ⟨by rfl, ?_⟩) ?_ ?_
                              rotate_left
                              · intro w'
                                go_simp
                                with_reducible rfl
                              rotate_left
                              · simp only [Act.put, List.setIfInBounds_toArray, List.set_cons_zero, List.set_cons_succ, i64_w, i32_w]
                                rfl
                              refine take_ (i := 5) (N := some 42) (v := ?_) (a' := ?_) #[true, true, true, true, true, true, true, true, true, true, true, false, true, true, true, true, false, true, true, true, true, false, false, false, false, false, false, false] rfl rfl (take_ofW HT_.out HW_.out (by kernel_rfl)) (fun _ _ _ h => h) (Or.inl ⟨by rfl, ?_⟩) hHeld ?_ ?_
                              rotate_left
                              · rintro w' ⟨s0, s1, s2, s3, s4, s5, s6, s7, s8, s9, s10, s11, s12, s13, s14, s15⟩
                                go_simp
                                with_reducible rfl
                              rotate_left
                              · simp only [Act.put, List.setIfInBounds_toArray, List.set_cons_zero, List.set_cons_succ, i64_w, i32_w]
                                rfl
                              refine take_ (i := 11) (N := some 48) (v := ?_) (a' := ?_) #[true, true, true, true, true, true, true, true, true, true, true, true, true, true, true, true, false, true, true, true, true, false, false, false, false, false, false, false] rfl rfl (take_ofW HT_.out HW_.out (by kernel_rfl)) (fun _ _ _ h => h) (Or.inl ⟨by rfl, ?_⟩) hHeld ?_ ?_
                              rotate_left
                              · rintro w' ⟨s0, s1, s2, s3, s4, s5, s6, s7, s8, s9, s10, s11, s12, s13, s14, s15⟩
                                go_simp
                                with_reducible rfl
                              rotate_left
                              · simp only [Act.put, List.setIfInBounds_toArray, List.set_cons_zero, List.set_cons_succ, i64_w, i32_w]
                                rfl
                              refine take_ (i := 16) (N := some 53) (v := ?_) (a' := ?_) #[true, true, true, true, true, true, true, true, true, true, true, true, true, true, true, true, true, true, true, true, true, false, false, false, false, false, false, false] rfl rfl (take_ofW HT_.out HW_.out (by kernel_rfl)) (fun _ _ _ h => h) (Or.inl ⟨by rfl, ?_⟩) hHeld ?_ ?_
                              rotate_left
                              · rintro w' ⟨s0, s1, s2, s3, s4, s5, s6, s7, s8, s9, s10, s11, s12, s13, s14, s15⟩
                                go_simp
                                with_reducible rfl
                              rotate_left
                              · simp only [Act.put, List.setIfInBounds_toArray, List.set_cons_zero, List.set_cons_succ, i64_w, i32_w]
                                rfl
                              refine take_ (i := 21) (N := some 58) (v := ?_) (a' := ?_) #[true, true, true, true, true, true, true, true, true, true, true, true, true, true, true, true, true, true, true, true, true, true, false, false, false, false, false, false] rfl rfl (take_ofW HT_.out HW_.out (by kernel_rfl)) (fun _ _ _ h => h) (Or.inl ⟨by rfl, ?_⟩) hHeld ?_ ?_
                              rotate_left
                              · rintro w' ⟨s0, s1, s2, s3, s4, s5, s6, s7, s8, s9, s10, s11, s12, s13, s14, s15⟩
                                go_simp
                                with_reducible rfl
                              rotate_left
                              · simp only [Act.put, List.setIfInBounds_toArray, List.set_cons_zero, List.set_cons_succ, i64_w, i32_w]
                                rfl
                              refine one_ (i := 22) (N := some 59) #[true, true, true, true, true, true, true, true, true, true, true, true, true, true, true, true, true, true, true, true, true, true, true, false, false, false, false, false] rfl rfl (one_of HT_.out (by kernel_rfl)) (by decide) (fun K hK => ?_)
                              refine goes_ Try.func20 (by kernel_rfl) rfl #[.int .u32 ((rd_T24 x0_3 (ji17)).f1), .int .u32 ((rd_T24 x0_3 (ji17)).f2), .int .u32 ((rd_T24 x0_3 x7_2).f1), .int .u32 ((rd_T24 x0_3 x7_2).f2)] (by rfl) rfl rfl (by (try simp only [List.map_toArray, List.map_cons, List.map_nil]); first | done | (simp only [hji17]; rfl) | rfl | (simp only [List.length_drop, List.length_take]; rfl)) ?_
                              with_reducible refine (croftref03_Between.calls ((rd_T24 x0_3 (ji17)).f1) ((rd_T24 x0_3 (ji17)).f2) ((rd_T24 x0_3 x7_2).f1) ((rd_T24 x0_3 x7_2).f2) t496 t497 _ A21.out).mono ?_
                              rintro e w' ⟨rfl, ⟨nd, rfl⟩⟩
                              refine ⟨_, rfl, ?_⟩
                              refine hK.out _ _ ⟨hHeld.1, hHeld.2.1, hHeld.2.2.1, hHeld.2.2.2.1, hHeld.2.2.2.2.1, hHeld.2.2.2.2.2.1, hHeld.2.2.2.2.2.2.1, hHeld.2.2.2.2.2.2.2.1, hHeld.2.2.2.2.2.2.2.2.1, hHeld.2.2.2.2.2.2.2.2.2.1, hHeld.2.2.2.2.2.2.2.2.2.2.1, hHeld.2.2.2.2.2.2.2.2.2.2.2.1, hHeld.2.2.2.2.2.2.2.2.2.2.2.2.1, hHeld.2.2.2.2.2.2.2.2.2.2.2.2.2.1, hHeld.2.2.2.2.2.2.2.2.2.2.2.2.2.2.1, hHeld.2.2.2.2.2.2.2.2.2.2.2.2.2.2.2⟩ (fun hHeld => ?_)
                              clear hK K
                              refine norm_ (a' := ?_) ?_ ?_
                              rotate_left
                              · show Act.put _ (some 59) _ = _
                                simp only [Act.put, List.setIfInBounds_toArray, List.set_cons_zero, List.set_cons_succ, i64_w, i32_w]
                                rfl
                              refine pure_ (i := 23) (N := some 36) (v := ?_) (a' := ?_) #[true, true, true, true, true, true, true, true, true, true, true, true, true, true, true, true, true, true, true, true, true, true, true, true, false, false, false, false] rfl rfl (any_of HT_.out (by kernel_rfl)) (fun _ _ _ h => h) (Or.inl ⟨by rfl, ?_⟩) ?_ ?_
                              rotate_left
                              · intro w'
                                go_simp
                                with_reducible rfl
                              rotate_left
                              · simp only [Act.put, List.setIfInBounds_toArray, List.set_cons_zero, List.set_cons_succ, i64_w, i32_w]
                                rfl
                              refine pure_ (i := 24) (N := some 60) (v := ?_) (a' := ?_) #[true, true, true, true, true, true, true, true, true, true, true, true, true, true, true, true, true, true, true, true, true, true, true, true, true, false, false, false] rfl rfl (any_of HT_.out (by kernel_rfl)) (fun _ _ _ h => h) (Or.inl ⟨by rfl, ?_⟩) ?_ ?_
                              rotate_left
                              · intro w'
                                go_simp
                                with_reducible rfl
                              rotate_left
                              · simp only [Act.put, List.setIfInBounds_toArray, List.set_cons_zero, List.set_cons_succ, i64_w, i32_w]
                                rfl
                              refine pure_ (i := 25) (N := some 61) (v := ?_) (a' := ?_) #[true, true, true, true, true, true, true, true, true, true, true, true, true, true, true, true, true, true, true, true, true, true, true, true, true, true, false, false] rfl rfl (any_of HT_.out (by kernel_rfl)) (fun _ _ _ h => h) (Or.inl ⟨by rfl, ?_⟩) ?_ ?_
                              rotate_left
                              · intro w'
                                go_simp
                                with_reducible rfl
                              rotate_left
                              · simp only [Act.put, List.setIfInBounds_toArray, List.set_cons_zero, List.set_cons_succ, i64_w, i32_w]
                                rfl
                              refine pure_ (i := 26) (N := some 8) (v := ?_) (a' := ?_) #[true, true, true, true, true, true, true, true, true, true, true, true, true, true, true, true, true, true, true, true, true, true, true, true, true, true, true, false] rfl rfl (any_of HT_.out (by kernel_rfl)) (fun _ _ _ h => h) (Or.inl ⟨by rfl, ?_⟩) ?_ ?_
                              rotate_left
                              · intro w'
                                go_simp
                                with_reducible rfl
                              rotate_left
                              · simp only [Act.put, List.setIfInBounds_toArray, List.set_cons_zero, List.set_cons_succ, i64_w, i32_w]
                                rfl
                              refine pure_ (i := 27) (N := some 9) (v := ?_) (a' := ?_) #[true, true, true, true, true, true, true, true, true, true, true, true, true, true, true, true, true, true, true, true, true, true, true, true, true, true, true, true] rfl rfl (any_of HT_.out (by kernel_rfl)) (fun _ _ _ h => h) (Or.inl ⟨by rfl, ?_⟩) ?_ ?_
                              rotate_left
                              · intro w'
                                go_simp
                                with_reducible rfl
                              rotate_left
                              · simp only [Act.put, List.setIfInBounds_toArray, List.set_cons_zero, List.set_cons_succ, i64_w, i32_w]
                                rfl
                              refine done_ (done_of HT_.out (by kernel_rfl)) ?_
                              have p498 : 0 ≤ ((ji17) : Int) := of_decide_eq_true (by first | (with_reducible assumption) | assumption)
                              have q498 : (ji17) < (t484.length : Int) := of_decide_eq_true (by first | (with_reducible assumption) | assumption)
                              obtain ⟨ad498, e498, hx498_0, hx498_1⟩ := at_T43 (Kd.R_reads' HO_3.out).2.2 (ji17) p498 q498
                              cases e498
                              replace p498 := eq_true p498
                              replace q498 := eq_true q498
                              have hcz38_0 : w37.cell? ⟨gb487, 0, none⟩ = some (.int .u64 x488000_2) := (blk_cell BK487.out 0).trans rfl
                              have hcz38_1 : w37.cell? ⟨gb487, 1, none⟩ = some (.int .u64 x488001_2) := (blk_cell BK487.out 1).trans rfl
                              have hfz38_0 := blk_frozen BK487.out 0
                              have hfz38_1 := blk_frozen BK487.out 1
                              try go_wp2
                              go_roundg k2
                              case measure => have := HJ3.out; have := HK2.out; omega
                              case rel => exact ⟨(x5_2), (x6_2), (wrap64 (x7_2 + 1)), (IntKind.u64.wrap ((IntKind.u64.wrap (x488000_2 + 1)) + t496)), (IntKind.u64.wrap (x488001_2 + t497)), (by first | rfl | (simp; done) | (simp [*]; done)), (by first | rfl | (simp; done) | (simp [*]; done)), (by first | rfl | (simp; done) | (simp [*]; done)), H', ⟨by have := HJ3.out; have := HK2.out; omega⟩, ⟨by (with_reducible repeat (first | apply Kd.V_alloc | apply Kd.V_drewN | apply Kd.V_drew)); exact Kd.V_mono (Kd.V_far (p := ⟨gb487, 1, none⟩) (Kd.V_far (p := ⟨gb487, 0, none⟩) (Kd.V_far (p := ⟨gb487, 0, none⟩) (Kd.V_mono HO_0.out (fun k_ hk => (⟨hk, hk.2.2⟩ : _ ∧ k_ ≠ gb487))) (fun _ hk => hk.2) (.int .u64 (IntKind.u64.wrap (x488000_2 + 1)))) (fun _ hk => hk.2) (.int .u64 (IntKind.u64.wrap ((IntKind.u64.wrap (x488000_2 + 1)) + t496)))) (fun _ hk => hk.2) (.int .u64 (IntKind.u64.wrap (x488001_2 + t497)))) (fun _ hk => ⟨hk.1.1, ⟨hk.1.2.1, hk.1.2.2⟩⟩)⟩, ⟨by (with_reducible repeat (first | apply Kd.R_alloc | apply Kd.R_drewN | apply Kd.R_drew)); exact Kd.R_mono (Kd.R_far (p := ⟨gb487, 1, none⟩) (Kd.R_far (p := ⟨gb487, 0, none⟩) (Kd.R_far (p := ⟨gb487, 0, none⟩) (Kd.R_mono HO_3.out (fun k_ hk => (⟨hk, hk.2⟩ : _ ∧ k_ ≠ gb487))) (fun _ hk => hk.2) (.int .u64 (IntKind.u64.wrap (x488000_2 + 1)))) (fun _ hk => hk.2) (.int .u64 (IntKind.u64.wrap ((IntKind.u64.wrap (x488000_2 + 1)) + t496)))) (fun _ hk => hk.2) (.int .u64 (IntKind.u64.wrap (x488001_2 + t497)))) (fun _ hk => ⟨hk.1.1, hk.1.2⟩)⟩, ⟨by (with_reducible repeat (first | refine blk_drewN ?_ _ | refine blk_drew ?_ | refine blk_alloc ?_ _)); refine blk_put (cs := #[.int .u64 (IntKind.u64.wrap ((IntKind.u64.wrap (x488000_2 + 1)) + t496)), .int .u64 x488001_2]) ?_ 1 _ rfl; (with_reducible repeat (first | refine blk_drewN ?_ _ | refine blk_drew ?_ | refine blk_alloc ?_ _)); refine blk_put (cs := #[.int .u64 (IntKind.u64.wrap (x488000_2 + 1)), .int .u64 x488001_2]) ?_ 0 _ rfl; (with_reducible repeat (first | refine blk_drewN ?_ _ | refine blk_drew ?_ | refine blk_alloc ?_ _)); refine blk_put (cs := #[.int .u64 x488000_2, .int .u64 x488001_2]) ?_ 0 _ rfl; (with_reducible repeat (first | refine blk_drewN ?_ _ | refine blk_drew ?_ | refine blk_alloc ?_ _)); exact BK487.out⟩, ⟨by repeat (first | (with_reducible first | exact HB.out | apply below_alloc | apply pw_below_drewN | apply below_drew1 | refine below_set ?_ GE487.out) | exact HB.out)⟩⟩
                          · rw [if_neg c24] at H
                            have c24b0 : decide ((IntKind.u64.wrap (x488001_2 + t497)) < t497) = false := decide_eq_false c24
                            clear c24
                            by_cases c39 : x7_2 > 1
                            · rw [if_pos c39] at H
                              have c39b0 : decide (1 < x7_2) = true := decide_eq_true c39
                              clear c39
                              obtain ⟨ji40, hji40⟩ : ∃ j_ : Int, (wrap64 (x7_2 - 2)) = j_ := ⟨_, rfl⟩
                              replace H : (if 0 ≤ (ji40) then (if (ji40) < (x0_3.length : Int) then ((poly_Turn.f k2 ((rd_T24 x0_3 (ji40)).f0) ((rd_T24 x0_3 (ji40)).f1) ((rd_T24 x0_3 (ji40)).f2) ((rd_T24 x0_3 (ji40)).f3) ((rd_T24 x0_3 (ji17)).f0) ((rd_T24 x0_3 (ji17)).f1) ((rd_T24 x0_3 (ji17)).f2) ((rd_T24 x0_3 (ji17)).f3) ((rd_T24 x0_3 x7_2).f0) ((rd_T24 x0_3 x7_2).f1) ((rd_T24 x0_3 x7_2).f2) ((rd_T24 x0_3 x7_2).f3)).bind fun t506 => (croftlaw46_TrackLegs.l0 k2 x0_3 t484 (wrap64 (x5_2 + (mx t506 0))) (wrap64 (x6_2 + (mx (wrap64 (-t506)) 0))) (wrap64 (x7_2 + 1)) (IntKind.u64.wrap (x488000_2 + t496)) (IntKind.u64.wrap (x488001_2 + t497)))) else (none)) else (none)) = some r := by first | (rw [hji40] at H; exact H) | (simp only [hji40] at H ⊢; exact H)
                              (try rw [hji40] at A21)
                              have hji40w : (IntKind.i64.wrap (x7_2 - 2)) = ji40 := (i64_w _).trans hji40
                              by_cases c41 : 0 ≤ (ji40)
                              · rw [if_pos c41] at H
                                have c41b0 : decide (0 ≤ (ji40)) = true := decide_eq_true c41
                                clear c41
                                by_cases c42 : (ji40) < (x0_3.length : Int)
                                · rw [if_pos c42] at H
                                  have c42b0 : decide ((ji40) < (x0_3.length : Int)) = true := decide_eq_true c42
                                  clear c42
                                  replace H := Option.bind_eq_some_iff.mp H
                                  obtain ⟨t506, A430, H⟩ := H
                                  replace H : (croftlaw46_TrackLegs.l0 k2 x0_3 t484 (wrap64 (x5_2 + (mx t506 0))) (wrap64 (x6_2 + (mx (wrap64 (-t506)) 0))) (wrap64 (x7_2 + 1)) (IntKind.u64.wrap (x488000_2 + t496)) (IntKind.u64.wrap (x488001_2 + t497))) = some r := H
                                  have A43 := Aside0.mk A430
                                  clear A430
                                  obtain ⟨ji44, hji44⟩ : ∃ j_ : Int, (mx t506 0) = j_ := ⟨_, rfl⟩
                                  replace H : (croftlaw46_TrackLegs.l0 k2 x0_3 t484 (wrap64 (x5_2 + (ji44))) (wrap64 (x6_2 + (mx (wrap64 (-t506)) 0))) (wrap64 (x7_2 + 1)) (IntKind.u64.wrap (x488000_2 + t496)) (IntKind.u64.wrap (x488001_2 + t497))) = some r := by first | (rw [hji44] at H; exact H) | (simp only [hji44] at H ⊢; exact H)
                                  (try rw [hji44] at A21)
                                  (try rw [hji44] at A43)
                                  (try (have hji44l : 0 ≤ ji44 := by (rw [← hji44]; unfold mx; (repeat' split) <;> omega)))
                                  (try (have hji44m : 0 ≤ ji44 := by omega))
                                  have hji44_ : (if t506 < 0 then 0 else t506) = ji44 := hji44
                                  obtain ⟨ji45, hji45⟩ : ∃ j_ : Int, (mx (wrap64 (-t506)) 0) = j_ := ⟨_, rfl⟩
                                  replace H : (croftlaw46_TrackLegs.l0 k2 x0_3 t484 (wrap64 (x5_2 + (ji44))) (wrap64 (x6_2 + (ji45))) (wrap64 (x7_2 + 1)) (IntKind.u64.wrap (x488000_2 + t496)) (IntKind.u64.wrap (x488001_2 + t497))) = some r := by first | (rw [hji45] at H; exact H) | (simp only [hji45] at H ⊢; exact H)
                                  (try rw [hji45] at A21)
                                  (try rw [hji45] at A43)
                                  (try (have hji45l : 0 ≤ ji45 := by (rw [← hji45]; unfold mx; (repeat' split) <;> omega)))
                                  (try (have hji45m : 0 ≤ ji45 := by omega))
                                  have hji45_ : (if (wrap64 (-t506)) < 0 then 0 else (wrap64 (-t506))) = ji45 := hji45
                                  have H' := Aside0.mk H
                                  clear H
                                  try go_wp2
                                  have n0_ := Aside0.mk (Kd.V_drew HO_0.out)
                                  have n1_ := Aside0.mk (Kd.R_drew HO_3.out)
                                  have n2_ := Aside0.mk (blk_drew BK487.out)
                                  have n3_ := Aside0.mk (below_drew1 HB.out)
                                  clear HO_0
                                  clear HO_3
                                  clear BK487
                                  clear HB
                                  have HO_0 := n0_
                                  have HO_3 := n1_
                                  have BK487 := n2_
                                  have HB := n3_
                                  clear n0_ n1_ n2_ n3_
                                  have p492 : 0 ≤ ((ji17) : Int) := of_decide_eq_true (by first | (with_reducible assumption) | assumption)
                                  have q492 : (ji17) < (x0_3.length : Int) := of_decide_eq_true (by first | (with_reducible assumption) | assumption)
                                  obtain ⟨ad492, e492, hx492_0, hx492_1, hx492_2, hx492_3⟩ := at_T24 (Kd.V_reads' HO_0.out).2.2 (ji17) p492 q492
                                  cases e492
                                  replace p492 := eq_true p492
                                  replace q492 := eq_true q492
                                  have p493 : 0 ≤ ((ji17) : Int) := of_decide_eq_true (by first | (with_reducible assumption) | assumption)
                                  have q493 : (ji17) < (x0_3.length : Int) := of_decide_eq_true (by first | (with_reducible assumption) | assumption)
                                  obtain ⟨ad493, e493, hx493_0, hx493_1, hx493_2, hx493_3⟩ := at_T24 (Kd.V_reads' HO_0.out).2.2 (ji17) p493 q493
                                  obtain rfl : ad492 = ad493 := (by injection e493)
                                  replace p493 := eq_true p493
                                  replace q493 := eq_true q493
                                  have p494 : 0 ≤ (x7_2 : Int) := of_decide_eq_true (by first | (with_reducible assumption) | assumption)
                                  have q494 : x7_2 < (x0_3.length : Int) := of_decide_eq_true (by first | (with_reducible assumption) | assumption)
                                  obtain ⟨ad494, e494, hx494_0, hx494_1, hx494_2, hx494_3⟩ := at_T24 (Kd.V_reads' HO_0.out).2.2 x7_2 p494 q494
                                  obtain rfl : ad492 = ad494 := (by injection e494)
                                  replace p494 := eq_true p494
                                  replace q494 := eq_true q494
                                  have p495 : 0 ≤ (x7_2 : Int) := of_decide_eq_true (by first | (with_reducible assumption) | assumption)
                                  have q495 : x7_2 < (x0_3.length : Int) := of_decide_eq_true (by first | (with_reducible assumption) | assumption)
                                  obtain ⟨ad495, e495, hx495_0, hx495_1, hx495_2, hx495_3⟩ := at_T24 (Kd.V_reads' HO_0.out).2.2 x7_2 p495 q495
                                  obtain rfl : ad492 = ad495 := (by injection e495)
                                  replace p495 := eq_true p495
                                  replace q495 := eq_true q495
                                  refine start_ (n := 28) (S := fun w' => w'.cell? (ad492.add (((ji17)).toNat * 4)) = some (.int .i64 ((rd_T24 x0_3 (ji17)).f0)) ∧ w'.cell? ⟨(ad492.add (((ji17)).toNat * 4)).block, (ad492.add (((ji17)).toNat * 4)).off + 1, none⟩ = some (.int .u32 ((rd_T24 x0_3 (ji17)).f1)) ∧ w'.cell? ⟨(ad492.add (((ji17)).toNat * 4)).block, (ad492.add (((ji17)).toNat * 4)).off + 2, none⟩ = some (.int .u32 ((rd_T24 x0_3 (ji17)).f2)) ∧ w'.cell? ⟨(ad492.add (((ji17)).toNat * 4)).block, (ad492.add (((ji17)).toNat * 4)).off + 3, none⟩ = some (.string ((rd_T24 x0_3 (ji17)).f3)) ∧ w'.cell? (ad492.add (((ji17)).toNat * 4)) = some (.int .i64 ((rd_T24 x0_3 (ji17)).f0)) ∧ w'.cell? ⟨(ad492.add (((ji17)).toNat * 4)).block, (ad492.add (((ji17)).toNat * 4)).off + 1, none⟩ = some (.int .u32 ((rd_T24 x0_3 (ji17)).f1)) ∧ w'.cell? ⟨(ad492.add (((ji17)).toNat * 4)).block, (ad492.add (((ji17)).toNat * 4)).off + 2, none⟩ = some (.int .u32 ((rd_T24 x0_3 (ji17)).f2)) ∧ w'.cell? ⟨(ad492.add (((ji17)).toNat * 4)).block, (ad492.add (((ji17)).toNat * 4)).off + 3, none⟩ = some (.string ((rd_T24 x0_3 (ji17)).f3)) ∧ w'.cell? (ad492.add ((x7_2).toNat * 4)) = some (.int .i64 ((rd_T24 x0_3 x7_2).f0)) ∧ w'.cell? ⟨(ad492.add ((x7_2).toNat * 4)).block, (ad492.add ((x7_2).toNat * 4)).off + 1, none⟩ = some (.int .u32 ((rd_T24 x0_3 x7_2).f1)) ∧ w'.cell? ⟨(ad492.add ((x7_2).toNat * 4)).block, (ad492.add ((x7_2).toNat * 4)).off + 2, none⟩ = some (.int .u32 ((rd_T24 x0_3 x7_2).f2)) ∧ w'.cell? ⟨(ad492.add ((x7_2).toNat * 4)).block, (ad492.add ((x7_2).toNat * 4)).off + 3, none⟩ = some (.string ((rd_T24 x0_3 x7_2).f3)) ∧ w'.cell? (ad492.add ((x7_2).toNat * 4)) = some (.int .i64 ((rd_T24 x0_3 x7_2).f0)) ∧ w'.cell? ⟨(ad492.add ((x7_2).toNat * 4)).block, (ad492.add ((x7_2).toNat * 4)).off + 1, none⟩ = some (.int .u32 ((rd_T24 x0_3 x7_2).f1)) ∧ w'.cell? ⟨(ad492.add ((x7_2).toNat * 4)).block, (ad492.add ((x7_2).toNat * 4)).off + 2, none⟩ = some (.int .u32 ((rd_T24 x0_3 x7_2).f2)) ∧ w'.cell? ⟨(ad492.add ((x7_2).toNat * 4)).block, (ad492.add ((x7_2).toNat * 4)).off + 3, none⟩ = some (.string ((rd_T24 x0_3 x7_2).f3))) (ds := []) #[false, false, false, false, false, false, false, false, false, false, false, false, false, false, false, false, false, false, false, false, false, false, false, false, false, false, false, false] (by kernel_rfl) rfl rfl ⟨hx492_0, hx492_1, hx492_2, hx492_3, hx493_0, hx493_1, hx493_2, hx493_3, hx494_0, hx494_1, hx494_2, hx494_3, hx495_0, hx495_1, hx495_2, hx495_3⟩ (fun hHeld => ?_); refine with_tabW croftlaw46_TrackLegs.tab13 croftlaw46_TrackLegs.bits13 (fun HT_ HW_ => ?_)
                                  generalize wr.drew = w46 at HO_0 HO_3 BK487 HB hx492_0 hx492_1 hx492_2 hx492_3 hx493_0 hx493_1 hx493_2 hx493_3 hx494_0 hx494_1 hx494_2 hx494_3 hx495_0 hx495_1 hx495_2 hx495_3 hHeld ⊢
                                  refine pure_ (i := 0) (N := some 37) (v := ?_) (a' := ?_) #[true, false, false, false, false, false, false, false, false, false, false, false, false, false, false, false, false, false, false, false, false, false, false, false, false, false, false, false] rfl rfl (any_of HT_.out (by kernel_rfl)) (fun _ _ _ h => h) (Or.inl ⟨by rfl, ?_⟩) ?_ ?_
                                  rotate_left
                                  · intro w'
                                    go_simp
                                    with_reducible rfl
                                  rotate_left
                                  · simp only [Act.put, List.setIfInBounds_toArray, List.set_cons_zero, List.set_cons_succ, i64_w, i32_w]
                                    rfl
                                  refine pure_ (i := 1) (N := some 38) (v := ?_) (a' := ?_) #[true, true, false, false, false, false, false, false, false, false, false, false, false, false, false, false, false, false, false, false, false, false, false, false, false, false, false, false] rfl rfl (any_of HT_.out (by kernel_rfl)) (fun _ _ _ h => h) (Or.inl ⟨by rfl, ?_⟩) ?_ ?_
                                  rotate_left
                                  · intro w'
                                    go_simp
                                    with_reducible rfl
                                  rotate_left
                                  · simp only [Act.put, List.setIfInBounds_toArray, List.set_cons_zero, List.set_cons_succ, i64_w, i32_w]
                                    rfl
                                  refine pure_ (i := 2) (N := some 39) (v := ?_) (a' := ?_) #[true, true, true, false, false, false, false, false, false, false, false, false, false, false, false, false, false, false, false, false, false, false, false, false, false, false, false, false] rfl rfl (any_of HT_.out (by kernel_rfl)) (fun _ _ _ h => h) (Or.inl ⟨by rfl, ?_⟩) ?_ ?_
                                  rotate_left
                                  · intro w'
                                    go_simp
                                    with_reducible rfl
                                  rotate_left
                                  · simp only [Act.put, List.setIfInBounds_toArray, List.set_cons_zero, List.set_cons_succ, i64_w, i32_w]
                                    rfl
                                  refine pure_ (i := 3) (N := some 40) (v := ?_) (a' := ?_) #[true, true, true, true, false, false, false, false, false, false, false, false, false, false, false, false, false, false, false, false, false, false, false, false, false, false, false, false] rfl rfl (any_of HT_.out (by kernel_rfl)) (fun _ _ _ h => h) (Or.inl ⟨by rfl, ?_⟩) ?_ ?_
                                  rotate_left
                                  · intro w'
                                    go_simp
                                    with_reducible rfl
                                  rotate_left
                                  · simp only [Act.put, List.setIfInBounds_toArray, List.set_cons_zero, List.set_cons_succ, i64_w, i32_w]
                                    rfl
                                  refine pure_ (i := 4) (N := some 41) (v := ?_) (a' := ?_) #[true, true, true, true, true, false, false, false, false, false, false, false, false, false, false, false, false, false, false, false, false, false, false, false, false, false, false, false] rfl rfl (any_of HT_.out (by kernel_rfl)) (fun _ _ _ h => h) (Or.inl ⟨by rfl, ?_⟩) ?_ ?_
                                  rotate_left
                                  · intro w'
                                    go_simp
                                    with_reducible rfl
                                  rotate_left
                                  · simp only [Act.put, List.setIfInBounds_toArray, List.set_cons_zero, List.set_cons_succ, i64_w, i32_w]
                                    rfl
                                  refine pure_ (i := 6) (N := some 43) (v := ?_) (a' := ?_) #[true, true, true, true, true, false, true, false, false, false, false, false, false, false, false, false, false, false, false, false, false, false, false, false, false, false, false, false] rfl rfl (any_of HT_.out (by kernel_rfl)) (fun _ _ _ h => h) (Or.inl ⟨by rfl, ?_⟩) ?_ ?_
                                  rotate_left
                                  · intro w'
                                    go_simp
                                    with_reducible rfl
                                  rotate_left
                                  · simp only [Act.put, List.setIfInBounds_toArray, List.set_cons_zero, List.set_cons_succ, i64_w, i32_w]
                                    rfl
                                  refine pure_ (i := 7) (N := some 44) (v := ?_) (a' := ?_) #[true, true, true, true, true, false, true, true, false, false, false, false, false, false, false, false, false, false, false, false, false, false, false, false, false, false, false, false] rfl rfl (any_of HT_.out (by kernel_rfl)) (fun _ _ _ h => h) (Or.inl ⟨by rfl, ?_⟩) ?_ ?_
                                  rotate_left
                                  · intro w'
                                    go_simp
                                    with_reducible rfl
                                  rotate_left
                                  · simp only [Act.put, List.setIfInBounds_toArray, List.set_cons_zero, List.set_cons_succ, i64_w, i32_w]
                                    rfl
                                  refine pure_ (i := 8) (N := some 45) (v := ?_) (a' := ?_) #[true, true, true, true, true, false, true, true, true, false, false, false, false, false, false, false, false, false, false, false, false, false, false, false, false, false, false, false] rfl rfl (any_of HT_.out (by kernel_rfl)) (fun _ _ _ h => h) (Or.inl ⟨by rfl, ?_⟩) ?_ ?_
                                  rotate_left
                                  · intro w'
                                    go_simp
                                    with_reducible rfl
                                  rotate_left
                                  · simp only [Act.put, List.setIfInBounds_toArray, List.set_cons_zero, List.set_cons_succ, i64_w, i32_w]
                                    rfl
                                  refine pure_ (i := 9) (N := some 46) (v := ?_) (a' := ?_) #[true, true, true, true, true, false, true, true, true, true, false, false, false, false, false, false, false, false, false, false, false, false, false, false, false, false, false, false] rfl rfl (any_of HT_.out (by kernel_rfl)) (fun _ _ _ h => h) (Or.inl ⟨by rfl, ?_⟩) ?_ ?_
                                  rotate_left
                                  · intro w'
                                    go_simp
                                    with_reducible rfl
                                  rotate_left
                                  · simp only [Act.put, List.setIfInBounds_toArray, List.set_cons_zero, List.set_cons_succ, i64_w, i32_w]
                                    rfl
                                  refine pure_ (i := 10) (N := some 47) (v := ?_) (a' := ?_) #[true, true, true, true, true, false, true, true, true, true, true, false, false, false, false, false, false, false, false, false, false, false, false, false, false, false, false, false] rfl rfl (any_of HT_.out (by kernel_rfl)) (fun _ _ _ h => h) (Or.inl ⟨by rfl, ?_⟩) ?_ ?_
                                  rotate_left
                                  · intro w'
                                    go_simp
                                    with_reducible rfl
                                  rotate_left
                                  · simp only [Act.put, List.setIfInBounds_toArray, List.set_cons_zero, List.set_cons_succ, i64_w, i32_w]
                                    rfl
                                  refine pure_ (i := 12) (N := some 49) (v := ?_) (a' := ?_) #[true, true, true, true, true, false, true, true, true, true, true, false, true, false, false, false, false, false, false, false, false, false, false, false, false, false, false, false] rfl rfl (any_of HT_.out (by kernel_rfl)) (fun _ _ _ h => h) (Or.inl ⟨by rfl, ?_⟩) ?_ ?_
                                  rotate_left
                                  · intro w'
                                    go_simp
                                    with_reducible rfl
                                  rotate_left
                                  · simp only [Act.put, List.setIfInBounds_toArray, List.set_cons_zero, List.set_cons_succ, i64_w, i32_w]
                                    rfl
                                  refine pure_ (i := 13) (N := some 50) (v := ?_) (a' := ?_) #[true, true, true, true, true, false, true, true, true, true, true, false, true, true, false, false, false, false, false, false, false, false, false, false, false, false, false, false] rfl rfl (any_of HT_.out (by kernel_rfl)) (fun _ _ _ h => h) (Or.inl ⟨by rfl, ?_⟩) ?_ ?_
                                  rotate_left
                                  · intro w'
                                    go_simp
                                    with_reducible rfl
                                  rotate_left
                                  · simp only [Act.put, List.setIfInBounds_toArray, List.set_cons_zero, List.set_cons_succ, i64_w, i32_w]
                                    rfl
                                  refine pure_ (i := 14) (N := some 51) (v := ?_) (a' := ?_) #[true, true, true, true, true, false, true, true, true, true, true, false, true, true, true, false, false, false, false, false, false, false, false, false, false, false, false, false] rfl rfl (any_of HT_.out (by kernel_rfl)) (fun _ _ _ h => h) (Or.inl ⟨by rfl, ?_⟩) ?_ ?_
                                  rotate_left
                                  · intro w'
                                    go_simp
                                    with_reducible rfl
                                  rotate_left
                                  · simp only [Act.put, List.setIfInBounds_toArray, List.set_cons_zero, List.set_cons_succ, i64_w, i32_w]
                                    rfl
                                  refine pure_ (i := 15) (N := some 52) (v := ?_) (a' := ?_) #[true, true, true, true, true, false, true, true, true, true, true, false, true, true, true, true, false, false, false, false, false, false, false, false, false, false, false, false] rfl rfl (any_of HT_.out (by kernel_rfl)) (fun _ _ _ h => h) (Or.inl ⟨by rfl, ?_⟩) ?_ ?_
                                  rotate_left
                                  · intro w'
                                    go_simp
                                    with_reducible rfl
                                  rotate_left
                                  · simp only [Act.put, List.setIfInBounds_toArray, List.set_cons_zero, List.set_cons_succ, i64_w, i32_w]
                                    rfl
                                  refine pure_ (i := 17) (N := some 54) (v := ?_) (a' := ?_) #[true, true, true, true, true, false, true, true, true, true, true, false, true, true, true, true, false, true, false, false, false, false, false, false, false, false, false, false] rfl rfl (any_of HT_.out (by kernel_rfl)) (fun _ _ _ h => h) (Or.inl ⟨by rfl, ?_⟩) ?_ ?_
                                  rotate_left
                                  · intro w'
                                    go_simp
                                    with_reducible rfl
                                  rotate_left
                                  · simp only [Act.put, List.setIfInBounds_toArray, List.set_cons_zero, List.set_cons_succ, i64_w, i32_w]
                                    rfl
                                  refine pure_ (i := 18) (N := some 55) (v := ?_) (a' := ?_) #[true, true, true, true, true, false, true, true, true, true, true, false, true, true, true, true, false, true, true, false, false, false, false, false, false, false, false, false] rfl rfl (any_of HT_.out (by kernel_rfl)) (fun _ _ _ h => h) (Or.inl ⟨by rfl, ?_⟩) ?_ ?_
                                  rotate_left
                                  · intro w'
                                    go_simp
                                    with_reducible rfl
                                  rotate_left
                                  · simp only [Act.put, List.setIfInBounds_toArray, List.set_cons_zero, List.set_cons_succ, i64_w, i32_w]
                                    rfl
                                  refine pure_ (i := 19) (N := some 56) (v := ?_) (a' := ?_) #[true, true, true, true, true, false, true, true, true, true, true, false, true, true, true, true, false, true, true, true, false, false, false, false, false, false, false, false] rfl rfl (any_of HT_.out (by kernel_rfl)) (fun _ _ _ h => h) (Or.inl ⟨by rfl, ?_⟩) ?_ ?_
                                  rotate_left
                                  · intro w'
                                    go_simp
                                    with_reducible rfl
                                  rotate_left
                                  · simp only [Act.put, List.setIfInBounds_toArray, List.set_cons_zero, List.set_cons_succ, i64_w, i32_w]
                                    rfl
                                  refine pure_ (i := 20) (N := some 57) (v := ?_) (a' := ?_) #[true, true, true, true, true, false, true, true, true, true, true, false, true, true, true, true, false, true, true, true, true, false, false, false, false, false, false, false] rfl rfl (any_of HT_.out (by kernel_rfl)) (fun _ _ _ h => h) (Or.inl ⟨by rfl, ?_⟩) ?_ ?_
                                  rotate_left
                                  · intro w'
                                    go_simp
                                    with_reducible rfl
                                  rotate_left
                                  · simp only [Act.put, List.setIfInBounds_toArray, List.set_cons_zero, List.set_cons_succ, i64_w, i32_w]
                                    rfl
                                  refine take_ (i := 5) (N := some 42) (v := ?_) (a' := ?_) #[true, true, true, true, true, true, true, true, true, true, true, false, true, true, true, true, false, true, true, true, true, false, false, false, false, false, false, false] rfl rfl (take_ofW HT_.out HW_.out (by kernel_rfl)) (fun _ _ _ h => h) (Or.inl ⟨by rfl, ?_⟩) hHeld ?_ ?_
                                  rotate_left
                                  · rintro w' ⟨s0, s1, s2, s3, s4, s5, s6, s7, s8, s9, s10, s11, s12, s13, s14, s15⟩
                                    go_simp
                                    with_reducible rfl
                                  rotate_left
                                  · simp only [Act.put, List.setIfInBounds_toArray, List.set_cons_zero, List.set_cons_succ, i64_w, i32_w]
                                    rfl
                                  refine take_ (i := 11) (N := some 48) (v := ?_) (a' := ?_) #[true, true, true, true, true, true, true, true, true, true, true, true, true, true, true, true, false, true, true, true, true, false, false, false, false, false, false, false] rfl rfl (take_ofW HT_.out HW_.out (by kernel_rfl)) (fun _ _ _ h => h) (Or.inl ⟨by rfl, ?_⟩) hHeld ?_ ?_
                                  rotate_left
                                  · rintro w' ⟨s0, s1, s2, s3, s4, s5, s6, s7, s8, s9, s10, s11, s12, s13, s14, s15⟩
                                    go_simp
                                    with_reducible rfl
                                  rotate_left
                                  · simp only [Act.put, List.setIfInBounds_toArray, List.set_cons_zero, List.set_cons_succ, i64_w, i32_w]
                                    rfl
                                  refine take_ (i := 16) (N := some 53) (v := ?_) (a' := ?_) #[true, true, true, true, true, true, true, true, true, true, true, true, true, true, true, true, true, true, true, true, true, false, false, false, false, false, false, false] rfl rfl (take_ofW HT_.out HW_.out (by kernel_rfl)) (fun _ _ _ h => h) (Or.inl ⟨by rfl, ?_⟩) hHeld ?_ ?_
                                  rotate_left
                                  · rintro w' ⟨s0, s1, s2, s3, s4, s5, s6, s7, s8, s9, s10, s11, s12, s13, s14, s15⟩
                                    go_simp
                                    with_reducible rfl
                                  rotate_left
                                  · simp only [Act.put, List.setIfInBounds_toArray, List.set_cons_zero, List.set_cons_succ, i64_w, i32_w]
                                    rfl
                                  refine take_ (i := 21) (N := some 58) (v := ?_) (a' := ?_) #[true, true, true, true, true, true, true, true, true, true, true, true, true, true, true, true, true, true, true, true, true, true, false, false, false, false, false, false] rfl rfl (take_ofW HT_.out HW_.out (by kernel_rfl)) (fun _ _ _ h => h) (Or.inl ⟨by rfl, ?_⟩) hHeld ?_ ?_
                                  rotate_left
                                  · rintro w' ⟨s0, s1, s2, s3, s4, s5, s6, s7, s8, s9, s10, s11, s12, s13, s14, s15⟩
                                    go_simp
                                    with_reducible rfl
                                  rotate_left
                                  · simp only [Act.put, List.setIfInBounds_toArray, List.set_cons_zero, List.set_cons_succ, i64_w, i32_w]
                                    rfl
                                  refine one_ (i := 22) (N := some 59) #[true, true, true, true, true, true, true, true, true, true, true, true, true, true, true, true, true, true, true, true, true, true, true, false, false, false, false, false] rfl rfl (one_of HT_.out (by kernel_rfl)) (by decide) (fun K hK => ?_)
                                  refine goes_ Try.func20 (by kernel_rfl) rfl #[.int .u32 ((rd_T24 x0_3 (ji17)).f1), .int .u32 ((rd_T24 x0_3 (ji17)).f2), .int .u32 ((rd_T24 x0_3 x7_2).f1), .int .u32 ((rd_T24 x0_3 x7_2).f2)] (by rfl) rfl rfl (by (try simp only [List.map_toArray, List.map_cons, List.map_nil]); first | done | (simp only [hji17]; rfl) | rfl | (simp only [List.length_drop, List.length_take]; rfl)) ?_
                                  with_reducible refine (croftref03_Between.calls ((rd_T24 x0_3 (ji17)).f1) ((rd_T24 x0_3 (ji17)).f2) ((rd_T24 x0_3 x7_2).f1) ((rd_T24 x0_3 x7_2).f2) t496 t497 _ A21.out).mono ?_
                                  rintro e w' ⟨rfl, ⟨nd, rfl⟩⟩
                                  refine ⟨_, rfl, ?_⟩
                                  refine hK.out _ _ ⟨hHeld.1, hHeld.2.1, hHeld.2.2.1, hHeld.2.2.2.1, hHeld.2.2.2.2.1, hHeld.2.2.2.2.2.1, hHeld.2.2.2.2.2.2.1, hHeld.2.2.2.2.2.2.2.1, hHeld.2.2.2.2.2.2.2.2.1, hHeld.2.2.2.2.2.2.2.2.2.1, hHeld.2.2.2.2.2.2.2.2.2.2.1, hHeld.2.2.2.2.2.2.2.2.2.2.2.1, hHeld.2.2.2.2.2.2.2.2.2.2.2.2.1, hHeld.2.2.2.2.2.2.2.2.2.2.2.2.2.1, hHeld.2.2.2.2.2.2.2.2.2.2.2.2.2.2.1, hHeld.2.2.2.2.2.2.2.2.2.2.2.2.2.2.2⟩ (fun hHeld => ?_)
                                  clear hK K
                                  refine norm_ (a' := ?_) ?_ ?_
                                  rotate_left
                                  · show Act.put _ (some 59) _ = _
                                    simp only [Act.put, List.setIfInBounds_toArray, List.set_cons_zero, List.set_cons_succ, i64_w, i32_w]
                                    rfl
                                  refine pure_ (i := 23) (N := some 36) (v := ?_) (a' := ?_) #[true, true, true, true, true, true, true, true, true, true, true, true, true, true, true, true, true, true, true, true, true, true, true, true, false, false, false, false] rfl rfl (any_of HT_.out (by kernel_rfl)) (fun _ _ _ h => h) (Or.inl ⟨by rfl, ?_⟩) ?_ ?_
                                  rotate_left
                                  · intro w'
                                    go_simp
                                    with_reducible rfl
                                  rotate_left
                                  · simp only [Act.put, List.setIfInBounds_toArray, List.set_cons_zero, List.set_cons_succ, i64_w, i32_w]
                                    rfl
                                  refine pure_ (i := 24) (N := some 60) (v := ?_) (a' := ?_) #[true, true, true, true, true, true, true, true, true, true, true, true, true, true, true, true, true, true, true, true, true, true, true, true, true, false, false, false] rfl rfl (any_of HT_.out (by kernel_rfl)) (fun _ _ _ h => h) (Or.inl ⟨by rfl, ?_⟩) ?_ ?_
                                  rotate_left
                                  · intro w'
                                    go_simp
                                    with_reducible rfl
                                  rotate_left
                                  · simp only [Act.put, List.setIfInBounds_toArray, List.set_cons_zero, List.set_cons_succ, i64_w, i32_w]
                                    rfl
                                  refine pure_ (i := 25) (N := some 61) (v := ?_) (a' := ?_) #[true, true, true, true, true, true, true, true, true, true, true, true, true, true, true, true, true, true, true, true, true, true, true, true, true, true, false, false] rfl rfl (any_of HT_.out (by kernel_rfl)) (fun _ _ _ h => h) (Or.inl ⟨by rfl, ?_⟩) ?_ ?_
                                  rotate_left
                                  · intro w'
                                    go_simp
                                    with_reducible rfl
                                  rotate_left
                                  · simp only [Act.put, List.setIfInBounds_toArray, List.set_cons_zero, List.set_cons_succ, i64_w, i32_w]
                                    rfl
                                  refine pure_ (i := 26) (N := some 8) (v := ?_) (a' := ?_) #[true, true, true, true, true, true, true, true, true, true, true, true, true, true, true, true, true, true, true, true, true, true, true, true, true, true, true, false] rfl rfl (any_of HT_.out (by kernel_rfl)) (fun _ _ _ h => h) (Or.inl ⟨by rfl, ?_⟩) ?_ ?_
                                  rotate_left
                                  · intro w'
                                    go_simp
                                    with_reducible rfl
                                  rotate_left
                                  · simp only [Act.put, List.setIfInBounds_toArray, List.set_cons_zero, List.set_cons_succ, i64_w, i32_w]
                                    rfl
                                  refine pure_ (i := 27) (N := some 9) (v := ?_) (a' := ?_) #[true, true, true, true, true, true, true, true, true, true, true, true, true, true, true, true, true, true, true, true, true, true, true, true, true, true, true, true] rfl rfl (any_of HT_.out (by kernel_rfl)) (fun _ _ _ h => h) (Or.inl ⟨by rfl, ?_⟩) ?_ ?_
                                  rotate_left
                                  · intro w'
                                    go_simp
                                    with_reducible rfl
                                  rotate_left
                                  · simp only [Act.put, List.setIfInBounds_toArray, List.set_cons_zero, List.set_cons_succ, i64_w, i32_w]
                                    rfl
                                  refine done_ (done_of HT_.out (by kernel_rfl)) ?_
                                  have p498 : 0 ≤ ((ji17) : Int) := of_decide_eq_true (by first | (with_reducible assumption) | assumption)
                                  have q498 : (ji17) < (t484.length : Int) := of_decide_eq_true (by first | (with_reducible assumption) | assumption)
                                  obtain ⟨ad498, e498, hx498_0, hx498_1⟩ := at_T43 (Kd.R_reads' HO_3.out).2.2 (ji17) p498 q498
                                  cases e498
                                  replace p498 := eq_true p498
                                  replace q498 := eq_true q498
                                  have hcz47_0 : w46.cell? ⟨gb487, 0, none⟩ = some (.int .u64 x488000_2) := (blk_cell BK487.out 0).trans rfl
                                  have hcz47_1 : w46.cell? ⟨gb487, 1, none⟩ = some (.int .u64 x488001_2) := (blk_cell BK487.out 1).trans rfl
                                  have hfz47_0 := blk_frozen BK487.out 0
                                  have hfz47_1 := blk_frozen BK487.out 1
                                  try go_wp2
                                  have q0_ := Kd.V_drewN HO_0.out nd
                                  have q1_ := Kd.R_drewN HO_3.out nd
                                  have q2_ := blk_drewN BK487.out nd
                                  have q3_ := pw_below_drewN HB.out nd
                                  generalize w46.drewN nd = w46 at q0_ q1_ q2_ q3_ ⊢
                                  clear HO_0 HO_3 BK487 HB
                                  have HO_0 := Aside0.mk q0_
                                  have HO_3 := Aside0.mk q1_
                                  have BK487 := Aside0.mk q2_
                                  have HB := Aside0.mk q3_
                                  clear q0_ q1_ q2_ q3_
                                  have n0_ : Aside0 (Kd.V k24 24 ((w46.setCell ⟨gb487, 0, none⟩ (.int .u64 (IntKind.u64.wrap (x488000_2 + t496)))).setCell ⟨gb487, 1, none⟩ (.int .u64 (IntKind.u64.wrap (x488001_2 + t497)))) w.heap.size (fun k_ => (P0_ k_ ∨ w.heap.size ≤ k_) ∧ some k_ ≠ (.slice (some ad498) t484.length co15 : Value).ownBlock ∧ k_ ≠ gb487) (.slice (some ad492) x0_3.length co12) x0_3) := ⟨by (with_reducible repeat (first | apply Kd.V_alloc | apply Kd.V_drewN | apply Kd.V_drew)); exact Kd.V_mono (Kd.V_far (p := ⟨gb487, 1, none⟩) (Kd.V_far (p := ⟨gb487, 0, none⟩) (Kd.V_mono HO_0.out (fun k_ hk => (⟨hk, hk.2.2⟩ : _ ∧ k_ ≠ gb487))) (fun _ hk => hk.2) (.int .u64 (IntKind.u64.wrap (x488000_2 + t496)))) (fun _ hk => hk.2) (.int .u64 (IntKind.u64.wrap (x488001_2 + t497)))) (fun _ hk => ⟨hk.1.1, ⟨hk.1.2.1, hk.1.2.2⟩⟩)⟩
                                  have n1_ : Aside0 (Kd.R k43 43 ((w46.setCell ⟨gb487, 0, none⟩ (.int .u64 (IntKind.u64.wrap (x488000_2 + t496)))).setCell ⟨gb487, 1, none⟩ (.int .u64 (IntKind.u64.wrap (x488001_2 + t497)))) w.heap.size (fun k_ => (w.heap.size ≤ k_) ∧ k_ ≠ gb487) (.slice (some ad498) t484.length co15) t484) := ⟨by (with_reducible repeat (first | apply Kd.R_alloc | apply Kd.R_drewN | apply Kd.R_drew)); exact Kd.R_mono (Kd.R_far (p := ⟨gb487, 1, none⟩) (Kd.R_far (p := ⟨gb487, 0, none⟩) (Kd.R_mono HO_3.out (fun k_ hk => (⟨hk, hk.2⟩ : _ ∧ k_ ≠ gb487))) (fun _ hk => hk.2) (.int .u64 (IntKind.u64.wrap (x488000_2 + t496)))) (fun _ hk => hk.2) (.int .u64 (IntKind.u64.wrap (x488001_2 + t497)))) (fun _ hk => ⟨hk.1.1, hk.1.2⟩)⟩
                                  have n2_ : Aside0 (((w46.setCell ⟨gb487, 0, none⟩ (.int .u64 (IntKind.u64.wrap (x488000_2 + t496)))).setCell ⟨gb487, 1, none⟩ (.int .u64 (IntKind.u64.wrap (x488001_2 + t497)))).heap[gb487]? = some (.cells #[.int .u64 (IntKind.u64.wrap (x488000_2 + t496)), .int .u64 (IntKind.u64.wrap (x488001_2 + t497))] 43 (0, 0))) := ⟨by (with_reducible repeat (first | refine blk_drewN ?_ _ | refine blk_drew ?_ | refine blk_alloc ?_ _)); refine blk_put (cs := #[.int .u64 (IntKind.u64.wrap (x488000_2 + t496)), .int .u64 x488001_2]) ?_ 1 _ rfl; (with_reducible repeat (first | refine blk_drewN ?_ _ | refine blk_drew ?_ | refine blk_alloc ?_ _)); refine blk_put (cs := #[.int .u64 x488000_2, .int .u64 x488001_2]) ?_ 0 _ rfl; (with_reducible repeat (first | refine blk_drewN ?_ _ | refine blk_drew ?_ | refine blk_alloc ?_ _)); exact BK487.out⟩
                                  have n3_ : Aside0 (Below w.heap.size w ((w46.setCell ⟨gb487, 0, none⟩ (.int .u64 (IntKind.u64.wrap (x488000_2 + t496)))).setCell ⟨gb487, 1, none⟩ (.int .u64 (IntKind.u64.wrap (x488001_2 + t497))))) := ⟨by repeat (first | (with_reducible first | exact HB.out | apply below_alloc | apply pw_below_drewN | apply below_drew1 | refine below_set ?_ GE487.out) | exact HB.out)⟩
                                  (try clear HO_0)
                                  (try clear HO_3)
                                  (try clear BK487)
                                  (try clear HB)
                                  generalize ((w46.setCell ⟨gb487, 0, none⟩ (.int .u64 (IntKind.u64.wrap (x488000_2 + t496)))).setCell ⟨gb487, 1, none⟩ (.int .u64 (IntKind.u64.wrap (x488001_2 + t497)))) = w48 at n0_ n1_ n2_ n3_ ⊢
                                  have HO_0 := n0_
                                  have HO_3 := n1_
                                  have BK487 := n2_
                                  have HB := n3_
                                  clear n0_ n1_ n2_ n3_
                                  (try (rw [drewN_self w48]; generalize hq_ : World.drewN w48 _ = w48; have n0_ : Aside0 (Kd.V k24 24 w48 w.heap.size (fun k_ => (P0_ k_ ∨ w.heap.size ≤ k_) ∧ some k_ ≠ (.slice (some ad498) t484.length co15 : Value).ownBlock ∧ k_ ≠ gb487) (.slice (some ad492) x0_3.length co12) x0_3) := ⟨by rw [← hq_]; exact (by (with_reducible repeat (first | apply Kd.V_alloc | apply Kd.V_drewN | apply Kd.V_drew)); exact HO_0.out)⟩; have n1_ : Aside0 (Kd.R k43 43 w48 w.heap.size (fun k_ => (w.heap.size ≤ k_) ∧ k_ ≠ gb487) (.slice (some ad498) t484.length co15) t484) := ⟨by rw [← hq_]; exact (by (with_reducible repeat (first | apply Kd.R_alloc | apply Kd.R_drewN | apply Kd.R_drew)); exact HO_3.out)⟩; have n2_ : Aside0 (w48.heap[gb487]? = some (.cells #[.int .u64 (IntKind.u64.wrap (x488000_2 + t496)), .int .u64 (IntKind.u64.wrap (x488001_2 + t497))] 43 (0, 0))) := ⟨by rw [← hq_]; exact (by (with_reducible repeat (first | refine blk_drewN ?_ _ | refine blk_drew ?_ | refine blk_alloc ?_ _)); exact BK487.out)⟩; have n3_ : Aside0 (Below w.heap.size w w48) := ⟨by rw [← hq_]; exact (by repeat (first | (with_reducible first | exact HB.out | apply below_alloc | apply pw_below_drewN | apply below_drew1 | refine below_set ?_ GE487.out) | exact HB.out))⟩; clear HO_0 HO_3 BK487 HB hq_; have HO_0 := n0_; have HO_3 := n1_; have BK487 := n2_; have HB := n3_; clear n0_ n1_ n2_ n3_))
                                  have n0_ := Aside0.mk (Kd.V_drew HO_0.out)
                                  have n1_ := Aside0.mk (Kd.R_drew HO_3.out)
                                  have n2_ := Aside0.mk (blk_drew BK487.out)
                                  have n3_ := Aside0.mk (below_drew1 HB.out)
                                  clear HO_0
                                  clear HO_3
                                  clear BK487
                                  clear HB
                                  have HO_0 := n0_
                                  have HO_3 := n1_
                                  have BK487 := n2_
                                  have HB := n3_
                                  clear n0_ n1_ n2_ n3_
                                  have p503 : 0 ≤ ((ji40) : Int) := of_decide_eq_true (by first | (with_reducible assumption) | assumption)
                                  have q503 : (ji40) < (x0_3.length : Int) := of_decide_eq_true (by first | (with_reducible assumption) | assumption)
                                  obtain ⟨ad503, e503, hx503_0, hx503_1, hx503_2, hx503_3⟩ := at_T24 (Kd.V_reads' HO_0.out).2.2 (ji40) p503 q503
                                  obtain rfl : ad492 = ad503 := (by injection e503)
                                  replace p503 := eq_true p503
                                  replace q503 := eq_true q503
                                  have p504 : 0 ≤ ((ji17) : Int) := of_decide_eq_true (by first | (with_reducible assumption) | assumption)
                                  have q504 : (ji17) < (x0_3.length : Int) := of_decide_eq_true (by first | (with_reducible assumption) | assumption)
                                  obtain ⟨ad504, e504, hx504_0, hx504_1, hx504_2, hx504_3⟩ := at_T24 (Kd.V_reads' HO_0.out).2.2 (ji17) p504 q504
                                  obtain rfl : ad492 = ad504 := (by injection e504)
                                  replace p504 := eq_true p504
                                  replace q504 := eq_true q504
                                  have p505 : 0 ≤ (x7_2 : Int) := of_decide_eq_true (by first | (with_reducible assumption) | assumption)
                                  have q505 : x7_2 < (x0_3.length : Int) := of_decide_eq_true (by first | (with_reducible assumption) | assumption)
                                  obtain ⟨ad505, e505, hx505_0, hx505_1, hx505_2, hx505_3⟩ := at_T24 (Kd.V_reads' HO_0.out).2.2 x7_2 p505 q505
                                  obtain rfl : ad492 = ad505 := (by injection e505)
                                  replace p505 := eq_true p505
                                  replace q505 := eq_true q505
                                  refine start_ (n := 16) (S := fun w' => w'.cell? (ad492.add (((ji40)).toNat * 4)) = some (.int .i64 ((rd_T24 x0_3 (ji40)).f0)) ∧ w'.cell? ⟨(ad492.add (((ji40)).toNat * 4)).block, (ad492.add (((ji40)).toNat * 4)).off + 1, none⟩ = some (.int .u32 ((rd_T24 x0_3 (ji40)).f1)) ∧ w'.cell? ⟨(ad492.add (((ji40)).toNat * 4)).block, (ad492.add (((ji40)).toNat * 4)).off + 2, none⟩ = some (.int .u32 ((rd_T24 x0_3 (ji40)).f2)) ∧ w'.cell? ⟨(ad492.add (((ji40)).toNat * 4)).block, (ad492.add (((ji40)).toNat * 4)).off + 3, none⟩ = some (.string ((rd_T24 x0_3 (ji40)).f3)) ∧ w'.cell? (ad492.add (((ji17)).toNat * 4)) = some (.int .i64 ((rd_T24 x0_3 (ji17)).f0)) ∧ w'.cell? ⟨(ad492.add (((ji17)).toNat * 4)).block, (ad492.add (((ji17)).toNat * 4)).off + 1, none⟩ = some (.int .u32 ((rd_T24 x0_3 (ji17)).f1)) ∧ w'.cell? ⟨(ad492.add (((ji17)).toNat * 4)).block, (ad492.add (((ji17)).toNat * 4)).off + 2, none⟩ = some (.int .u32 ((rd_T24 x0_3 (ji17)).f2)) ∧ w'.cell? ⟨(ad492.add (((ji17)).toNat * 4)).block, (ad492.add (((ji17)).toNat * 4)).off + 3, none⟩ = some (.string ((rd_T24 x0_3 (ji17)).f3)) ∧ w'.cell? (ad492.add ((x7_2).toNat * 4)) = some (.int .i64 ((rd_T24 x0_3 x7_2).f0)) ∧ w'.cell? ⟨(ad492.add ((x7_2).toNat * 4)).block, (ad492.add ((x7_2).toNat * 4)).off + 1, none⟩ = some (.int .u32 ((rd_T24 x0_3 x7_2).f1)) ∧ w'.cell? ⟨(ad492.add ((x7_2).toNat * 4)).block, (ad492.add ((x7_2).toNat * 4)).off + 2, none⟩ = some (.int .u32 ((rd_T24 x0_3 x7_2).f2)) ∧ w'.cell? ⟨(ad492.add ((x7_2).toNat * 4)).block, (ad492.add ((x7_2).toNat * 4)).off + 3, none⟩ = some (.string ((rd_T24 x0_3 x7_2).f3))) (ds := []) #[false, false, false, false, false, false, false, false, false, false, false, false, false, false, false, false] (by kernel_rfl) rfl rfl ⟨hx503_0, hx503_1, hx503_2, hx503_3, hx504_0, hx504_1, hx504_2, hx504_3, hx505_0, hx505_1, hx505_2, hx505_3⟩ (fun hHeld => ?_); refine with_tabW croftlaw46_TrackLegs.tab21 croftlaw46_TrackLegs.bits21 (fun HT_ HW_ => ?_)
                                  generalize w48.drew = w49 at HO_0 HO_3 BK487 HB hx503_0 hx503_1 hx503_2 hx503_3 hx504_0 hx504_1 hx504_2 hx504_3 hx505_0 hx505_1 hx505_2 hx505_3 hHeld ⊢
                                  refine pure_ (i := 0) (N := some 90) (v := ?_) (a' := ?_) #[true, false, false, false, false, false, false, false, false, false, false, false, false, false, false, false] rfl rfl (any_of HT_.out (by kernel_rfl)) (fun _ _ _ h => h) (Or.inl ⟨by rfl, ?_⟩) ?_ ?_
                                  rotate_left
                                  · intro w'
                                    go_simp
                                    with_reducible rfl
                                  rotate_left
                                  · simp only [Act.put, List.setIfInBounds_toArray, List.set_cons_zero, List.set_cons_succ, i64_w, i32_w]
                                    rfl
                                  refine pure_ (i := 1) (N := some 91) (v := ?_) (a' := ?_) #[true, true, false, false, false, false, false, false, false, false, false, false, false, false, false, false] rfl rfl (any_of HT_.out (by kernel_rfl)) (fun _ _ _ h => h) (Or.inl ⟨by rfl, ?_⟩) ?_ ?_
                                  rotate_left
                                  · intro w'
                                    go_simp
                                    with_reducible rfl
                                  rotate_left
                                  · simp only [Act.put, List.setIfInBounds_toArray, List.set_cons_zero, List.set_cons_succ, i64_w, i32_w]
                                    rfl
                                  refine pure_ (i := 2) (N := some 92) (v := ?_) (a' := ?_) #[true, true, true, false, false, false, false, false, false, false, false, false, false, false, false, false] rfl rfl (any_of HT_.out (by kernel_rfl)) (fun _ _ _ h => h) (Or.inl ⟨by rfl, ?_⟩) ?_ ?_
                                  rotate_left
                                  · intro w'
                                    go_simp
                                    with_reducible rfl
                                  rotate_left
                                  · simp only [Act.put, List.setIfInBounds_toArray, List.set_cons_zero, List.set_cons_succ, i64_w, i32_w]
                                    rfl
                                  refine pure_ (i := 3) (N := some 93) (v := ?_) (a' := ?_) #[true, true, true, true, false, false, false, false, false, false, false, false, false, false, false, false] rfl rfl (any_of HT_.out (by kernel_rfl)) (fun _ _ _ h => h) (Or.inl ⟨by rfl, ?_⟩) ?_ ?_
                                  rotate_left
                                  · intro w'
                                    go_simp
                                    with_reducible rfl
                                  rotate_left
                                  · simp only [Act.put, List.setIfInBounds_toArray, List.set_cons_zero, List.set_cons_succ, i64_w, i32_w]
                                    rfl
                                  refine pure_ (i := 5) (N := some 95) (v := ?_) (a' := ?_) #[true, true, true, true, false, true, false, false, false, false, false, false, false, false, false, false] rfl rfl (any_of HT_.out (by kernel_rfl)) (fun _ _ _ h => h) (Or.inl ⟨by rfl, ?_⟩) ?_ ?_
                                  rotate_left
                                  · intro w'
                                    go_simp
                                    with_reducible rfl
                                  rotate_left
                                  · simp only [Act.put, List.setIfInBounds_toArray, List.set_cons_zero, List.set_cons_succ, i64_w, i32_w]
                                    rfl
                                  refine pure_ (i := 6) (N := some 96) (v := ?_) (a' := ?_) #[true, true, true, true, false, true, true, false, false, false, false, false, false, false, false, false] rfl rfl (any_of HT_.out (by kernel_rfl)) (fun _ _ _ h => h) (Or.inl ⟨by rfl, ?_⟩) ?_ ?_
                                  rotate_left
                                  · intro w'
                                    go_simp
                                    with_reducible rfl
                                  rotate_left
                                  · simp only [Act.put, List.setIfInBounds_toArray, List.set_cons_zero, List.set_cons_succ, i64_w, i32_w]
                                    rfl
                                  refine pure_ (i := 7) (N := some 97) (v := ?_) (a' := ?_) #[true, true, true, true, false, true, true, true, false, false, false, false, false, false, false, false] rfl rfl (any_of HT_.out (by kernel_rfl)) (fun _ _ _ h => h) (Or.inl ⟨by rfl, ?_⟩) ?_ ?_
                                  rotate_left
                                  · intro w'
                                    go_simp
                                    with_reducible rfl
                                  rotate_left
                                  · simp only [Act.put, List.setIfInBounds_toArray, List.set_cons_zero, List.set_cons_succ, i64_w, i32_w]
                                    rfl
                                  refine pure_ (i := 8) (N := some 98) (v := ?_) (a' := ?_) #[true, true, true, true, false, true, true, true, true, false, false, false, false, false, false, false] rfl rfl (any_of HT_.out (by kernel_rfl)) (fun _ _ _ h => h) (Or.inl ⟨by rfl, ?_⟩) ?_ ?_
                                  rotate_left
                                  · intro w'
                                    go_simp
                                    with_reducible rfl
                                  rotate_left
                                  · simp only [Act.put, List.setIfInBounds_toArray, List.set_cons_zero, List.set_cons_succ, i64_w, i32_w]
                                    rfl
                                  refine pure_ (i := 10) (N := some 100) (v := ?_) (a' := ?_) #[true, true, true, true, false, true, true, true, true, false, true, false, false, false, false, false] rfl rfl (any_of HT_.out (by kernel_rfl)) (fun _ _ _ h => h) (Or.inl ⟨by rfl, ?_⟩) ?_ ?_
                                  rotate_left
                                  · intro w'
                                    go_simp
                                    with_reducible rfl
                                  rotate_left
                                  · simp only [Act.put, List.setIfInBounds_toArray, List.set_cons_zero, List.set_cons_succ, i64_w, i32_w]
                                    rfl
                                  refine pure_ (i := 11) (N := some 101) (v := ?_) (a' := ?_) #[true, true, true, true, false, true, true, true, true, false, true, true, false, false, false, false] rfl rfl (any_of HT_.out (by kernel_rfl)) (fun _ _ _ h => h) (Or.inl ⟨by rfl, ?_⟩) ?_ ?_
                                  rotate_left
                                  · intro w'
                                    go_simp
                                    with_reducible rfl
                                  rotate_left
                                  · simp only [Act.put, List.setIfInBounds_toArray, List.set_cons_zero, List.set_cons_succ, i64_w, i32_w]
                                    rfl
                                  refine pure_ (i := 12) (N := some 102) (v := ?_) (a' := ?_) #[true, true, true, true, false, true, true, true, true, false, true, true, true, false, false, false] rfl rfl (any_of HT_.out (by kernel_rfl)) (fun _ _ _ h => h) (Or.inl ⟨by rfl, ?_⟩) ?_ ?_
                                  rotate_left
                                  · intro w'
                                    go_simp
                                    with_reducible rfl
                                  rotate_left
                                  · simp only [Act.put, List.setIfInBounds_toArray, List.set_cons_zero, List.set_cons_succ, i64_w, i32_w]
                                    rfl
                                  refine take_ (i := 4) (N := some 94) (v := ?_) (a' := ?_) #[true, true, true, true, true, true, true, true, true, false, true, true, true, false, false, false] rfl rfl (take_ofW HT_.out HW_.out (by kernel_rfl)) (fun _ _ _ h => h) (Or.inl ⟨by rfl, ?_⟩) hHeld ?_ ?_
                                  rotate_left
                                  · rintro w' ⟨s0, s1, s2, s3, s4, s5, s6, s7, s8, s9, s10, s11⟩
                                    go_simp
                                    with_reducible rfl
                                  rotate_left
                                  · simp only [Act.put, List.setIfInBounds_toArray, List.set_cons_zero, List.set_cons_succ, i64_w, i32_w]
                                    rfl
                                  refine take_ (i := 9) (N := some 99) (v := ?_) (a' := ?_) #[true, true, true, true, true, true, true, true, true, true, true, true, true, false, false, false] rfl rfl (take_ofW HT_.out HW_.out (by kernel_rfl)) (fun _ _ _ h => h) (Or.inl ⟨by rfl, ?_⟩) hHeld ?_ ?_
                                  rotate_left
                                  · rintro w' ⟨s0, s1, s2, s3, s4, s5, s6, s7, s8, s9, s10, s11⟩
                                    go_simp
                                    with_reducible rfl
                                  rotate_left
                                  · simp only [Act.put, List.setIfInBounds_toArray, List.set_cons_zero, List.set_cons_succ, i64_w, i32_w]
                                    rfl
                                  refine take_ (i := 13) (N := some 103) (v := ?_) (a' := ?_) #[true, true, true, true, true, true, true, true, true, true, true, true, true, true, false, false] rfl rfl (take_ofW HT_.out HW_.out (by kernel_rfl)) (fun _ _ _ h => h) (Or.inl ⟨by rfl, ?_⟩) hHeld ?_ ?_
                                  rotate_left
                                  · rintro w' ⟨s0, s1, s2, s3, s4, s5, s6, s7, s8, s9, s10, s11⟩
                                    go_simp
                                    with_reducible rfl
                                  rotate_left
                                  · simp only [Act.put, List.setIfInBounds_toArray, List.set_cons_zero, List.set_cons_succ, i64_w, i32_w]
                                    rfl
                                  refine one_ (i := 14) (N := some 104) #[true, true, true, true, true, true, true, true, true, true, true, true, true, true, true, false] rfl rfl (one_of HT_.out (by kernel_rfl)) (by decide) (fun K hK => ?_)
                                  refine goes_ Try.func14 (by kernel_rfl) rfl #[.agg #[.int .i64 ((rd_T24 x0_3 (ji40)).f0), .int .u32 ((rd_T24 x0_3 (ji40)).f1), .int .u32 ((rd_T24 x0_3 (ji40)).f2), .string ((rd_T24 x0_3 (ji40)).f3)], .agg #[.int .i64 ((rd_T24 x0_3 (ji17)).f0), .int .u32 ((rd_T24 x0_3 (ji17)).f1), .int .u32 ((rd_T24 x0_3 (ji17)).f2), .string ((rd_T24 x0_3 (ji17)).f3)], .agg #[.int .i64 ((rd_T24 x0_3 x7_2).f0), .int .u32 ((rd_T24 x0_3 x7_2).f1), .int .u32 ((rd_T24 x0_3 x7_2).f2), .string ((rd_T24 x0_3 x7_2).f3)]] (by rfl) rfl rfl (by (try simp only [List.map_toArray, List.map_cons, List.map_nil]); first | done | (simp only [hji17, hji40]; rfl) | rfl | (simp only [List.length_drop, List.length_take]; rfl)) ?_
                                  with_reducible refine (poly_Turn.calls k2 ((rd_T24 x0_3 (ji40)).f0) ((rd_T24 x0_3 (ji40)).f1) ((rd_T24 x0_3 (ji40)).f2) ((rd_T24 x0_3 (ji40)).f3) ((rd_T24 x0_3 (ji17)).f0) ((rd_T24 x0_3 (ji17)).f1) ((rd_T24 x0_3 (ji17)).f2) ((rd_T24 x0_3 (ji17)).f3) ((rd_T24 x0_3 x7_2).f0) ((rd_T24 x0_3 x7_2).f1) ((rd_T24 x0_3 x7_2).f2) ((rd_T24 x0_3 x7_2).f3) t506 _ A43.out).mono ?_
                                  rintro e w50 ⟨rfl, hb⟩
                                  have HS0_ := (hb.cell (World.block_lt_of_cell? _ _ (hHeld.1))).trans (hHeld.1)
                                  have HS1_ := (hb.cell (World.block_lt_of_cell? _ _ (hHeld.2.1))).trans (hHeld.2.1)
                                  have HS2_ := (hb.cell (World.block_lt_of_cell? _ _ (hHeld.2.2.1))).trans (hHeld.2.2.1)
                                  have HS3_ := (hb.cell (World.block_lt_of_cell? _ _ (hHeld.2.2.2.1))).trans (hHeld.2.2.2.1)
                                  have HS4_ := (hb.cell (World.block_lt_of_cell? _ _ (hHeld.2.2.2.2.1))).trans (hHeld.2.2.2.2.1)
                                  have HS5_ := (hb.cell (World.block_lt_of_cell? _ _ (hHeld.2.2.2.2.2.1))).trans (hHeld.2.2.2.2.2.1)
                                  have HS6_ := (hb.cell (World.block_lt_of_cell? _ _ (hHeld.2.2.2.2.2.2.1))).trans (hHeld.2.2.2.2.2.2.1)
                                  have HS7_ := (hb.cell (World.block_lt_of_cell? _ _ (hHeld.2.2.2.2.2.2.2.1))).trans (hHeld.2.2.2.2.2.2.2.1)
                                  have HS8_ := (hb.cell (World.block_lt_of_cell? _ _ (hHeld.2.2.2.2.2.2.2.2.1))).trans (hHeld.2.2.2.2.2.2.2.2.1)
                                  have HS9_ := (hb.cell (World.block_lt_of_cell? _ _ (hHeld.2.2.2.2.2.2.2.2.2.1))).trans (hHeld.2.2.2.2.2.2.2.2.2.1)
                                  have HS10_ := (hb.cell (World.block_lt_of_cell? _ _ (hHeld.2.2.2.2.2.2.2.2.2.2.1))).trans (hHeld.2.2.2.2.2.2.2.2.2.2.1)
                                  have HS11_ := (hb.cell (World.block_lt_of_cell? _ _ (hHeld.2.2.2.2.2.2.2.2.2.2.2))).trans (hHeld.2.2.2.2.2.2.2.2.2.2.2)
                                  refine ⟨_, rfl, ?_⟩
                                  have n0_ := Aside0.mk (Kd.V_below (by (with_reducible repeat (first | apply Kd.V_alloc | apply Kd.V_drewN | apply Kd.V_drew)); exact HO_0.out) hb)
                                  have n1_ := Aside0.mk (Kd.R_below (by (with_reducible repeat (first | apply Kd.R_alloc | apply Kd.R_drewN | apply Kd.R_drew)); exact HO_3.out) hb)
                                  have n2_ := Aside0.mk (blk_below (g := gb487) (o := .cells #[.int .u64 (IntKind.u64.wrap (x488000_2 + t496)), .int .u64 (IntKind.u64.wrap (x488001_2 + t497))] 43 (0, 0)) (by (with_reducible repeat (first | refine blk_drewN ?_ _ | refine blk_drew ?_ | refine blk_alloc ?_ _)); exact BK487.out) hb)
                                  have n3_ := Aside0.mk (below_step (by repeat (first | (with_reducible first | exact HB.out | apply below_alloc | apply pw_below_drewN | apply below_drew1 | refine below_set ?_ GE487.out) | exact HB.out)) hb)
                                  clear HO_0
                                  clear HO_3
                                  clear BK487
                                  clear HB
                                  have HO_0 := n0_
                                  have HO_3 := n1_
                                  have BK487 := n2_
                                  have HB := n3_
                                  clear n0_ n1_ n2_ n3_
                                  (try clear hb)
                                  (try clear hb2)
                                  (try clear hk)
                                  (try clear hi)
                                  refine hK.out _ _ ⟨HS0_, HS1_, HS2_, HS3_, HS4_, HS5_, HS6_, HS7_, HS8_, HS9_, HS10_, HS11_⟩ (fun hHeld => ?_)
                                  clear hK K
                                  refine norm_ (a' := ?_) ?_ ?_
                                  rotate_left
                                  · show Act.put _ (some 104) _ = _
                                    simp only [Act.put, List.setIfInBounds_toArray, List.set_cons_zero, List.set_cons_succ, i64_w, i32_w]
                                    rfl
                                  refine pure_ (i := 15) (N := some 11) (v := ?_) (a' := ?_) #[true, true, true, true, true, true, true, true, true, true, true, true, true, true, true, true] rfl rfl (any_of HT_.out (by kernel_rfl)) (fun _ _ _ h => h) (Or.inl ⟨by rfl, ?_⟩) ?_ ?_
                                  rotate_left
                                  · intro w'
                                    go_simp
                                    with_reducible rfl
                                  rotate_left
                                  · simp only [Act.put, List.setIfInBounds_toArray, List.set_cons_zero, List.set_cons_succ, i64_w, i32_w]
                                    rfl
                                  refine done_ (done_of HT_.out (by kernel_rfl)) ?_
                                  try go_wp2
                                  go_roundg k2
                                  case measure => have := HJ3.out; have := HK2.out; omega
                                  case rel => exact ⟨(wrap64 (x5_2 + (ji44))), (wrap64 (x6_2 + (ji45))), (wrap64 (x7_2 + 1)), (IntKind.u64.wrap (x488000_2 + t496)), (IntKind.u64.wrap (x488001_2 + t497)), (by first | rfl | (simp; done) | (simp only [← hji44] <;> (first | rfl | simp)) | (simp [*]; done)), (by first | rfl | (simp; done) | (simp only [← hji45] <;> (first | rfl | simp)) | (simp [*]; done)), (by first | rfl | (simp; done) | (simp [*]; done)), H', ⟨by have := HJ3.out; have := HK2.out; omega⟩, ⟨by (with_reducible repeat (first | apply Kd.V_alloc | apply Kd.V_drewN | apply Kd.V_drew)); exact HO_0.out⟩, ⟨by (with_reducible repeat (first | apply Kd.R_alloc | apply Kd.R_drewN | apply Kd.R_drew)); exact HO_3.out⟩, ⟨by (with_reducible repeat (first | refine blk_drewN ?_ _ | refine blk_drew ?_ | refine blk_alloc ?_ _)); exact BK487.out⟩, ⟨by repeat (first | (with_reducible first | exact HB.out | apply below_alloc | apply pw_below_drewN | apply below_drew1 | refine below_set ?_ GE487.out) | exact HB.out)⟩⟩
                                · rw [if_neg c42] at H
                                  exact absurd H (by simp)
                              · rw [if_neg c41] at H
                                exact absurd H (by simp)
                            · rw [if_neg c39] at H
                              have c39b0 : decide (1 < x7_2) = false := decide_eq_false c39
                              clear c39
                              have H' := Aside0.mk H
                              clear H
                              try go_wp2
                              have n0_ := Aside0.mk (Kd.V_drew HO_0.out)
                              have n1_ := Aside0.mk (Kd.R_drew HO_3.out)
                              have n2_ := Aside0.mk (blk_drew BK487.out)
                              have n3_ := Aside0.mk (below_drew1 HB.out)
                              clear HO_0
                              clear HO_3
                              clear BK487
                              clear HB
                              have HO_0 := n0_
                              have HO_3 := n1_
                              have BK487 := n2_
                              have HB := n3_
                              clear n0_ n1_ n2_ n3_
                              have p492 : 0 ≤ ((ji17) : Int) := of_decide_eq_true (by first | (with_reducible assumption) | assumption)
                              have q492 : (ji17) < (x0_3.length : Int) := of_decide_eq_true (by first | (with_reducible assumption) | assumption)
                              obtain ⟨ad492, e492, hx492_0, hx492_1, hx492_2, hx492_3⟩ := at_T24 (Kd.V_reads' HO_0.out).2.2 (ji17) p492 q492
                              cases e492
                              replace p492 := eq_true p492
                              replace q492 := eq_true q492
                              have p493 : 0 ≤ ((ji17) : Int) := of_decide_eq_true (by first | (with_reducible assumption) | assumption)
                              have q493 : (ji17) < (x0_3.length : Int) := of_decide_eq_true (by first | (with_reducible assumption) | assumption)
                              obtain ⟨ad493, e493, hx493_0, hx493_1, hx493_2, hx493_3⟩ := at_T24 (Kd.V_reads' HO_0.out).2.2 (ji17) p493 q493
                              obtain rfl : ad492 = ad493 := (by injection e493)
                              replace p493 := eq_true p493
                              replace q493 := eq_true q493
                              have p494 : 0 ≤ (x7_2 : Int) := of_decide_eq_true (by first | (with_reducible assumption) | assumption)
                              have q494 : x7_2 < (x0_3.length : Int) := of_decide_eq_true (by first | (with_reducible assumption) | assumption)
                              obtain ⟨ad494, e494, hx494_0, hx494_1, hx494_2, hx494_3⟩ := at_T24 (Kd.V_reads' HO_0.out).2.2 x7_2 p494 q494
                              obtain rfl : ad492 = ad494 := (by injection e494)
                              replace p494 := eq_true p494
                              replace q494 := eq_true q494
                              have p495 : 0 ≤ (x7_2 : Int) := of_decide_eq_true (by first | (with_reducible assumption) | assumption)
                              have q495 : x7_2 < (x0_3.length : Int) := of_decide_eq_true (by first | (with_reducible assumption) | assumption)
                              obtain ⟨ad495, e495, hx495_0, hx495_1, hx495_2, hx495_3⟩ := at_T24 (Kd.V_reads' HO_0.out).2.2 x7_2 p495 q495
                              obtain rfl : ad492 = ad495 := (by injection e495)
                              replace p495 := eq_true p495
                              replace q495 := eq_true q495
                              refine start_ (n := 28) (S := fun w' => w'.cell? (ad492.add (((ji17)).toNat * 4)) = some (.int .i64 ((rd_T24 x0_3 (ji17)).f0)) ∧ w'.cell? ⟨(ad492.add (((ji17)).toNat * 4)).block, (ad492.add (((ji17)).toNat * 4)).off + 1, none⟩ = some (.int .u32 ((rd_T24 x0_3 (ji17)).f1)) ∧ w'.cell? ⟨(ad492.add (((ji17)).toNat * 4)).block, (ad492.add (((ji17)).toNat * 4)).off + 2, none⟩ = some (.int .u32 ((rd_T24 x0_3 (ji17)).f2)) ∧ w'.cell? ⟨(ad492.add (((ji17)).toNat * 4)).block, (ad492.add (((ji17)).toNat * 4)).off + 3, none⟩ = some (.string ((rd_T24 x0_3 (ji17)).f3)) ∧ w'.cell? (ad492.add (((ji17)).toNat * 4)) = some (.int .i64 ((rd_T24 x0_3 (ji17)).f0)) ∧ w'.cell? ⟨(ad492.add (((ji17)).toNat * 4)).block, (ad492.add (((ji17)).toNat * 4)).off + 1, none⟩ = some (.int .u32 ((rd_T24 x0_3 (ji17)).f1)) ∧ w'.cell? ⟨(ad492.add (((ji17)).toNat * 4)).block, (ad492.add (((ji17)).toNat * 4)).off + 2, none⟩ = some (.int .u32 ((rd_T24 x0_3 (ji17)).f2)) ∧ w'.cell? ⟨(ad492.add (((ji17)).toNat * 4)).block, (ad492.add (((ji17)).toNat * 4)).off + 3, none⟩ = some (.string ((rd_T24 x0_3 (ji17)).f3)) ∧ w'.cell? (ad492.add ((x7_2).toNat * 4)) = some (.int .i64 ((rd_T24 x0_3 x7_2).f0)) ∧ w'.cell? ⟨(ad492.add ((x7_2).toNat * 4)).block, (ad492.add ((x7_2).toNat * 4)).off + 1, none⟩ = some (.int .u32 ((rd_T24 x0_3 x7_2).f1)) ∧ w'.cell? ⟨(ad492.add ((x7_2).toNat * 4)).block, (ad492.add ((x7_2).toNat * 4)).off + 2, none⟩ = some (.int .u32 ((rd_T24 x0_3 x7_2).f2)) ∧ w'.cell? ⟨(ad492.add ((x7_2).toNat * 4)).block, (ad492.add ((x7_2).toNat * 4)).off + 3, none⟩ = some (.string ((rd_T24 x0_3 x7_2).f3)) ∧ w'.cell? (ad492.add ((x7_2).toNat * 4)) = some (.int .i64 ((rd_T24 x0_3 x7_2).f0)) ∧ w'.cell? ⟨(ad492.add ((x7_2).toNat * 4)).block, (ad492.add ((x7_2).toNat * 4)).off + 1, none⟩ = some (.int .u32 ((rd_T24 x0_3 x7_2).f1)) ∧ w'.cell? ⟨(ad492.add ((x7_2).toNat * 4)).block, (ad492.add ((x7_2).toNat * 4)).off + 2, none⟩ = some (.int .u32 ((rd_T24 x0_3 x7_2).f2)) ∧ w'.cell? ⟨(ad492.add ((x7_2).toNat * 4)).block, (ad492.add ((x7_2).toNat * 4)).off + 3, none⟩ = some (.string ((rd_T24 x0_3 x7_2).f3))) (ds := []) #[false, false, false, false, false, false, false, false, false, false, false, false, false, false, false, false, false, false, false, false, false, false, false, false, false, false, false, false] (by kernel_rfl) rfl rfl ⟨hx492_0, hx492_1, hx492_2, hx492_3, hx493_0, hx493_1, hx493_2, hx493_3, hx494_0, hx494_1, hx494_2, hx494_3, hx495_0, hx495_1, hx495_2, hx495_3⟩ (fun hHeld => ?_); refine with_tabW croftlaw46_TrackLegs.tab13 croftlaw46_TrackLegs.bits13 (fun HT_ HW_ => ?_)
                              generalize wr.drew = w51 at HO_0 HO_3 BK487 HB hx492_0 hx492_1 hx492_2 hx492_3 hx493_0 hx493_1 hx493_2 hx493_3 hx494_0 hx494_1 hx494_2 hx494_3 hx495_0 hx495_1 hx495_2 hx495_3 hHeld ⊢
                              refine pure_ (i := 0) (N := some 37) (v := ?_) (a' := ?_) #[true, false, false, false, false, false, false, false, false, false, false, false, false, false, false, false, false, false, false, false, false, false, false, false, false, false, false, false] rfl rfl (any_of HT_.out (by kernel_rfl)) (fun _ _ _ h => h) (Or.inl ⟨by rfl, ?_⟩) ?_ ?_
                              rotate_left
                              · intro w'
                                go_simp
                                with_reducible rfl
                              rotate_left
                              · simp only [Act.put, List.setIfInBounds_toArray, List.set_cons_zero, List.set_cons_succ, i64_w, i32_w]
                                rfl
                              refine pure_ (i := 1) (N := some 38) (v := ?_) (a' := ?_) #[true, true, false, false, false, false, false, false, false, false, false, false, false, false, false, false, false, false, false, false, false, false, false, false, false, false, false, false] rfl rfl (any_of HT_.out (by kernel_rfl)) (fun _ _ _ h => h) (Or.inl ⟨by rfl, ?_⟩) ?_ ?_
                              rotate_left
                              · intro w'
                                go_simp
                                with_reducible rfl
                              rotate_left
                              · simp only [Act.put, List.setIfInBounds_toArray, List.set_cons_zero, List.set_cons_succ, i64_w, i32_w]
                                rfl
                              refine pure_ (i := 2) (N := some 39) (v := ?_) (a' := ?_) #[true, true, true, false, false, false, false, false, false, false, false, false, false, false, false, false, false, false, false, false, false, false, false, false, false, false, false, false] rfl rfl (any_of HT_.out (by kernel_rfl)) (fun _ _ _ h => h) (Or.inl ⟨by rfl, ?_⟩) ?_ ?_
                              rotate_left
                              · intro w'
                                go_simp
                                with_reducible rfl
                              rotate_left
                              · simp only [Act.put, List.setIfInBounds_toArray, List.set_cons_zero, List.set_cons_succ, i64_w, i32_w]
                                rfl
                              refine pure_ (i := 3) (N := some 40) (v := ?_) (a' := ?_) #[true, true, true, true, false, false, false, false, false, false, false, false, false, false, false, false, false, false, false, false, false, false, false, false, false, false, false, false] rfl rfl (any_of HT_.out (by kernel_rfl)) (fun _ _ _ h => h) (Or.inl ⟨by rfl, ?_⟩) ?_ ?_
                              rotate_left
                              · intro w'
                                go_simp
                                with_reducible rfl
                              rotate_left
                              · simp only [Act.put, List.setIfInBounds_toArray, List.set_cons_zero, List.set_cons_succ, i64_w, i32_w]
                                rfl
                              refine pure_ (i := 4) (N := some 41) (v := ?_) (a' := ?_) #[true, true, true, true, true, false, false, false, false, false, false, false, false, false, false, false, false, false, false, false, false, false, false, false, false, false, false, false] rfl rfl (any_of HT_.out (by kernel_rfl)) (fun _ _ _ h => h) (Or.inl ⟨by rfl, ?_⟩) ?_ ?_
                              rotate_left
                              · intro w'
                                go_simp
                                with_reducible rfl
                              rotate_left
                              · simp only [Act.put, List.setIfInBounds_toArray, List.set_cons_zero, List.set_cons_succ, i64_w, i32_w]
                                rfl
                              refine pure_ (i := 6) (N := some 43) (v := ?_) (a' := ?_) #[true, true, true, true, true, false, true, false, false, false, false, false, false, false, false, false, false, false, false, false, false, false, false, false, false, false, false, false] rfl rfl (any_of HT_.out (by kernel_rfl)) (fun _ _ _ h => h) (Or.inl ⟨by rfl, ?_⟩) ?_ ?_
                              rotate_left
                              · intro w'
                                go_simp
                                with_reducible rfl
                              rotate_left
                              · simp only [Act.put, List.setIfInBounds_toArray, List.set_cons_zero, List.set_cons_succ, i64_w, i32_w]
                                rfl
                              refine pure_ (i := 7) (N := some 44) (v := ?_) (a' := ?_) #[true, true, true, true, true, false, true, true, false, false, false, false, false, false, false, false, false, false, false, false, false, false, false, false, false, false, false, false] rfl rfl (any_of HT_.out (by kernel_rfl)) (fun _ _ _ h => h) (Or.inl ⟨by rfl, ?_⟩) ?_ ?_
                              rotate_left
                              · intro w'
                                go_simp
                                with_reducible rfl
                              rotate_left
                              · simp only [Act.put, List.setIfInBounds_toArray, List.set_cons_zero, List.set_cons_succ, i64_w, i32_w]
                                rfl
                              refine pure_ (i := 8) (N := some 45) (v := ?_) (a' := ?_) #[true, true, true, true, true, false, true, true, true, false, false, false, false, false, false, false, false, false, false, false, false, false, false, false, false, false, false, false] rfl rfl (any_of HT_.out (by kernel_rfl)) (fun _ _ _ h => h) (Or.inl ⟨by rfl, ?_⟩) ?_ ?_
                              rotate_left
                              · intro w'
                                go_simp
                                with_reducible rfl
                              rotate_left
                              · simp only [Act.put, List.setIfInBounds_toArray, List.set_cons_zero, List.set_cons_succ, i64_w, i32_w]
                                rfl
                              refine pure_ (i := 9) (N := some 46) (v := ?_) (a' := ?_) #[true, true, true, true, true, false, true, true, true, true, false, false, false, false, false, false, false, false, false, false, false, false, false, false, false, false, false, false] rfl rfl (any_of HT_.out (by kernel_rfl)) (fun _ _ _ h => h) (Or.inl ⟨by rfl, ?_⟩) ?_ ?_
                              rotate_left
                              · intro w'
                                go_simp
                                with_reducible rfl
                              rotate_left
                              · simp only [Act.put, List.setIfInBounds_toArray, List.set_cons_zero, List.set_cons_succ, i64_w, i32_w]
                                rfl
                              refine pure_ (i := 10) (N := some 47) (v := ?_) (a' := ?_) #[true, true, true, true, true, false, true, true, true, true, true, false, false, false, false, false, false, false, false, false, false, false, false, false, false, false, false, false] rfl rfl (any_of HT_.out (by kernel_rfl)) (fun _ _ _ h => h) (Or.inl ⟨by rfl, ?_⟩) ?_ ?_
                              rotate_left
                              · intro w'
                                go_simp
                                with_reducible rfl
                              rotate_left
                              · simp only [Act.put, List.setIfInBounds_toArray, List.set_cons_zero, List.set_cons_succ, i64_w, i32_w]
                                rfl
                              refine pure_ (i := 12) (N := some 49) (v := ?_) (a' := ?_) #[true, true, true, true, true, false, true, true, true, true, true, false, true, false, false, false, false, false, false, false, false, false, false, false, false, false, false, false] rfl rfl (any_of HT_.out (by kernel_rfl)) (fun _ _ _ h => h) (Or.inl ⟨by rfl, ?_⟩) ?_ ?_
                              rotate_left
                              · intro w'
                                go_simp
                                with_reducible rfl
                              rotate_left
                              · simp only [Act.put, List.setIfInBounds_toArray, List.set_cons_zero, List.set_cons_succ, i64_w, i32_w]
                                rfl
                              refine pure_ (i := 13) (N := some 50) (v := ?_) (a' := ?_) #[true, true, true, true, true, false, true, true, true, true, true, false, true, true, false, false, false, false, false, false, false, false, false, false, false, false, false, false] rfl rfl (any_of HT_.out (by kernel_rfl)) (fun _ _ _ h => h) (Or.inl ⟨by rfl, ?_⟩) ?_ ?_
                              rotate_left
                              · intro w'
                                go_simp
                                with_reducible rfl
                              rotate_left
                              · simp only [Act.put, List.setIfInBounds_toArray, List.set_cons_zero, List.set_cons_succ, i64_w, i32_w]
                                rfl
                              refine pure_ (i := 14) (N := some 51) (v := ?_) (a' := ?_) #[true, true, true, true, true, false, true, true, true, true, true, false, true, true, true, false, false, false, false, false, false, false, false, false, false, false, false, false] rfl rfl (any_of HT_.out (by kernel_rfl)) (fun _ _ _ h => h) (Or.inl ⟨by rfl, ?_⟩) ?_ ?_
                              rotate_left
                              · intro w'
                                go_simp
                                with_reducible rfl
                              rotate_left
                              · simp only [Act.put, List.setIfInBounds_toArray, List.set_cons_zero, List.set_cons_succ, i64_w, i32_w]
                                rfl
                              refine pure_ (i := 15) (N := some 52) (v := ?_) (a' := ?_) #[true, true, true, true, true, false, true, true, true, true, true, false, true, true, true, true, false, false, false, false, false, false, false, false, false, false, false, false] rfl rfl (any_of HT_.out (by kernel_rfl)) (fun _ _ _ h => h) (Or.inl ⟨by rfl, ?_⟩) ?_ ?_
                              rotate_left
                              · intro w'
                                go_simp
                                with_reducible rfl
                              rotate_left
                              · simp only [Act.put, List.setIfInBounds_toArray, List.set_cons_zero, List.set_cons_succ, i64_w, i32_w]
                                rfl
                              refine pure_ (i := 17) (N := some 54) (v := ?_) (a' := ?_) #[true, true, true, true, true, false, true, true, true, true, true, false, true, true, true, true, false, true, false, false, false, false, false, false, false, false, false, false] rfl rfl (any_of HT_.out (by kernel_rfl)) (fun _ _ _ h => h) (Or.inl ⟨by rfl, ?_⟩) ?_ ?_
                              rotate_left
                              · intro w'
                                go_simp
                                with_reducible rfl
                              rotate_left
                              · simp only [Act.put, List.setIfInBounds_toArray, List.set_cons_zero, List.set_cons_succ, i64_w, i32_w]
                                rfl
                              refine pure_ (i := 18) (N := some 55) (v := ?_) (a' := ?_) #[true, true, true, true, true, false, true, true, true, true, true, false, true, true, true, true, false, true, true, false, false, false, false, false, false, false, false, false] rfl rfl (any_of HT_.out (by kernel_rfl)) (fun _ _ _ h => h) (Or.inl ⟨by rfl, ?_⟩) ?_ ?_
                              rotate_left
                              · intro w'
                                go_simp
                                with_reducible rfl
                              rotate_left
                              · simp only [Act.put, List.setIfInBounds_toArray, List.set_cons_zero, List.set_cons_succ, i64_w, i32_w]
                                rfl
                              refine pure_ (i := 19) (N := some 56) (v := ?_) (a' := ?_) #[true, true, true, true, true, false, true, true, true, true, true, false, true, true, true, true, false, true, true, true, false, false, false, false, false, false, false, false] rfl rfl (any_of HT_.out (by kernel_rfl)) (fun _ _ _ h => h) (Or.inl ⟨by rfl, ?_⟩) ?_ ?_
                              rotate_left
                              · intro w'
                                go_simp
                                with_reducible rfl
                              rotate_left
                              · simp only [Act.put, List.setIfInBounds_toArray, List.set_cons_zero, List.set_cons_succ, i64_w, i32_w]
                                rfl
                              refine pure_ (i := 20) (N := some 57) (v := ?_) (a' := ?_) #[true, true, true, true, true, false, true, true, true, true, true, false, true, true, true, true, false, true, true, true, true, false, false, false, false, false, false, false] rfl rfl (any_of HT_.out (by kernel_rfl)) (fun _ _ _ h => h) (Or.inl ⟨by rfl, ?_⟩) ?_ ?_
                              rotate_left
                              · intro w'
                                go_simp
                                with_reducible rfl
                              rotate_left
                              · simp only [Act.put, List.setIfInBounds_toArray, List.set_cons_zero, List.set_cons_succ, i64_w, i32_w]
                                rfl
                              refine take_ (i := 5) (N := some 42) (v := ?_) (a' := ?_) #[true, true, true, true, true, true, true, true, true, true, true, false, true, true, true, true, false, true, true, true, true, false, false, false, false, false, false, false] rfl rfl (take_ofW HT_.out HW_.out (by kernel_rfl)) (fun _ _ _ h => h) (Or.inl ⟨by rfl, ?_⟩) hHeld ?_ ?_
                              rotate_left
                              · rintro w' ⟨s0, s1, s2, s3, s4, s5, s6, s7, s8, s9, s10, s11, s12, s13, s14, s15⟩
                                go_simp
                                with_reducible rfl
                              rotate_left
                              · simp only [Act.put, List.setIfInBounds_toArray, List.set_cons_zero, List.set_cons_succ, i64_w, i32_w]
                                rfl
                              refine take_ (i := 11) (N := some 48) (v := ?_) (a' := ?_) #[true, true, true, true, true, true, true, true, true, true, true, true, true, true, true, true, false, true, true, true, true, false, false, false, false, false, false, false] rfl rfl (take_ofW HT_.out HW_.out (by kernel_rfl)) (fun _ _ _ h => h) (Or.inl ⟨by rfl, ?_⟩) hHeld ?_ ?_
                              rotate_left
                              · rintro w' ⟨s0, s1, s2, s3, s4, s5, s6, s7, s8, s9, s10, s11, s12, s13, s14, s15⟩
                                go_simp
                                with_reducible rfl
                              rotate_left
                              · simp only [Act.put, List.setIfInBounds_toArray, List.set_cons_zero, List.set_cons_succ, i64_w, i32_w]
                                rfl
                              refine take_ (i := 16) (N := some 53) (v := ?_) (a' := ?_) #[true, true, true, true, true, true, true, true, true, true, true, true, true, true, true, true, true, true, true, true, true, false, false, false, false, false, false, false] rfl rfl (take_ofW HT_.out HW_.out (by kernel_rfl)) (fun _ _ _ h => h) (Or.inl ⟨by rfl, ?_⟩) hHeld ?_ ?_
                              rotate_left
                              · rintro w' ⟨s0, s1, s2, s3, s4, s5, s6, s7, s8, s9, s10, s11, s12, s13, s14, s15⟩
                                go_simp
                                with_reducible rfl
                              rotate_left
                              · simp only [Act.put, List.setIfInBounds_toArray, List.set_cons_zero, List.set_cons_succ, i64_w, i32_w]
                                rfl
                              refine take_ (i := 21) (N := some 58) (v := ?_) (a' := ?_) #[true, true, true, true, true, true, true, true, true, true, true, true, true, true, true, true, true, true, true, true, true, true, false, false, false, false, false, false] rfl rfl (take_ofW HT_.out HW_.out (by kernel_rfl)) (fun _ _ _ h => h) (Or.inl ⟨by rfl, ?_⟩) hHeld ?_ ?_
                              rotate_left
                              · rintro w' ⟨s0, s1, s2, s3, s4, s5, s6, s7, s8, s9, s10, s11, s12, s13, s14, s15⟩
                                go_simp
                                with_reducible rfl
                              rotate_left
                              · simp only [Act.put, List.setIfInBounds_toArray, List.set_cons_zero, List.set_cons_succ, i64_w, i32_w]
                                rfl
                              refine one_ (i := 22) (N := some 59) #[true, true, true, true, true, true, true, true, true, true, true, true, true, true, true, true, true, true, true, true, true, true, true, false, false, false, false, false] rfl rfl (one_of HT_.out (by kernel_rfl)) (by decide) (fun K hK => ?_)
                              refine goes_ Try.func20 (by kernel_rfl) rfl #[.int .u32 ((rd_T24 x0_3 (ji17)).f1), .int .u32 ((rd_T24 x0_3 (ji17)).f2), .int .u32 ((rd_T24 x0_3 x7_2).f1), .int .u32 ((rd_T24 x0_3 x7_2).f2)] (by rfl) rfl rfl (by (try simp only [List.map_toArray, List.map_cons, List.map_nil]); first | done | (simp only [hji17]; rfl) | rfl | (simp only [List.length_drop, List.length_take]; rfl)) ?_
                              with_reducible refine (croftref03_Between.calls ((rd_T24 x0_3 (ji17)).f1) ((rd_T24 x0_3 (ji17)).f2) ((rd_T24 x0_3 x7_2).f1) ((rd_T24 x0_3 x7_2).f2) t496 t497 _ A21.out).mono ?_
                              rintro e w' ⟨rfl, ⟨nd, rfl⟩⟩
                              refine ⟨_, rfl, ?_⟩
                              refine hK.out _ _ ⟨hHeld.1, hHeld.2.1, hHeld.2.2.1, hHeld.2.2.2.1, hHeld.2.2.2.2.1, hHeld.2.2.2.2.2.1, hHeld.2.2.2.2.2.2.1, hHeld.2.2.2.2.2.2.2.1, hHeld.2.2.2.2.2.2.2.2.1, hHeld.2.2.2.2.2.2.2.2.2.1, hHeld.2.2.2.2.2.2.2.2.2.2.1, hHeld.2.2.2.2.2.2.2.2.2.2.2.1, hHeld.2.2.2.2.2.2.2.2.2.2.2.2.1, hHeld.2.2.2.2.2.2.2.2.2.2.2.2.2.1, hHeld.2.2.2.2.2.2.2.2.2.2.2.2.2.2.1, hHeld.2.2.2.2.2.2.2.2.2.2.2.2.2.2.2⟩ (fun hHeld => ?_)
                              clear hK K
                              refine norm_ (a' := ?_) ?_ ?_
                              rotate_left
                              · show Act.put _ (some 59) _ = _
                                simp only [Act.put, List.setIfInBounds_toArray, List.set_cons_zero, List.set_cons_succ, i64_w, i32_w]
                                rfl
                              refine pure_ (i := 23) (N := some 36) (v := ?_) (a' := ?_) #[true, true, true, true, true, true, true, true, true, true, true, true, true, true, true, true, true, true, true, true, true, true, true, true, false, false, false, false] rfl rfl (any_of HT_.out (by kernel_rfl)) (fun _ _ _ h => h) (Or.inl ⟨by rfl, ?_⟩) ?_ ?_
                              rotate_left
                              · intro w'
                                go_simp
                                with_reducible rfl
                              rotate_left
                              · simp only [Act.put, List.setIfInBounds_toArray, List.set_cons_zero, List.set_cons_succ, i64_w, i32_w]
                                rfl
                              refine pure_ (i := 24) (N := some 60) (v := ?_) (a' := ?_) #[true, true, true, true, true, true, true, true, true, true, true, true, true, true, true, true, true, true, true, true, true, true, true, true, true, false, false, false] rfl rfl (any_of HT_.out (by kernel_rfl)) (fun _ _ _ h => h) (Or.inl ⟨by rfl, ?_⟩) ?_ ?_
                              rotate_left
                              · intro w'
                                go_simp
                                with_reducible rfl
                              rotate_left
                              · simp only [Act.put, List.setIfInBounds_toArray, List.set_cons_zero, List.set_cons_succ, i64_w, i32_w]
                                rfl
                              refine pure_ (i := 25) (N := some 61) (v := ?_) (a' := ?_) #[true, true, true, true, true, true, true, true, true, true, true, true, true, true, true, true, true, true, true, true, true, true, true, true, true, true, false, false] rfl rfl (any_of HT_.out (by kernel_rfl)) (fun _ _ _ h => h) (Or.inl ⟨by rfl, ?_⟩) ?_ ?_
                              rotate_left
                              · intro w'
                                go_simp
                                with_reducible rfl
                              rotate_left
                              · simp only [Act.put, List.setIfInBounds_toArray, List.set_cons_zero, List.set_cons_succ, i64_w, i32_w]
                                rfl
                              refine pure_ (i := 26) (N := some 8) (v := ?_) (a' := ?_) #[true, true, true, true, true, true, true, true, true, true, true, true, true, true, true, true, true, true, true, true, true, true, true, true, true, true, true, false] rfl rfl (any_of HT_.out (by kernel_rfl)) (fun _ _ _ h => h) (Or.inl ⟨by rfl, ?_⟩) ?_ ?_
                              rotate_left
                              · intro w'
                                go_simp
                                with_reducible rfl
                              rotate_left
                              · simp only [Act.put, List.setIfInBounds_toArray, List.set_cons_zero, List.set_cons_succ, i64_w, i32_w]
                                rfl
                              refine pure_ (i := 27) (N := some 9) (v := ?_) (a' := ?_) #[true, true, true, true, true, true, true, true, true, true, true, true, true, true, true, true, true, true, true, true, true, true, true, true, true, true, true, true] rfl rfl (any_of HT_.out (by kernel_rfl)) (fun _ _ _ h => h) (Or.inl ⟨by rfl, ?_⟩) ?_ ?_
                              rotate_left
                              · intro w'
                                go_simp
                                with_reducible rfl
                              rotate_left
                              · simp only [Act.put, List.setIfInBounds_toArray, List.set_cons_zero, List.set_cons_succ, i64_w, i32_w]
                                rfl
                              refine done_ (done_of HT_.out (by kernel_rfl)) ?_
                              have p498 : 0 ≤ ((ji17) : Int) := of_decide_eq_true (by first | (with_reducible assumption) | assumption)
                              have q498 : (ji17) < (t484.length : Int) := of_decide_eq_true (by first | (with_reducible assumption) | assumption)
                              obtain ⟨ad498, e498, hx498_0, hx498_1⟩ := at_T43 (Kd.R_reads' HO_3.out).2.2 (ji17) p498 q498
                              cases e498
                              replace p498 := eq_true p498
                              replace q498 := eq_true q498
                              have hcz52_0 : w51.cell? ⟨gb487, 0, none⟩ = some (.int .u64 x488000_2) := (blk_cell BK487.out 0).trans rfl
                              have hcz52_1 : w51.cell? ⟨gb487, 1, none⟩ = some (.int .u64 x488001_2) := (blk_cell BK487.out 1).trans rfl
                              have hfz52_0 := blk_frozen BK487.out 0
                              have hfz52_1 := blk_frozen BK487.out 1
                              try go_wp2
                              go_roundg k2
                              case measure => have := HJ3.out; have := HK2.out; omega
                              case rel => exact ⟨(x5_2), (x6_2), (wrap64 (x7_2 + 1)), (IntKind.u64.wrap (x488000_2 + t496)), (IntKind.u64.wrap (x488001_2 + t497)), (by first | rfl | (simp; done) | (simp [*]; done)), (by first | rfl | (simp; done) | (simp [*]; done)), (by first | rfl | (simp; done) | (simp [*]; done)), H', ⟨by have := HJ3.out; have := HK2.out; omega⟩, ⟨by (with_reducible repeat (first | apply Kd.V_alloc | apply Kd.V_drewN | apply Kd.V_drew)); exact Kd.V_mono (Kd.V_far (p := ⟨gb487, 1, none⟩) (Kd.V_far (p := ⟨gb487, 0, none⟩) (Kd.V_mono HO_0.out (fun k_ hk => (⟨hk, hk.2.2⟩ : _ ∧ k_ ≠ gb487))) (fun _ hk => hk.2) (.int .u64 (IntKind.u64.wrap (x488000_2 + t496)))) (fun _ hk => hk.2) (.int .u64 (IntKind.u64.wrap (x488001_2 + t497)))) (fun _ hk => ⟨hk.1.1, ⟨hk.1.2.1, hk.1.2.2⟩⟩)⟩, ⟨by (with_reducible repeat (first | apply Kd.R_alloc | apply Kd.R_drewN | apply Kd.R_drew)); exact Kd.R_mono (Kd.R_far (p := ⟨gb487, 1, none⟩) (Kd.R_far (p := ⟨gb487, 0, none⟩) (Kd.R_mono HO_3.out (fun k_ hk => (⟨hk, hk.2⟩ : _ ∧ k_ ≠ gb487))) (fun _ hk => hk.2) (.int .u64 (IntKind.u64.wrap (x488000_2 + t496)))) (fun _ hk => hk.2) (.int .u64 (IntKind.u64.wrap (x488001_2 + t497)))) (fun _ hk => ⟨hk.1.1, hk.1.2⟩)⟩, ⟨by (with_reducible repeat (first | refine blk_drewN ?_ _ | refine blk_drew ?_ | refine blk_alloc ?_ _)); refine blk_put (cs := #[.int .u64 (IntKind.u64.wrap (x488000_2 + t496)), .int .u64 x488001_2]) ?_ 1 _ rfl; (with_reducible repeat (first | refine blk_drewN ?_ _ | refine blk_drew ?_ | refine blk_alloc ?_ _)); refine blk_put (cs := #[.int .u64 x488000_2, .int .u64 x488001_2]) ?_ 0 _ rfl; (with_reducible repeat (first | refine blk_drewN ?_ _ | refine blk_drew ?_ | refine blk_alloc ?_ _)); exact BK487.out⟩, ⟨by repeat (first | (with_reducible first | exact HB.out | apply below_alloc | apply pw_below_drewN | apply below_drew1 | refine below_set ?_ GE487.out) | exact HB.out)⟩⟩
                      · rw [if_neg c22] at H
                        exact absurd H (by simp)
                    · rw [if_neg c20] at H
                      exact absurd H (by simp)
                  · rw [if_neg c19] at H
                    exact absurd H (by simp)
                · rw [if_neg c18] at H
                  exact absurd H (by simp)
              · rw [if_neg c16] at H
                have c16b0 : decide (x7_2 < (x0_3.length : Int)) = false := decide_eq_false c16
                clear c16
                replace H := Option.bind_eq_some_iff.mp H
                obtain ⟨⟨t488, t489⟩, A530, H⟩ := H
                replace H : ((track_Length.f k2 x0_3).bind fun bt490 => (if (bt490.1 == x488000_2 && (bt490.2 == x488001_2)) = true then (if t488 = x5_2 then (some (t489 == x6_2)) else (some false)) else (some false))) = some r := H
                have A53 := Aside0.mk A530
                clear A530
                replace H := Option.bind_eq_some_iff.mp H
                obtain ⟨⟨t490, t491⟩, A540, H⟩ := H
                replace H : (if (t490 == x488000_2 && (t491 == x488001_2)) = true then (if t488 = x5_2 then (some (t489 == x6_2)) else (some false)) else (some false)) = some r := H
                have A54 := Aside0.mk A540
                clear A540
                by_cases c55 : (t490 == x488000_2 && (t491 == x488001_2)) = true
                · rw [if_pos c55] at H
                  have c55b0 : (t490 == x488000_2 && (t491 == x488001_2)) = true := c55
                  (try (have c55b1 : decide (t490 = x488000_2 && (t491 == x488001_2)) = true := by simpa using c55))
                  (try (have c55b2 : (t490 == x488000_2 && (t491 == x488001_2)) = true := by simpa using c55))
                  clear c55
                  by_cases c56 : t488 = x5_2
                  · rw [if_pos c56] at H
                    have c56b0 : (t488 == x5_2) = true := beq_iff_eq.mpr c56
                    have c56b1 : (t488 != x5_2) = false := bne_eq_false_iff_eq.mpr c56
                    clear c56
                    obtain rfl := Option.some.inj H
                    simp only [Option.some.injEq, Prod.mk.injEq] at H
                    obtain ⟨rfl⟩ := H
                    try go_wp2_with (first | ((with_reducible refine gate_callee (f := 36) rfl ?_); refine goesL_ (some 116) rfl rfl Try.func36 (by kernel_rfl) rfl #[.slice Ao12 x0_3.length co12] rfl (by (try simp only [List.map_toArray, List.map_cons, List.map_nil]); first | done | rfl | (simp only [List.length_drop, List.length_take]; rfl)) ?_; (with_reducible refine (track_Turns.calls k2 _ _ x0_3 t488 t489 _ ?side1 ?side2 A53.out).mono ?_); (case side1 => repeat (first | exact (Kd.V_reads' HO_0.out).2.2 | (with_reducible refine Kd.C_alloc ?_ _) | (with_reducible refine Kd.C_drewN ?_ _) | (with_reducible refine Kd.C_drew ?_))); (case side2 => exact (Kd.V_reads' HO_0.out).2.1); rintro e w57 ⟨rfl, hb⟩; refine ⟨_, rfl, ?_⟩; have n0_ := Aside0.mk (Kd.V_below (by (with_reducible repeat (first | apply Kd.V_alloc | apply Kd.V_drewN | apply Kd.V_drew)); exact HO_0.out) hb); have n1_ := Aside0.mk (Kd.R_below (by (with_reducible repeat (first | apply Kd.R_alloc | apply Kd.R_drewN | apply Kd.R_drew)); exact HO_3.out) hb); have n2_ := Aside0.mk (blk_below (g := gb487) (o := .cells #[.int .u64 x488000_2, .int .u64 x488001_2] 43 (0, 0)) (by (with_reducible repeat (first | refine blk_drewN ?_ _ | refine blk_drew ?_ | refine blk_alloc ?_ _)); exact BK487.out) hb); have n3_ := Aside0.mk (below_step (by repeat (first | (with_reducible first | exact HB.out | apply below_alloc | apply pw_below_drewN | apply below_drew1 | refine below_set ?_ GE487.out) | exact HB.out)) hb); clear HO_0; clear HO_3; clear BK487; clear HB; have HO_0 := n0_; have HO_3 := n1_; have BK487 := n2_; have HB := n3_; clear n0_ n1_ n2_ n3_; (try clear hb); (try clear hb2); (try clear hk); (try clear hi)))
                    have n0_ := Aside0.mk (Kd.V_drew HO_0.out)
                    have n1_ := Aside0.mk (Kd.R_drew HO_3.out)
                    have n2_ := Aside0.mk (blk_drew BK487.out)
                    have n3_ := Aside0.mk (below_drew1 HB.out)
                    clear HO_0
                    clear HO_3
                    clear BK487
                    clear HB
                    have HO_0 := n0_
                    have HO_3 := n1_
                    have BK487 := n2_
                    have HB := n3_
                    clear n0_ n1_ n2_ n3_
                    refine start_ (n := 15) (S := fun w' => w'.cell? ⟨gb487, 0, none⟩ = some (.int .u64 x488000_2) ∧ w'.cell? ⟨gb487, 1, none⟩ = some (.int .u64 x488001_2)) (ds := []) #[false, false, false, false, false, false, false, false, false, false, false, false, false, false, false] (by kernel_rfl) rfl rfl ⟨(blk_cell BK487.out 0).trans rfl, (blk_cell BK487.out 1).trans rfl⟩ (fun hHeld => ?_); refine with_tabW croftlaw46_TrackLegs.tab24 croftlaw46_TrackLegs.bits24 (fun HT_ HW_ => ?_)
                    generalize w57.drew = w58 at HO_0 HO_3 BK487 HB hHeld ⊢
                    refine pure_ (i := 0) (N := some 119) (v := ?_) (a' := ?_) #[true, false, false, false, false, false, false, false, false, false, false, false, false, false, false] rfl rfl (any_of HT_.out (by kernel_rfl)) (fun _ _ _ h => h) (Or.inl ⟨by rfl, ?_⟩) ?_ ?_
                    rotate_left
                    · intro w'
                      go_simp
                      with_reducible rfl
                    rotate_left
                    · simp only [Act.put, List.setIfInBounds_toArray, List.set_cons_zero, List.set_cons_succ, i64_w, i32_w]
                      rfl
                    refine take_ (i := 2) (N := some 121) (v := ?_) (a' := ?_) #[true, false, true, false, false, false, false, false, false, false, false, false, false, false, false] rfl rfl (take_ofW HT_.out HW_.out (by kernel_rfl)) (fun _ _ _ h => h) (Or.inl ⟨by rfl, ?_⟩) hHeld ?_ ?_
                    rotate_left
                    · rintro w' ⟨s0, s1⟩
                      go_simp
                      with_reducible rfl
                    rotate_left
                    · simp only [Act.put, List.setIfInBounds_toArray, List.set_cons_zero, List.set_cons_succ, i64_w, i32_w]
                      rfl
                    refine one_ (i := 1) (N := some 120) #[true, true, true, false, false, false, false, false, false, false, false, false, false, false, false] rfl rfl (one_of HT_.out (by kernel_rfl)) (by decide) (fun K hK => ?_)
                    refine goes_ Try.func37 (by kernel_rfl) rfl #[.slice Ao12 x0_3.length co12] (by rfl) rfl rfl (by (try simp only [List.map_toArray, List.map_cons, List.map_nil]); first | done | rfl | (simp only [List.length_drop, List.length_take]; rfl)) ?_
                    with_reducible refine (track_Length.calls k2 _ _ x0_3 t490 t491 _ ?side1 ?side2 A54.out).mono ?_
                    (case side1 => repeat (first | exact (Kd.V_reads' HO_0.out).2.2 | (with_reducible refine Kd.C_alloc ?_ _) | (with_reducible refine Kd.C_drewN ?_ _) | (with_reducible refine Kd.C_drew ?_)))
                    (case side2 => exact (Kd.V_reads' HO_0.out).2.1)
                    rintro e w59 ⟨rfl, hb⟩
                    refine ⟨_, rfl, ?_⟩
                    have n0_ := Aside0.mk (Kd.V_below (by (with_reducible repeat (first | apply Kd.V_alloc | apply Kd.V_drewN | apply Kd.V_drew)); exact HO_0.out) hb)
                    have n1_ := Aside0.mk (Kd.R_below (by (with_reducible repeat (first | apply Kd.R_alloc | apply Kd.R_drewN | apply Kd.R_drew)); exact HO_3.out) hb)
                    have n2_ := Aside0.mk (blk_below (g := gb487) (o := .cells #[.int .u64 x488000_2, .int .u64 x488001_2] 43 (0, 0)) (by (with_reducible repeat (first | refine blk_drewN ?_ _ | refine blk_drew ?_ | refine blk_alloc ?_ _)); exact BK487.out) hb)
                    have n3_ := Aside0.mk (below_step (by repeat (first | (with_reducible first | exact HB.out | apply below_alloc | apply pw_below_drewN | apply below_drew1 | refine below_set ?_ GE487.out) | exact HB.out)) hb)
                    clear HO_0
                    clear HO_3
                    clear BK487
                    clear HB
                    have HO_0 := n0_
                    have HO_3 := n1_
                    have BK487 := n2_
                    have HB := n3_
                    clear n0_ n1_ n2_ n3_
                    (try clear hb)
                    (try clear hb2)
                    (try clear hk)
                    (try clear hi)
                    refine hK.out _ _ ⟨(blk_cell BK487.out 0).trans rfl, (blk_cell BK487.out 1).trans rfl⟩ (fun hHeld => ?_)
                    clear hK K
                    refine norm_ (a' := ?_) ?_ ?_
                    rotate_left
                    · show Act.put _ (some 120) _ = _
                      simp only [Act.put, List.setIfInBounds_toArray, List.set_cons_zero, List.set_cons_succ, i64_w, i32_w]
                      rfl
                    refine pure_ (i := 3) (N := some 122) (v := ?_) (a' := ?_) #[true, true, true, true, false, false, false, false, false, false, false, false, false, false, false] rfl rfl (any_of HT_.out (by kernel_rfl)) (fun _ _ _ h => h) (Or.inl ⟨by rfl, ?_⟩) ?_ ?_
                    rotate_left
                    · intro w'
                      go_simp
                      with_reducible rfl
                    rotate_left
                    · simp only [Act.put, List.setIfInBounds_toArray, List.set_cons_zero, List.set_cons_succ, i64_w, i32_w]
                      rfl
                    refine pure_ (i := 4) (N := some 123) (v := ?_) (a' := ?_) #[true, true, true, true, true, false, false, false, false, false, false, false, false, false, false] rfl rfl (any_of HT_.out (by kernel_rfl)) (fun _ _ _ h => h) (Or.inl ⟨by rfl, ?_⟩) ?_ ?_
                    rotate_left
                    · intro w'
                      go_simp
                      with_reducible rfl
                    rotate_left
                    · simp only [Act.put, List.setIfInBounds_toArray, List.set_cons_zero, List.set_cons_succ, i64_w, i32_w]
                      rfl
                    refine pure_ (i := 5) (N := some 124) (v := ?_) (a' := ?_) #[true, true, true, true, true, true, false, false, false, false, false, false, false, false, false] rfl rfl (any_of HT_.out (by kernel_rfl)) (fun _ _ _ h => h) (Or.inl ⟨by rfl, ?_⟩) ?_ ?_
                    rotate_left
                    · intro w'
                      go_simp
                      with_reducible rfl
                    rotate_left
                    · simp only [Act.put, List.setIfInBounds_toArray, List.set_cons_zero, List.set_cons_succ, i64_w, i32_w]
                      rfl
                    refine pure_ (i := 6) (N := some 125) (v := ?_) (a' := ?_) #[true, true, true, true, true, true, true, false, false, false, false, false, false, false, false] rfl rfl (any_of HT_.out (by kernel_rfl)) (fun _ _ _ h => h) (Or.inl ⟨by rfl, ?_⟩) ?_ ?_
                    rotate_left
                    · intro w'
                      go_simp
                      with_reducible rfl
                    rotate_left
                    · simp only [Act.put, List.setIfInBounds_toArray, List.set_cons_zero, List.set_cons_succ, i64_w, i32_w]
                      rfl
                    refine pure_ (i := 7) (N := some 126) (v := ?_) (a' := ?_) #[true, true, true, true, true, true, true, true, false, false, false, false, false, false, false] rfl rfl (any_of HT_.out (by kernel_rfl)) (fun _ _ _ h => h) (Or.inl ⟨by rfl, ?_⟩) ?_ ?_
                    rotate_left
                    · intro w'
                      go_simp
                      with_reducible rfl
                    rotate_left
                    · simp only [Act.put, List.setIfInBounds_toArray, List.set_cons_zero, List.set_cons_succ, i64_w, i32_w]
                      rfl
                    refine pure_ (i := 8) (N := some 127) (v := ?_) (a' := ?_) #[true, true, true, true, true, true, true, true, true, false, false, false, false, false, false] rfl rfl (any_of HT_.out (by kernel_rfl)) (fun _ _ _ h => h) (Or.inl ⟨by rfl, ?_⟩) ?_ ?_
                    rotate_left
                    · intro w'
                      go_simp
                      with_reducible rfl
                    rotate_left
                    · simp only [Act.put, List.setIfInBounds_toArray, List.set_cons_zero, List.set_cons_succ, i64_w, i32_w]
                      rfl
                    refine pure_ (i := 9) (N := some 128) (v := ?_) (a' := ?_) #[true, true, true, true, true, true, true, true, true, true, false, false, false, false, false] rfl rfl (any_of HT_.out (by kernel_rfl)) (fun _ _ _ h => h) (Or.inl ⟨by rfl, ?_⟩) ?_ ?_
                    rotate_left
                    · intro w'
                      go_simp
                      with_reducible rfl
                    rotate_left
                    · simp only [Act.put, List.setIfInBounds_toArray, List.set_cons_zero, List.set_cons_succ, i64_w, i32_w]
                      rfl
                    refine pure_ (i := 10) (N := some 129) (v := ?_) (a' := ?_) #[true, true, true, true, true, true, true, true, true, true, true, false, false, false, false] rfl rfl (any_of HT_.out (by kernel_rfl)) (fun _ _ _ h => h) (Or.inl ⟨by rfl, ?_⟩) ?_ ?_
                    rotate_left
                    · intro w'
                      go_simp
                      with_reducible rfl
                    rotate_left
                    · simp only [Act.put, List.setIfInBounds_toArray, List.set_cons_zero, List.set_cons_succ, i64_w, i32_w]
                      rfl
                    refine pure_ (i := 11) (N := some 130) (v := ?_) (a' := ?_) #[true, true, true, true, true, true, true, true, true, true, true, true, false, false, false] rfl rfl (any_of HT_.out (by kernel_rfl)) (fun _ _ _ h => h) (Or.inl ⟨by rfl, ?_⟩) ?_ ?_
                    rotate_left
                    · intro w'
                      go_simp
                      with_reducible rfl
                    rotate_left
                    · simp only [Act.put, List.setIfInBounds_toArray, List.set_cons_zero, List.set_cons_succ, i64_w, i32_w]
                      rfl
                    refine pure_ (i := 12) (N := some 131) (v := ?_) (a' := ?_) #[true, true, true, true, true, true, true, true, true, true, true, true, true, false, false] rfl rfl (any_of HT_.out (by kernel_rfl)) (fun _ _ _ h => h) (Or.inl ⟨by rfl, ?_⟩) ?_ ?_
                    rotate_left
                    · intro w'
                      go_simp
                      with_reducible rfl
                    rotate_left
                    · simp only [Act.put, List.setIfInBounds_toArray, List.set_cons_zero, List.set_cons_succ, i64_w, i32_w]
                      rfl
                    refine pure_ (i := 13) (N := some 132) (v := ?_) (a' := ?_) #[true, true, true, true, true, true, true, true, true, true, true, true, true, true, false] rfl rfl (any_of HT_.out (by kernel_rfl)) (fun _ _ _ h => h) (Or.inl ⟨by rfl, ?_⟩) ?_ ?_
                    rotate_left
                    · intro w'
                      go_simp
                      with_reducible rfl
                    rotate_left
                    · simp only [Act.put, List.setIfInBounds_toArray, List.set_cons_zero, List.set_cons_succ, i64_w, i32_w]
                      rfl
                    refine pure_ (i := 14) (N := some 2) (v := ?_) (a' := ?_) #[true, true, true, true, true, true, true, true, true, true, true, true, true, true, true] rfl rfl (any_of HT_.out (by kernel_rfl)) (fun _ _ _ h => h) (Or.inl ⟨by rfl, ?_⟩) ?_ ?_
                    rotate_left
                    · intro w'
                      go_simp
                      with_reducible rfl
                    rotate_left
                    · simp only [Act.put, List.setIfInBounds_toArray, List.set_cons_zero, List.set_cons_succ, i64_w, i32_w]
                      rfl
                    refine done_ (done_of HT_.out (by kernel_rfl)) ?_
                    try go_wp2
                    go_ret
                    exact ⟨by first | rfl | (simp [errW_none, errW_some] <;> rfl) | (simp only [← hji10]; first | rfl | (simp [errW_none, errW_some] <;> rfl)) | (simp [*, errW_none, errW_some] <;> rfl), by repeat (first | (with_reducible first | exact HB.out | apply below_alloc | apply pw_below_drewN | apply below_drew1 | refine below_set ?_ GE487.out) | exact HB.out)⟩
                  · rw [if_neg c56] at H
                    have c56b0 : (t488 == x5_2) = false := beq_eq_false_iff_ne.mpr c56
                    have c56b1 : (t488 != x5_2) = true := bne_iff_ne.mpr c56
                    obtain rfl := Option.some.inj H
                    exact absurd HT.out (by simp)
                · rw [if_neg c55] at H
                  have c55b0 : (t490 == x488000_2 && (t491 == x488001_2)) = false := by simpa using c55
                  (try (have c55b1 : decide (t490 = x488000_2 && (t491 == x488001_2)) = false := by simpa using c55))
                  (try (have c55b2 : (t490 == x488000_2 && (t491 == x488001_2)) = false := by simpa using c55))
                  (try (have c55b3 : ¬ (t490 = x488000_2 && (t491 == x488001_2)) := by simpa using c55))
                  clear c55
                  obtain rfl := Option.some.inj H
                  exact absurd HT.out (by simp)
        · rw [if_neg c11] at H
          have c11b0 : ((t484.length : Int) == (ji10)) = false := beq_eq_false_iff_ne.mpr c11
          have c11b1 : ((t484.length : Int) != (ji10)) = true := bne_iff_ne.mpr c11
          obtain rfl := Option.some.inj H
          exact absurd HT.out (by simp)
  · replace c3 := Bool.eq_false_iff.mpr c3
    subst c3
    have H1 : (some false) = some r := by rw [if_neg (show ¬ (false = true) by decide)] at H; exact H
    clear H
    have H := H1
    clear H1
    obtain rfl := Option.some.inj H
    exact absurd HT.out (by simp)

/-- THE ONE PURE STATEMENT of croftlaw46_TrackLegs. -/
def croftlaw46_TrackLegs.Pure : Prop := ∀ (l0 : List (S24)), l0.length ≤ maxLen → l0.length * 32 ≤ 140737488351232 → (∀ x ∈ l0, (Lit.int .i64 x.f0).wf = true ∧ (Lit.int .u32 x.f1).wf = true ∧ (Lit.int .u32 x.f2).wf = true) → ∃ k, croftlaw46_TrackLegs.f k l0 = some true

end Go.Proofs.Ytgepbfcaimejmaa.PA
