-- Printed by a program of this session (wip/tools), out of the translation: Lean checks it.
import Derived.Test.YtgepbfcaimejmaaPAx0
import Derived.Test.YtgepbfcaimejmaaPAx5
import Derived.Test.YtgepbfcaimejmaaPAx19
namespace Go.Proofs.Ytgepbfcaimejmaa.PA
open Go.RowKit Go.Proofs.YtgepbfcaimejmaaW.PrintWords Go.Proofs.YtgepbfcaimejmaaW.PrintLast Go.Proofs.YtgepbfcaimejmaaW.PrintMore
attribute [local go_sem] max2_int min2_int max_two min_two max_three min_three max_four min_four   -- for this text's walks alone
set_option linter.unusedVariables false
set_option linter.unusedSimpArgs false

/-! ### track_Thin: function 34 -/
def track_Thin.l0 : Nat → List (S24) → List (S24) → Int → Int → Int → Int → Option ((List (S24)))
  | 0, _, _, _, _, _, _ => none
  | k + 1, x5, x9, x10, x11, x407000, x407001 => if x11 < x10 then (if 0 ≤ x11 then (if x11 < (x9.length : Int) then (if (wrap64 ((x5.length : Int) - 1)) < 0 then (if x5.length < 4398046511104 then (track_Thin.l0 k (x5 ++ [(⟨(rd_T24 x9 x11).f0, (rd_T24 x9 x11).f1, (rd_T24 x9 x11).f2, (rd_T24 x9 x11).f3⟩ : S24)]) x9 x10 (wrap64 (x11 + 1)) x407000 x407001) else (none)) else (if 0 ≤ (wrap64 ((x5.length : Int) - 1)) then (if (wrap64 ((x5.length : Int) - 1)) < (x5.length : Int) then ((track_far.f k ((rd_T24 x5 (wrap64 ((x5.length : Int) - 1))).f0) ((rd_T24 x5 (wrap64 ((x5.length : Int) - 1))).f1) ((rd_T24 x5 (wrap64 ((x5.length : Int) - 1))).f2) ((rd_T24 x5 (wrap64 ((x5.length : Int) - 1))).f3) ((rd_T24 x9 x11).f0) ((rd_T24 x9 x11).f1) ((rd_T24 x9 x11).f2) ((rd_T24 x9 x11).f3)).bind fun bt413 => ((wide_Cmp.f k bt413.1 bt413.2 x407000 x407001).bind fun t415 => (if t415 > 0 then (if x5.length < 4398046511104 then (track_Thin.l0 k (x5 ++ [(⟨(rd_T24 x9 x11).f0, (rd_T24 x9 x11).f1, (rd_T24 x9 x11).f2, (rd_T24 x9 x11).f3⟩ : S24)]) x9 x10 (wrap64 (x11 + 1)) x407000 x407001) else (none)) else (track_Thin.l0 k x5 x9 x10 (wrap64 (x11 + 1)) x407000 x407001)))) else (none)) else (none))) else (none)) else (none)) else (some x5)
def track_Thin.f (k : Nat) (l0 : List (S24)) (a1_0 : Int) (a1_1 : Int) : Option ((List (S24))) := track_Thin.l0 k ([] : List (S24)) l0 (l0.length : Int) 0 a1_0 a1_1
theorem track_Thin.mono_l : ∀ k, (∀ y0 y1 y2 y3 y4 y5, LeO (track_Thin.l0 k y0 y1 y2 y3 y4 y5) (track_Thin.l0 (k + 1) y0 y1 y2 y3 y4 y5))
  | 0 => fun _ _ _ _ _ _ r h => by simp [track_Thin.l0] at h
  | k + 1 => by
    have ih0 := track_Thin.mono_l k
    · intro y0 y1 y2 y3 y4 y5
      unfold track_Thin.l0
      repeat' first
      | (with_reducible exact ih0 _ _ _ _ _ _)
      | (with_reducible exact track_far.mono _ _ _ _ _ _ _ _ _)
      | (with_reducible exact wide_Cmp.mono _ _ _ _ _)
      | (with_reducible exact LeO.refl _)
      | (with_reducible exact LeO.none _)
      | (with_reducible refine LeO.ite ?_ ?_)
      | (with_reducible refine LeO.bind ?_ (fun _ => ?_))
      | exact ih0 _ _ _ _ _ _
      | exact track_far.mono _ _ _ _ _ _ _ _ _
      | exact wide_Cmp.mono _ _ _ _ _
      | exact LeO.none _
      | refine LeO.ite ?_ ?_
      | refine LeO.bind ?_ (fun _ => ?_)
theorem track_Thin.mono : ∀ a0 a1 a2 k, LeO (track_Thin.f k a0 a1 a2) (track_Thin.f (k + 1) a0 a1 a2) := by
  intro a0 a1 a2 k
  have ih0 := track_Thin.mono_l k
  unfold track_Thin.f
  repeat' first
      | (with_reducible exact ih0 _ _ _ _ _ _)
      | (with_reducible exact track_far.mono _ _ _ _ _ _ _ _ _)
      | (with_reducible exact wide_Cmp.mono _ _ _ _ _)
      | (with_reducible exact LeO.refl _)
      | (with_reducible exact LeO.none _)
      | (with_reducible refine LeO.ite ?_ ?_)
      | (with_reducible refine LeO.bind ?_ (fun _ => ?_))
      | exact ih0 _ _ _ _ _ _
      | exact track_far.mono _ _ _ _ _ _ _ _ _
      | exact wide_Cmp.mono _ _ _ _ _
      | exact LeO.none _
      | refine LeO.ite ?_ ?_
      | refine LeO.bind ?_ (fun _ => ?_)
def track_Thin.T6 : Bool × List (List Nat × List Nat) := (true, [([], []), ([0], [0]), ([1], [1]), ([2], [2]), ([2], [2]), ([3, 4, 2], [2, 3, 4]), ([5, 2], [2, 5]), ([2], [2]), ([6, 7, 2, 2], [2, 6, 7]), ([2], [2]), ([8, 9, 8, 2], [2, 8, 9]), ([10, 2], [2, 10]), ([2, 11], [2, 11])])
def track_Thin.B6 : List Nat := [0, 1, 3, 7, 7, 31, 63, 7, 255, 7, 1023, 2047, 4095]
theorem track_Thin.tab6 : rtab .any (opsOf Try.f34 6) = track_Thin.T6 := by kernel_rfl
theorem track_Thin.bits6 : waitsOk track_Thin.T6.2 track_Thin.B6 = true := by kernel_rfl
set_option maxHeartbeats 8000000 in
set_option maxRecDepth 100000 in
theorem track_Thin.calls (k : Nat) (A0 : Option Addr) (c0 : Nat) (l0 : List (S24)) (a1_0 : Int) (a1_1 : Int) (r : List (S24)) (w : World) (hr0 : Kd.C k24 w A0 l0.length l0) (hc0 : l0.length ≤ c0) (h : track_Thin.f k l0 a1_0 a1_1 = some r) :
    Calls Try.prog 34 #[.slice A0 l0.length c0, .agg #[.int .u64 a1_0, .int .u64 a1_1]] w fun e w' => ∃ v0_ : Value, e = .returned (v0_) ∧ Kd.R k24 24 w' w.heap.size (fun _ => True) v0_ r ∧ Below w.heap.size w w' := by
  have hu43 := Try.underlying43
  have hu24 := Try.underlying24
  have HR0 := Aside0.mk hr0
  have HC0 := Aside0.mk hc0
  clear hr0 hc0
  have HB := Aside0.mk (Below.refl w.heap.size w)
  have H : (track_Thin.l0 k ([] : List (S24)) l0 (l0.length : Int) 0 a1_0 a1_1) = some r := h
  clear h
  have H' := Aside0.mk H
  clear H
  go_enter Try.func34, Try.ntmps34
  go_wp2_with (first | ((with_reducible refine gate_dst (N := 3) rfl ?_); refine box_event ?hg (N := 3) ?hd (cs := #[.int .u64 a1_0, .int .u64 a1_1]) (t := 43) ?hr ?_; (case hd => rfl); (case hg => rfl); (case hr => first | (go_simp; done) | (go_simp; rfl)); intro gb406 hg w3 hbox hb; have n0_ := Aside0.mk (below_step (by repeat (first | (with_reducible first | exact HB.out | apply below_alloc | apply pw_below_drewN | apply below_drew1) | exact HB.out)) hb); have n1_ := Aside0.mk (hbox); have n2_ := Aside0.mk ((by rw [hg]; exact (below_size (by repeat (first | (with_reducible first | exact HB.out | apply below_alloc | apply pw_below_drewN | apply below_drew1) | exact HB.out))) : w.heap.size ≤ gb406)); have n3_ := Aside0.mk ((by rw [hg]; exact (below_size (by repeat (first | (with_reducible first | exact HB.out | apply below_alloc | apply pw_below_drewN | apply below_drew1) | exact HB.out))) : w.heap.size ≤ gb406)); clear HB; have HB := n0_; have BK406 := n1_; have GW406 := n2_; have GE406 := n3_; clear n0_ n1_ n2_ n3_; clear hb hbox hg))
  go_loopg [5, 11] k (fun kq v5 v11 w' => ∃ (x5_1 : List (S24)) (x11_1 : Int), v11 = .int .i64 x11_1 ∧ Aside0 (track_Thin.l0 kq x5_1 l0 (l0.length : Int) x11_1 a1_0 a1_1 = some r) ∧ Aside0 (kq ≤ k) ∧ Aside0 (Kd.R k24 24 w' w.heap.size (fun _ => True) v5 x5_1) ∧ Aside0 (w'.heap[gb406]? = some (.cells #[.int .u64 a1_0, .int .u64 a1_1] 43 (0, 0))) ∧ Aside0 (Below w.heap.size w w'))
  case atStart => exact ⟨(([] : List (S24))), (0), (by first | rfl | (simp; done) | (simp [*]; done)), H', ⟨Nat.le_refl _⟩, ⟨by first | exact Kd.R_nil _ _ _ _ _ | exact Kd.N_nil _ _ _ _ _ | exact Kd.V_nil _ _ _ _ _ | exact Kd.Q_nil _ _ _ _ _ | exact Kd.S_nil _ _ _ _ _⟩, ⟨by (with_reducible repeat (first | refine blk_drewN ?_ _ | refine blk_drew ?_ | refine blk_alloc ?_ _)); exact BK406.out⟩, ⟨by repeat (first | (with_reducible first | exact HB.out | apply below_alloc | apply pw_below_drewN | apply below_drew1 | refine below_set ?_ GE406.out) | exact HB.out)⟩⟩
  case round =>
    clear H'
    try clear p2
    try clear c3
    obtain ⟨x5_1, x11_1, rfl, HA, HK1, HO_5, BK406, HB⟩ := hrel
    cases gk with
    | zero => exact absurd HA.out (by simp [track_Thin.l0])
    | succ k1 =>
      have H := HA.out
      clear HA
      simp only [track_Thin.l0] at H
      by_cases c4 : x11_1 < (l0.length : Int)
      · rw [if_pos c4] at H
        have c4b0 : decide (x11_1 < (l0.length : Int)) = true := decide_eq_true c4
        clear c4
        by_cases c5 : 0 ≤ x11_1
        · rw [if_pos c5] at H
          have c5b0 : decide (0 ≤ x11_1) = true := decide_eq_true c5
          clear c5
          by_cases c6 : x11_1 < (l0.length : Int)
          · rw [if_pos c6] at H
            have c6b0 : decide (x11_1 < (l0.length : Int)) = true := decide_eq_true c6
            clear c6
            by_cases c7 : (wrap64 ((x5_1.length : Int) - 1)) < 0
            · rw [if_pos c7] at H
              have c7b0 : decide ((wrap64 ((x5_1.length : Int) - 1)) < 0) = true := decide_eq_true c7
              clear c7
              by_cases c8 : x5_1.length < 4398046511104
              · rw [if_pos c8] at H
                have LMc8 := Aside0.mk c8
                clear c8
                obtain ⟨y409, hy409⟩ : ∃ y_ : List (S24), y_ = (x5_1 ++ [(⟨(rd_T24 l0 x11_1).f0, (rd_T24 l0 x11_1).f1, (rd_T24 l0 x11_1).f2, (rd_T24 l0 x11_1).f3⟩ : S24)]) := ⟨_, rfl⟩
                replace H : (track_Thin.l0 k1 y409 l0 (l0.length : Int) (wrap64 (x11_1 + 1)) a1_0 a1_1) = some r := by first | (rw [hy409]; with_reducible exact H) | (have H2_ := (Option.bind_some _ _).symm.trans H; rw [hy409]; with_reducible exact H2_) | (have H2_ := (Option.bind_some _ _).symm.trans H; with_reducible exact H2_) | with_reducible exact H | (rw [hy409]; exact H) | exact H
                have Ny409 := Aside0.mk hy409
                clear hy409
                have H' := Aside0.mk H
                clear H
                have p407 : 0 ≤ (x11_1 : Int) := of_decide_eq_true (by first | (with_reducible assumption) | assumption)
                have q407 : x11_1 < (l0.length : Int) := of_decide_eq_true (by first | (with_reducible assumption) | assumption)
                obtain ⟨ad407, e407, hx407_0, hx407_1, hx407_2, hx407_3⟩ := at_T24 HR0.out x11_1 p407 q407
                cases e407
                replace hx407_0 := (HB.out.cell (World.block_lt_of_cell? w _ hx407_0)).trans hx407_0
                replace hx407_1 := (HB.out.cell (World.block_lt_of_cell? w _ hx407_1)).trans hx407_1
                replace hx407_2 := (HB.out.cell (World.block_lt_of_cell? w _ hx407_2)).trans hx407_2
                replace hx407_3 := (HB.out.cell (World.block_lt_of_cell? w _ hx407_3)).trans hx407_3
                replace p407 := eq_true p407
                replace q407 := eq_true q407
                try go_wp2_with (first | ((with_reducible refine gate_dst (N := 7) rfl ?_); refine box_event ?hg (N := 7) ?hd (cs := #[.int .i64 0, .int .u32 0, .int .u32 0, .string (⟨#[]⟩ : ByteArray)]) (t := 24) ?hr ?_; (case hd => rfl); (case hg => rfl); (case hr => first | (go_simp; done) | (go_simp; rfl)); intro gb408 hg w9 hbox hb; have n0_ := Aside0.mk (Kd.R_below (Kd.R_elderB (by (with_reducible repeat (first | apply Kd.R_alloc | apply Kd.R_drewN | apply Kd.R_drew)); exact HO_5.out) gb408 (Nat.le_of_eq hg.symm)) hb); have n1_ := Aside0.mk (blk_below (g := gb406) (o := .cells #[.int .u64 a1_0, .int .u64 a1_1] 43 (0, 0)) (by (with_reducible repeat (first | refine blk_drewN ?_ _ | refine blk_drew ?_ | refine blk_alloc ?_ _)); exact BK406.out) hb); have n2_ := Aside0.mk (below_step (by repeat (first | (with_reducible first | exact HB.out | apply below_alloc | apply pw_below_drewN | apply below_drew1 | refine below_set ?_ GE406.out) | exact HB.out)) hb); have n3_ := Aside0.mk (hbox); have n4_ := Aside0.mk ((by rw [hg]; exact (below_size (by repeat (first | (with_reducible first | exact HB.out | apply below_alloc | apply pw_below_drewN | apply below_drew1 | refine below_set ?_ GE406.out) | exact HB.out))) : w.heap.size ≤ gb408)); have n5_ := Aside0.mk ((by rw [hg]; exact (below_size (by repeat (first | (with_reducible first | exact HB.out | apply below_alloc | apply pw_below_drewN | apply below_drew1 | refine below_set ?_ GE406.out) | exact HB.out))) : w.heap.size ≤ gb408)); have n6_ := Aside0.mk ((by rw [hg]; exact Nat.ne_of_lt (blk_lt (g := gb406) (o := .cells #[.int .u64 a1_0, .int .u64 a1_1] 43 (0, 0)) (by (with_reducible repeat (first | refine blk_drewN ?_ _ | refine blk_drew ?_ | refine blk_alloc ?_ _)); exact BK406.out)) : gb406 ≠ gb408)); have n7_ := Aside0.mk ((by rw [hg]; exact Nat.ne_of_gt (blk_lt (g := gb406) (o := .cells #[.int .u64 a1_0, .int .u64 a1_1] 43 (0, 0)) (by (with_reducible repeat (first | refine blk_drewN ?_ _ | refine blk_drew ?_ | refine blk_alloc ?_ _)); exact BK406.out)) : gb408 ≠ gb406)); clear HO_5; clear BK406; clear HB; have HO_5 := n0_; have BK406 := n1_; have HB := n2_; have BK408 := n3_; have GW408 := n4_; have GE408 := n5_; have NB406_408 := n6_; have NB408_406 := n7_; clear n0_ n1_ n2_ n3_ n4_ n5_ n6_ n7_; clear hb hbox hg; have hnb10 := NB408_406.out; have hnc10 := NB406_408.out; have hcz11_0 : w9.cell? ⟨gb408, 0, none⟩ = some (.int .i64 0) := (blk_cell BK408.out 0).trans rfl; have hcz11_1 : w9.cell? ⟨gb408, 1, none⟩ = some (.int .u32 0) := (blk_cell BK408.out 1).trans rfl; have hcz11_2 : w9.cell? ⟨gb408, 2, none⟩ = some (.int .u32 0) := (blk_cell BK408.out 2).trans rfl; have hcz11_3 : w9.cell? ⟨gb408, 3, none⟩ = some (.string (⟨#[]⟩ : ByteArray)) := (blk_cell BK408.out 3).trans rfl; have hfz11_0 := blk_frozen BK408.out 0; have hfz11_1 := blk_frozen BK408.out 1; have hfz11_2 := blk_frozen BK408.out 2; have hfz11_3 := blk_frozen BK408.out 3; obtain ⟨Ao12, co12, eo12⟩ := Kd.R_slice HO_5.out; subst eo12))
                have n0_ : Aside0 (Kd.R k24 24 ((((w9.setCell ⟨gb408, 0, none⟩ (.int .i64 ((rd_T24 l0 x11_1).f0))).setCell ⟨gb408, 1, none⟩ (.int .u32 ((rd_T24 l0 x11_1).f1))).setCell ⟨gb408, 2, none⟩ (.int .u32 ((rd_T24 l0 x11_1).f2))).setCell ⟨gb408, 3, none⟩ (.string ((rd_T24 l0 x11_1).f3))) w.heap.size (fun k_ => k_ ≠ gb408) (.slice Ao12 x5_1.length co12) x5_1) := ⟨by (with_reducible repeat (first | apply Kd.R_alloc | apply Kd.R_drewN | apply Kd.R_drew)); exact Kd.R_mono (Kd.R_far (p := ⟨gb408, 3, none⟩) (Kd.R_far (p := ⟨gb408, 2, none⟩) (Kd.R_far (p := ⟨gb408, 1, none⟩) (Kd.R_far (p := ⟨gb408, 0, none⟩) (Kd.R_mono HO_5.out (fun k_ hk => (⟨hk, hk.2⟩ : _ ∧ k_ ≠ gb408))) (fun _ hk => hk.2) (.int .i64 ((rd_T24 l0 x11_1).f0))) (fun _ hk => hk.2) (.int .u32 ((rd_T24 l0 x11_1).f1))) (fun _ hk => hk.2) (.int .u32 ((rd_T24 l0 x11_1).f2))) (fun _ hk => hk.2) (.string ((rd_T24 l0 x11_1).f3))) (fun _ hk => hk.1.2)⟩
                have n1_ : Aside0 (((((w9.setCell ⟨gb408, 0, none⟩ (.int .i64 ((rd_T24 l0 x11_1).f0))).setCell ⟨gb408, 1, none⟩ (.int .u32 ((rd_T24 l0 x11_1).f1))).setCell ⟨gb408, 2, none⟩ (.int .u32 ((rd_T24 l0 x11_1).f2))).setCell ⟨gb408, 3, none⟩ (.string ((rd_T24 l0 x11_1).f3))).heap[gb406]? = some (.cells #[.int .u64 a1_0, .int .u64 a1_1] 43 (0, 0))) := ⟨by (with_reducible repeat (first | refine blk_drewN ?_ _ | refine blk_drew ?_ | refine blk_alloc ?_ _)); refine blk_far ?_ NB406_408.out _; (with_reducible repeat (first | refine blk_drewN ?_ _ | refine blk_drew ?_ | refine blk_alloc ?_ _)); refine blk_far ?_ NB406_408.out _; (with_reducible repeat (first | refine blk_drewN ?_ _ | refine blk_drew ?_ | refine blk_alloc ?_ _)); refine blk_far ?_ NB406_408.out _; (with_reducible repeat (first | refine blk_drewN ?_ _ | refine blk_drew ?_ | refine blk_alloc ?_ _)); refine blk_far ?_ NB406_408.out _; (with_reducible repeat (first | refine blk_drewN ?_ _ | refine blk_drew ?_ | refine blk_alloc ?_ _)); exact BK406.out⟩
                have n2_ : Aside0 (((((w9.setCell ⟨gb408, 0, none⟩ (.int .i64 ((rd_T24 l0 x11_1).f0))).setCell ⟨gb408, 1, none⟩ (.int .u32 ((rd_T24 l0 x11_1).f1))).setCell ⟨gb408, 2, none⟩ (.int .u32 ((rd_T24 l0 x11_1).f2))).setCell ⟨gb408, 3, none⟩ (.string ((rd_T24 l0 x11_1).f3))).heap[gb408]? = some (.cells #[.int .i64 ((rd_T24 l0 x11_1).f0), .int .u32 ((rd_T24 l0 x11_1).f1), .int .u32 ((rd_T24 l0 x11_1).f2), .string ((rd_T24 l0 x11_1).f3)] 24 (0, 0))) := ⟨by (with_reducible repeat (first | refine blk_drewN ?_ _ | refine blk_drew ?_ | refine blk_alloc ?_ _)); refine blk_put (cs := #[.int .i64 ((rd_T24 l0 x11_1).f0), .int .u32 ((rd_T24 l0 x11_1).f1), .int .u32 ((rd_T24 l0 x11_1).f2), .string (⟨#[]⟩ : ByteArray)]) ?_ 3 _ rfl; (with_reducible repeat (first | refine blk_drewN ?_ _ | refine blk_drew ?_ | refine blk_alloc ?_ _)); refine blk_put (cs := #[.int .i64 ((rd_T24 l0 x11_1).f0), .int .u32 ((rd_T24 l0 x11_1).f1), .int .u32 0, .string (⟨#[]⟩ : ByteArray)]) ?_ 2 _ rfl; (with_reducible repeat (first | refine blk_drewN ?_ _ | refine blk_drew ?_ | refine blk_alloc ?_ _)); refine blk_put (cs := #[.int .i64 ((rd_T24 l0 x11_1).f0), .int .u32 0, .int .u32 0, .string (⟨#[]⟩ : ByteArray)]) ?_ 1 _ rfl; (with_reducible repeat (first | refine blk_drewN ?_ _ | refine blk_drew ?_ | refine blk_alloc ?_ _)); refine blk_put (cs := #[.int .i64 0, .int .u32 0, .int .u32 0, .string (⟨#[]⟩ : ByteArray)]) ?_ 0 _ rfl; (with_reducible repeat (first | refine blk_drewN ?_ _ | refine blk_drew ?_ | refine blk_alloc ?_ _)); exact BK408.out⟩
                have n3_ : Aside0 (Below w.heap.size w ((((w9.setCell ⟨gb408, 0, none⟩ (.int .i64 ((rd_T24 l0 x11_1).f0))).setCell ⟨gb408, 1, none⟩ (.int .u32 ((rd_T24 l0 x11_1).f1))).setCell ⟨gb408, 2, none⟩ (.int .u32 ((rd_T24 l0 x11_1).f2))).setCell ⟨gb408, 3, none⟩ (.string ((rd_T24 l0 x11_1).f3)))) := ⟨by repeat (first | (with_reducible first | exact HB.out | apply below_alloc | apply pw_below_drewN | apply below_drew1 | refine below_set ?_ GE406.out | refine below_set ?_ GE408.out) | exact HB.out)⟩
                (try clear HO_5)
                (try clear BK406)
                (try clear BK408)
                (try clear HB)
                generalize ((((w9.setCell ⟨gb408, 0, none⟩ (.int .i64 ((rd_T24 l0 x11_1).f0))).setCell ⟨gb408, 1, none⟩ (.int .u32 ((rd_T24 l0 x11_1).f1))).setCell ⟨gb408, 2, none⟩ (.int .u32 ((rd_T24 l0 x11_1).f2))).setCell ⟨gb408, 3, none⟩ (.string ((rd_T24 l0 x11_1).f3))) = w13 at n0_ n1_ n2_ n3_ ⊢
                have HO_5 := n0_
                have BK406 := n1_
                have BK408 := n2_
                have HB := n3_
                clear n0_ n1_ n2_ n3_
                have n0_ := Aside0.mk (Kd.R_drew HO_5.out)
                have n1_ := Aside0.mk (blk_drew BK406.out)
                have n2_ := Aside0.mk (blk_drew BK408.out)
                have n3_ := Aside0.mk (below_drew1 HB.out)
                clear HO_5
                clear BK406
                clear BK408
                clear HB
                have HO_5 := n0_
                have BK406 := n1_
                have BK408 := n2_
                have HB := n3_
                clear n0_ n1_ n2_ n3_
                refine start_ (n := 13) (S := fun w' => True) (ds := []) #[false, false, false, false, false, false, false, false, false, false, false, false, false] (by kernel_rfl) rfl rfl trivial (fun hHeld => ?_); refine with_tabW track_Thin.tab6 track_Thin.bits6 (fun HT_ HW_ => ?_)
                generalize w13.drew = w14 at HO_5 BK406 BK408 HB hHeld ⊢
                refine pure_ (i := 0) (N := some 18) (v := ?_) (a' := ?_) #[true, false, false, false, false, false, false, false, false, false, false, false, false] rfl rfl (any_of HT_.out (by kernel_rfl)) (fun _ _ _ h => h) (Or.inl ⟨by rfl, ?_⟩) ?_ ?_
                rotate_left
                · intro w'
                  go_simp
                  with_reducible rfl
                rotate_left
                · simp only [Act.put, List.setIfInBounds_toArray, List.set_cons_zero, List.set_cons_succ, i64_w, i32_w]
                  rfl
                refine pure_ (i := 1) (N := some 19) (v := ?_) (a' := ?_) #[true, true, false, false, false, false, false, false, false, false, false, false, false] rfl rfl (any_of HT_.out (by kernel_rfl)) (fun _ _ _ h => h) (Or.inl ⟨by rfl, ?_⟩) ?_ ?_
                rotate_left
                · intro w'
                  go_simp
                  with_reducible rfl
                rotate_left
                · simp only [Act.put, List.setIfInBounds_toArray, List.set_cons_zero, List.set_cons_succ, i64_w, i32_w]
                  rfl
                refine pure_ (i := 2) (N := some 20) (v := ?_) (a' := ?_) #[true, true, true, false, false, false, false, false, false, false, false, false, false] rfl rfl (any_of HT_.out (by kernel_rfl)) (fun _ _ _ h => h) (Or.inl ⟨by rfl, ?_⟩) ?_ ?_
                rotate_left
                · intro w'
                  go_simp
                  with_reducible rfl
                rotate_left
                · simp only [Act.put, List.setIfInBounds_toArray, List.set_cons_zero, List.set_cons_succ, i64_w, i32_w]
                  rfl
                refine pure_ (i := 3) (N := some 21) (v := undef) (a' := ?_) #[true, true, true, true, false, false, false, false, false, false, false, false, false] rfl rfl (any_of HT_.out (by kernel_rfl)) (fun _ _ _ h => h) (Or.inr ⟨by rfl, rfl⟩) ?_ ?_
                rotate_left
                · simp only [Act.put, List.setIfInBounds_toArray, List.set_cons_zero, List.set_cons_succ, i64_w, i32_w]
                  rfl
                refine pure_ (i := 4) (N := some 22) (v := undef) (a' := ?_) #[true, true, true, true, true, false, false, false, false, false, false, false, false] rfl rfl (any_of HT_.out (by kernel_rfl)) (fun _ _ _ h => h) (Or.inr ⟨by rfl, rfl⟩) ?_ ?_
                rotate_left
                · simp only [Act.put, List.setIfInBounds_toArray, List.set_cons_zero, List.set_cons_succ, i64_w, i32_w]
                  rfl
                refine pure_ (i := 5) (N := some 23) (v := undef) (a' := ?_) #[true, true, true, true, true, true, false, false, false, false, false, false, false] rfl rfl (any_of HT_.out (by kernel_rfl)) (fun _ _ _ h => h) (Or.inr ⟨by rfl, rfl⟩) ?_ ?_
                rotate_left
                · simp only [Act.put, List.setIfInBounds_toArray, List.set_cons_zero, List.set_cons_succ, i64_w, i32_w]
                  rfl
                refine pure_ (i := 6) (N := some 24) (v := undef) (a' := ?_) #[true, true, true, true, true, true, true, false, false, false, false, false, false] rfl rfl (any_of HT_.out (by kernel_rfl)) (fun _ _ _ h => h) (Or.inr ⟨by rfl, rfl⟩) ?_ ?_
                rotate_left
                · simp only [Act.put, List.setIfInBounds_toArray, List.set_cons_zero, List.set_cons_succ, i64_w, i32_w]
                  rfl
                refine pure_ (i := 7) (N := some 25) (v := undef) (a' := ?_) #[true, true, true, true, true, true, true, true, false, false, false, false, false] rfl rfl (any_of HT_.out (by kernel_rfl)) (fun _ _ _ h => h) (Or.inr ⟨by rfl, rfl⟩) ?_ ?_
                rotate_left
                · simp only [Act.put, List.setIfInBounds_toArray, List.set_cons_zero, List.set_cons_succ, i64_w, i32_w]
                  rfl
                refine pure_ (i := 8) (N := some 26) (v := undef) (a' := ?_) #[true, true, true, true, true, true, true, true, true, false, false, false, false] rfl rfl (any_of HT_.out (by kernel_rfl)) (fun _ _ _ h => h) (Or.inr ⟨by rfl, rfl⟩) ?_ ?_
                rotate_left
                · simp only [Act.put, List.setIfInBounds_toArray, List.set_cons_zero, List.set_cons_succ, i64_w, i32_w]
                  rfl
                refine pure_ (i := 9) (N := some 27) (v := undef) (a' := ?_) #[true, true, true, true, true, true, true, true, true, true, false, false, false] rfl rfl (any_of HT_.out (by kernel_rfl)) (fun _ _ _ h => h) (Or.inr ⟨by rfl, rfl⟩) ?_ ?_
                rotate_left
                · simp only [Act.put, List.setIfInBounds_toArray, List.set_cons_zero, List.set_cons_succ, i64_w, i32_w]
                  rfl
                refine pure_ (i := 10) (N := some 28) (v := undef) (a' := ?_) #[true, true, true, true, true, true, true, true, true, true, true, false, false] rfl rfl (any_of HT_.out (by kernel_rfl)) (fun _ _ _ h => h) (Or.inr ⟨by rfl, rfl⟩) ?_ ?_
                rotate_left
                · simp only [Act.put, List.setIfInBounds_toArray, List.set_cons_zero, List.set_cons_succ, i64_w, i32_w]
                  rfl
                refine pure_ (i := 11) (N := some 29) (v := undef) (a' := ?_) #[true, true, true, true, true, true, true, true, true, true, true, true, false] rfl rfl (any_of HT_.out (by kernel_rfl)) (fun _ _ _ h => h) (Or.inr ⟨by rfl, rfl⟩) ?_ ?_
                rotate_left
                · simp only [Act.put, List.setIfInBounds_toArray, List.set_cons_zero, List.set_cons_succ, i64_w, i32_w]
                  rfl
                refine pure_ (i := 12) (N := some 30) (v := ?_) (a' := ?_) #[true, true, true, true, true, true, true, true, true, true, true, true, true] rfl rfl (any_of HT_.out (by kernel_rfl)) (fun _ _ _ h => h) (Or.inl ⟨by rfl, ?_⟩) ?_ ?_
                rotate_left
                · intro w'
                  go_simp
                  with_reducible rfl
                rotate_left
                · simp only [Act.put, List.setIfInBounds_toArray, List.set_cons_zero, List.set_cons_succ, i64_w, i32_w]
                  rfl
                refine done_ (done_of HT_.out (by kernel_rfl)) ?_
                have hcz15_0 : w14.cell? ⟨gb408, 0, none⟩ = some (.int .i64 ((rd_T24 l0 x11_1).f0)) := (blk_cell BK408.out 0).trans rfl
                have hcz15_1 : w14.cell? ⟨gb408, 1, none⟩ = some (.int .u32 ((rd_T24 l0 x11_1).f1)) := (blk_cell BK408.out 1).trans rfl
                have hcz15_2 : w14.cell? ⟨gb408, 2, none⟩ = some (.int .u32 ((rd_T24 l0 x11_1).f2)) := (blk_cell BK408.out 2).trans rfl
                have hcz15_3 : w14.cell? ⟨gb408, 3, none⟩ = some (.string ((rd_T24 l0 x11_1).f3)) := (blk_cell BK408.out 3).trans rfl
                have hfz15_0 := blk_frozen BK408.out 0
                have hfz15_1 := blk_frozen BK408.out 1
                have hfz15_2 := blk_frozen BK408.out 2
                have hfz15_3 := blk_frozen BK408.out 3
                try go_wp2_with (first | ((with_reducible refine gate_builtin (b := .append) (xs := #[.tmp 31, .tmp 33]) rfl ?_); at_builtin; refine Kd.R_append k24 (w0 := w) w.heap.size rfl (.tmp 31) (.tmp 33) 27 24 (.agg #[(.int .i64 0), (.int .u32 0), (.int .u32 0), (.string ⟨#[]⟩)]) 32 rfl Try.underlying27 info24 rfl (by decide) (by omega) (.slice Ao12 x5_1.length co12) x5_1 (⟨(rd_T24 l0 x11_1).f0, (rd_T24 l0 x11_1).f1, (rd_T24 l0 x11_1).f2, (rd_T24 l0 x11_1).f3⟩ : S24) [.int .i64 ((rd_T24 l0 x11_1).f0), .int .u32 ((rd_T24 l0 x11_1).f1), .int .u32 ((rd_T24 l0 x11_1).f2), .string ((rd_T24 l0 x11_1).f3)] (fun k_ => k_ ≠ gb408) (fun _ => False) rfl rfl ?aP (fun _ hk => hk.elim) ?aF ?aO ?aB ?aS ?aL ?_; (case aP => exact k24_mkM _ _ _ (⟨(rd_T24 l0 x11_1).f0, (rd_T24 l0 x11_1).f1, (rd_T24 l0 x11_1).f2, (rd_T24 l0 x11_1).f3⟩ : S24)); (case aB => exact (by repeat (first | (with_reducible first | exact HB.out | apply below_alloc | apply pw_below_drewN | apply below_drew1 | refine below_set ?_ GE406.out | refine below_set ?_ GE408.out) | exact HB.out))); (case aF => exact (fun k_ hk => Kd.freshB (g := gb408) (o := .cells #[.int .i64 ((rd_T24 l0 x11_1).f0), .int .u32 ((rd_T24 l0 x11_1).f1), .int .u32 ((rd_T24 l0 x11_1).f2), .string ((rd_T24 l0 x11_1).f3)] 24 (0, 0)) (by (with_reducible repeat (first | refine blk_drewN ?_ _ | refine blk_drew ?_ | refine blk_alloc ?_ _)); exact BK408.out) k_ hk)); (case aO => exact (by (with_reducible repeat (first | apply Kd.R_alloc | apply Kd.R_drewN | apply Kd.R_drew)); exact HO_5.out)); (case aS => exact (below_size (by repeat (first | (with_reducible first | exact HB.out | apply below_alloc | apply pw_below_drewN | apply below_drew1 | refine below_set ?_ GE406.out | refine below_set ?_ GE408.out) | exact HB.out)))); (case aL => have := LMc8.out; omega); intro v410 w16 ho hb hg hat; rw [← Ny409.out] at ho; have n0_ := Aside0.mk (blk_grown (g := gb406) (o := .cells #[.int .u64 a1_0, .int .u64 a1_1] 43 (0, 0)) (by (with_reducible repeat (first | refine blk_drewN ?_ _ | refine blk_drew ?_ | refine blk_alloc ?_ _)); exact BK406.out) hg (Kd.R_ne HO_5.out BK406.out (by decide))); have n1_ := Aside0.mk (blk_grown (g := gb408) (o := .cells #[.int .i64 ((rd_T24 l0 x11_1).f0), .int .u32 ((rd_T24 l0 x11_1).f1), .int .u32 ((rd_T24 l0 x11_1).f2), .string ((rd_T24 l0 x11_1).f3)] 24 (0, 0)) (by (with_reducible repeat (first | refine blk_drewN ?_ _ | refine blk_drew ?_ | refine blk_alloc ?_ _)); exact BK408.out) hg (Kd.R_away HO_5.out (fun _ hk => hk))); have n2_ := Aside0.mk (hb); have n3_ := Aside0.mk (ho); clear BK406; clear BK408; clear HB; clear HO_5; have BK406 := n0_; have BK408 := n1_; have HB := n2_; have HO411 := n3_; clear n0_ n1_ n2_ n3_; clear ho hb hg hat))
                go_roundg k1
                case measure => have := HK1.out; omega
                case rel => exact ⟨(y409), (wrap64 (x11_1 + 1)), (by first | rfl | (simp; done) | (simp [*]; done)), H', ⟨by have := HK1.out; omega⟩, ⟨by (with_reducible repeat (first | apply Kd.R_alloc | apply Kd.R_drewN | apply Kd.R_drew)); exact Kd.R_mono HO411.out (fun _ hk => trivial)⟩, ⟨by (with_reducible repeat (first | refine blk_drewN ?_ _ | refine blk_drew ?_ | refine blk_alloc ?_ _)); exact BK406.out⟩, ⟨by repeat (first | (with_reducible first | exact HB.out | apply below_alloc | apply pw_below_drewN | apply below_drew1 | refine below_set ?_ GE406.out | refine below_set ?_ GE408.out) | exact HB.out)⟩⟩
              · rw [if_neg c8] at H
                exact absurd H (by simp)
            · rw [if_neg c7] at H
              have c7b0 : decide ((wrap64 ((x5_1.length : Int) - 1)) < 0) = false := decide_eq_false c7
              clear c7
              obtain ⟨ji17, hji17⟩ : ∃ j_ : Int, (wrap64 ((x5_1.length : Int) - 1)) = j_ := ⟨_, rfl⟩
              replace H : (if 0 ≤ (ji17) then (if (ji17) < (x5_1.length : Int) then ((track_far.f k1 ((rd_T24 x5_1 (ji17)).f0) ((rd_T24 x5_1 (ji17)).f1) ((rd_T24 x5_1 (ji17)).f2) ((rd_T24 x5_1 (ji17)).f3) ((rd_T24 l0 x11_1).f0) ((rd_T24 l0 x11_1).f1) ((rd_T24 l0 x11_1).f2) ((rd_T24 l0 x11_1).f3)).bind fun bt413 => ((wide_Cmp.f k1 bt413.1 bt413.2 a1_0 a1_1).bind fun t415 => (if t415 > 0 then (if x5_1.length < 4398046511104 then (track_Thin.l0 k1 (x5_1 ++ [(⟨(rd_T24 l0 x11_1).f0, (rd_T24 l0 x11_1).f1, (rd_T24 l0 x11_1).f2, (rd_T24 l0 x11_1).f3⟩ : S24)]) l0 (l0.length : Int) (wrap64 (x11_1 + 1)) a1_0 a1_1) else (none)) else (track_Thin.l0 k1 x5_1 l0 (l0.length : Int) (wrap64 (x11_1 + 1)) a1_0 a1_1)))) else (none)) else (none)) = some r := by first | (rw [hji17] at H; exact H) | (simp only [hji17] at H ⊢; exact H)
              (try rw [hji17] at c7b0)
              have hji17w : (IntKind.i64.wrap ((x5_1.length : Int) - 1)) = ji17 := (i64_w _).trans hji17
              by_cases c18 : 0 ≤ (ji17)
              · rw [if_pos c18] at H
                have c18b0 : decide (0 ≤ (ji17)) = true := decide_eq_true c18
                clear c18
                by_cases c19 : (ji17) < (x5_1.length : Int)
                · rw [if_pos c19] at H
                  have c19b0 : decide ((ji17) < (x5_1.length : Int)) = true := decide_eq_true c19
                  clear c19
                  replace H := Option.bind_eq_some_iff.mp H
                  obtain ⟨⟨t413, t414⟩, A200, H⟩ := H
                  replace H : ((wide_Cmp.f k1 t413 t414 a1_0 a1_1).bind fun t415 => (if t415 > 0 then (if x5_1.length < 4398046511104 then (track_Thin.l0 k1 (x5_1 ++ [(⟨(rd_T24 l0 x11_1).f0, (rd_T24 l0 x11_1).f1, (rd_T24 l0 x11_1).f2, (rd_T24 l0 x11_1).f3⟩ : S24)]) l0 (l0.length : Int) (wrap64 (x11_1 + 1)) a1_0 a1_1) else (none)) else (track_Thin.l0 k1 x5_1 l0 (l0.length : Int) (wrap64 (x11_1 + 1)) a1_0 a1_1))) = some r := H
                  have A20 := Aside0.mk A200
                  clear A200
                  replace H := Option.bind_eq_some_iff.mp H
                  obtain ⟨t415, A210, H⟩ := H
                  replace H : (if t415 > 0 then (if x5_1.length < 4398046511104 then (track_Thin.l0 k1 (x5_1 ++ [(⟨(rd_T24 l0 x11_1).f0, (rd_T24 l0 x11_1).f1, (rd_T24 l0 x11_1).f2, (rd_T24 l0 x11_1).f3⟩ : S24)]) l0 (l0.length : Int) (wrap64 (x11_1 + 1)) a1_0 a1_1) else (none)) else (track_Thin.l0 k1 x5_1 l0 (l0.length : Int) (wrap64 (x11_1 + 1)) a1_0 a1_1)) = some r := H
                  have A21 := Aside0.mk A210
                  clear A210
                  by_cases c22 : t415 > 0
                  · rw [if_pos c22] at H
                    have c22b0 : decide (0 < t415) = true := decide_eq_true c22
                    clear c22
                    by_cases c23 : x5_1.length < 4398046511104
                    · rw [if_pos c23] at H
                      have LMc23 := Aside0.mk c23
                      clear c23
                      obtain ⟨y416, hy416⟩ : ∃ y_ : List (S24), y_ = (x5_1 ++ [(⟨(rd_T24 l0 x11_1).f0, (rd_T24 l0 x11_1).f1, (rd_T24 l0 x11_1).f2, (rd_T24 l0 x11_1).f3⟩ : S24)]) := ⟨_, rfl⟩
                      replace H : (track_Thin.l0 k1 y416 l0 (l0.length : Int) (wrap64 (x11_1 + 1)) a1_0 a1_1) = some r := by first | (rw [hy416]; with_reducible exact H) | (have H2_ := (Option.bind_some _ _).symm.trans H; rw [hy416]; with_reducible exact H2_) | (have H2_ := (Option.bind_some _ _).symm.trans H; with_reducible exact H2_) | with_reducible exact H | (rw [hy416]; exact H) | exact H
                      have Ny416 := Aside0.mk hy416
                      clear hy416
                      have H' := Aside0.mk H
                      clear H
                      have p407 : 0 ≤ (x11_1 : Int) := of_decide_eq_true (by first | (with_reducible assumption) | assumption)
                      have q407 : x11_1 < (l0.length : Int) := of_decide_eq_true (by first | (with_reducible assumption) | assumption)
                      obtain ⟨ad407, e407, hx407_0, hx407_1, hx407_2, hx407_3⟩ := at_T24 HR0.out x11_1 p407 q407
                      cases e407
                      replace hx407_0 := (HB.out.cell (World.block_lt_of_cell? w _ hx407_0)).trans hx407_0
                      replace hx407_1 := (HB.out.cell (World.block_lt_of_cell? w _ hx407_1)).trans hx407_1
                      replace hx407_2 := (HB.out.cell (World.block_lt_of_cell? w _ hx407_2)).trans hx407_2
                      replace hx407_3 := (HB.out.cell (World.block_lt_of_cell? w _ hx407_3)).trans hx407_3
                      replace p407 := eq_true p407
                      replace q407 := eq_true q407
                      try go_wp2_with (first | ((with_reducible refine gate_dst (N := 7) rfl ?_); refine box_event ?hg (N := 7) ?hd (cs := #[.int .i64 0, .int .u32 0, .int .u32 0, .string (⟨#[]⟩ : ByteArray)]) (t := 24) ?hr ?_; (case hd => rfl); (case hg => rfl); (case hr => first | (go_simp; done) | (go_simp; rfl)); intro gb408 hg w24 hbox hb; have n0_ := Aside0.mk (Kd.R_below (Kd.R_elderB (by (with_reducible repeat (first | apply Kd.R_alloc | apply Kd.R_drewN | apply Kd.R_drew)); exact HO_5.out) gb408 (Nat.le_of_eq hg.symm)) hb); have n1_ := Aside0.mk (blk_below (g := gb406) (o := .cells #[.int .u64 a1_0, .int .u64 a1_1] 43 (0, 0)) (by (with_reducible repeat (first | refine blk_drewN ?_ _ | refine blk_drew ?_ | refine blk_alloc ?_ _)); exact BK406.out) hb); have n2_ := Aside0.mk (below_step (by repeat (first | (with_reducible first | exact HB.out | apply below_alloc | apply pw_below_drewN | apply below_drew1 | refine below_set ?_ GE406.out) | exact HB.out)) hb); have n3_ := Aside0.mk (hbox); have n4_ := Aside0.mk ((by rw [hg]; exact (below_size (by repeat (first | (with_reducible first | exact HB.out | apply below_alloc | apply pw_below_drewN | apply below_drew1 | refine below_set ?_ GE406.out) | exact HB.out))) : w.heap.size ≤ gb408)); have n5_ := Aside0.mk ((by rw [hg]; exact (below_size (by repeat (first | (with_reducible first | exact HB.out | apply below_alloc | apply pw_below_drewN | apply below_drew1 | refine below_set ?_ GE406.out) | exact HB.out))) : w.heap.size ≤ gb408)); have n6_ := Aside0.mk ((by rw [hg]; exact Nat.ne_of_lt (blk_lt (g := gb406) (o := .cells #[.int .u64 a1_0, .int .u64 a1_1] 43 (0, 0)) (by (with_reducible repeat (first | refine blk_drewN ?_ _ | refine blk_drew ?_ | refine blk_alloc ?_ _)); exact BK406.out)) : gb406 ≠ gb408)); have n7_ := Aside0.mk ((by rw [hg]; exact Nat.ne_of_gt (blk_lt (g := gb406) (o := .cells #[.int .u64 a1_0, .int .u64 a1_1] 43 (0, 0)) (by (with_reducible repeat (first | refine blk_drewN ?_ _ | refine blk_drew ?_ | refine blk_alloc ?_ _)); exact BK406.out)) : gb408 ≠ gb406)); clear HO_5; clear BK406; clear HB; have HO_5 := n0_; have BK406 := n1_; have HB := n2_; have BK408 := n3_; have GW408 := n4_; have GE408 := n5_; have NB406_408 := n6_; have NB408_406 := n7_; clear n0_ n1_ n2_ n3_ n4_ n5_ n6_ n7_; clear hb hbox hg; have hnb25 := NB408_406.out; have hnc25 := NB406_408.out; have hcz26_0 : w24.cell? ⟨gb408, 0, none⟩ = some (.int .i64 0) := (blk_cell BK408.out 0).trans rfl; have hcz26_1 : w24.cell? ⟨gb408, 1, none⟩ = some (.int .u32 0) := (blk_cell BK408.out 1).trans rfl; have hcz26_2 : w24.cell? ⟨gb408, 2, none⟩ = some (.int .u32 0) := (blk_cell BK408.out 2).trans rfl; have hcz26_3 : w24.cell? ⟨gb408, 3, none⟩ = some (.string (⟨#[]⟩ : ByteArray)) := (blk_cell BK408.out 3).trans rfl; have hfz26_0 := blk_frozen BK408.out 0; have hfz26_1 := blk_frozen BK408.out 1; have hfz26_2 := blk_frozen BK408.out 2; have hfz26_3 := blk_frozen BK408.out 3; obtain ⟨Ao27, co27, eo27⟩ := Kd.R_slice HO_5.out; subst eo27))
                      have n0_ : Aside0 (Kd.R k24 24 ((((w24.setCell ⟨gb408, 0, none⟩ (.int .i64 ((rd_T24 l0 x11_1).f0))).setCell ⟨gb408, 1, none⟩ (.int .u32 ((rd_T24 l0 x11_1).f1))).setCell ⟨gb408, 2, none⟩ (.int .u32 ((rd_T24 l0 x11_1).f2))).setCell ⟨gb408, 3, none⟩ (.string ((rd_T24 l0 x11_1).f3))) w.heap.size (fun k_ => k_ ≠ gb408) (.slice Ao27 x5_1.length co27) x5_1) := ⟨by (with_reducible repeat (first | apply Kd.R_alloc | apply Kd.R_drewN | apply Kd.R_drew)); exact Kd.R_mono (Kd.R_far (p := ⟨gb408, 3, none⟩) (Kd.R_far (p := ⟨gb408, 2, none⟩) (Kd.R_far (p := ⟨gb408, 1, none⟩) (Kd.R_far (p := ⟨gb408, 0, none⟩) (Kd.R_mono HO_5.out (fun k_ hk => (⟨hk, hk.2⟩ : _ ∧ k_ ≠ gb408))) (fun _ hk => hk.2) (.int .i64 ((rd_T24 l0 x11_1).f0))) (fun _ hk => hk.2) (.int .u32 ((rd_T24 l0 x11_1).f1))) (fun _ hk => hk.2) (.int .u32 ((rd_T24 l0 x11_1).f2))) (fun _ hk => hk.2) (.string ((rd_T24 l0 x11_1).f3))) (fun _ hk => hk.1.2)⟩
                      have n1_ : Aside0 (((((w24.setCell ⟨gb408, 0, none⟩ (.int .i64 ((rd_T24 l0 x11_1).f0))).setCell ⟨gb408, 1, none⟩ (.int .u32 ((rd_T24 l0 x11_1).f1))).setCell ⟨gb408, 2, none⟩ (.int .u32 ((rd_T24 l0 x11_1).f2))).setCell ⟨gb408, 3, none⟩ (.string ((rd_T24 l0 x11_1).f3))).heap[gb406]? = some (.cells #[.int .u64 a1_0, .int .u64 a1_1] 43 (0, 0))) := ⟨by (with_reducible repeat (first | refine blk_drewN ?_ _ | refine blk_drew ?_ | refine blk_alloc ?_ _)); refine blk_far ?_ NB406_408.out _; (with_reducible repeat (first | refine blk_drewN ?_ _ | refine blk_drew ?_ | refine blk_alloc ?_ _)); refine blk_far ?_ NB406_408.out _; (with_reducible repeat (first | refine blk_drewN ?_ _ | refine blk_drew ?_ | refine blk_alloc ?_ _)); refine blk_far ?_ NB406_408.out _; (with_reducible repeat (first | refine blk_drewN ?_ _ | refine blk_drew ?_ | refine blk_alloc ?_ _)); refine blk_far ?_ NB406_408.out _; (with_reducible repeat (first | refine blk_drewN ?_ _ | refine blk_drew ?_ | refine blk_alloc ?_ _)); exact BK406.out⟩
                      have n2_ : Aside0 (((((w24.setCell ⟨gb408, 0, none⟩ (.int .i64 ((rd_T24 l0 x11_1).f0))).setCell ⟨gb408, 1, none⟩ (.int .u32 ((rd_T24 l0 x11_1).f1))).setCell ⟨gb408, 2, none⟩ (.int .u32 ((rd_T24 l0 x11_1).f2))).setCell ⟨gb408, 3, none⟩ (.string ((rd_T24 l0 x11_1).f3))).heap[gb408]? = some (.cells #[.int .i64 ((rd_T24 l0 x11_1).f0), .int .u32 ((rd_T24 l0 x11_1).f1), .int .u32 ((rd_T24 l0 x11_1).f2), .string ((rd_T24 l0 x11_1).f3)] 24 (0, 0))) := ⟨by (with_reducible repeat (first | refine blk_drewN ?_ _ | refine blk_drew ?_ | refine blk_alloc ?_ _)); refine blk_put (cs := #[.int .i64 ((rd_T24 l0 x11_1).f0), .int .u32 ((rd_T24 l0 x11_1).f1), .int .u32 ((rd_T24 l0 x11_1).f2), .string (⟨#[]⟩ : ByteArray)]) ?_ 3 _ rfl; (with_reducible repeat (first | refine blk_drewN ?_ _ | refine blk_drew ?_ | refine blk_alloc ?_ _)); refine blk_put (cs := #[.int .i64 ((rd_T24 l0 x11_1).f0), .int .u32 ((rd_T24 l0 x11_1).f1), .int .u32 0, .string (⟨#[]⟩ : ByteArray)]) ?_ 2 _ rfl; (with_reducible repeat (first | refine blk_drewN ?_ _ | refine blk_drew ?_ | refine blk_alloc ?_ _)); refine blk_put (cs := #[.int .i64 ((rd_T24 l0 x11_1).f0), .int .u32 0, .int .u32 0, .string (⟨#[]⟩ : ByteArray)]) ?_ 1 _ rfl; (with_reducible repeat (first | refine blk_drewN ?_ _ | refine blk_drew ?_ | refine blk_alloc ?_ _)); refine blk_put (cs := #[.int .i64 0, .int .u32 0, .int .u32 0, .string (⟨#[]⟩ : ByteArray)]) ?_ 0 _ rfl; (with_reducible repeat (first | refine blk_drewN ?_ _ | refine blk_drew ?_ | refine blk_alloc ?_ _)); exact BK408.out⟩
                      have n3_ : Aside0 (Below w.heap.size w ((((w24.setCell ⟨gb408, 0, none⟩ (.int .i64 ((rd_T24 l0 x11_1).f0))).setCell ⟨gb408, 1, none⟩ (.int .u32 ((rd_T24 l0 x11_1).f1))).setCell ⟨gb408, 2, none⟩ (.int .u32 ((rd_T24 l0 x11_1).f2))).setCell ⟨gb408, 3, none⟩ (.string ((rd_T24 l0 x11_1).f3)))) := ⟨by repeat (first | (with_reducible first | exact HB.out | apply below_alloc | apply pw_below_drewN | apply below_drew1 | refine below_set ?_ GE406.out | refine below_set ?_ GE408.out) | exact HB.out)⟩
                      (try clear HO_5)
                      (try clear BK406)
                      (try clear BK408)
                      (try clear HB)
                      generalize ((((w24.setCell ⟨gb408, 0, none⟩ (.int .i64 ((rd_T24 l0 x11_1).f0))).setCell ⟨gb408, 1, none⟩ (.int .u32 ((rd_T24 l0 x11_1).f1))).setCell ⟨gb408, 2, none⟩ (.int .u32 ((rd_T24 l0 x11_1).f2))).setCell ⟨gb408, 3, none⟩ (.string ((rd_T24 l0 x11_1).f3))) = w28 at n0_ n1_ n2_ n3_ ⊢
                      have HO_5 := n0_
                      have BK406 := n1_
                      have BK408 := n2_
                      have HB := n3_
                      clear n0_ n1_ n2_ n3_
                      have n0_ := Aside0.mk (Kd.R_drew HO_5.out)
                      have n1_ := Aside0.mk (blk_drew BK406.out)
                      have n2_ := Aside0.mk (blk_drew BK408.out)
                      have n3_ := Aside0.mk (below_drew1 HB.out)
                      clear HO_5
                      clear BK406
                      clear BK408
                      clear HB
                      have HO_5 := n0_
                      have BK406 := n1_
                      have BK408 := n2_
                      have HB := n3_
                      clear n0_ n1_ n2_ n3_
                      have p412 : 0 ≤ ((ji17) : Int) := of_decide_eq_true (by first | (with_reducible assumption) | assumption)
                      have q412 : (ji17) < (x5_1.length : Int) := of_decide_eq_true (by first | (with_reducible assumption) | assumption)
                      obtain ⟨ad412, e412, hx412_0, hx412_1, hx412_2, hx412_3⟩ := at_T24 (Kd.R_reads' HO_5.out).2.2 (ji17) p412 q412
                      cases e412
                      replace p412 := eq_true p412
                      replace q412 := eq_true q412
                      refine start_ (n := 13) (S := fun w' => w'.cell? ⟨gb408, 0, none⟩ = some (.int .i64 ((rd_T24 l0 x11_1).f0)) ∧ w'.cell? ⟨gb408, 1, none⟩ = some (.int .u32 ((rd_T24 l0 x11_1).f1)) ∧ w'.cell? ⟨gb408, 2, none⟩ = some (.int .u32 ((rd_T24 l0 x11_1).f2)) ∧ w'.cell? ⟨gb408, 3, none⟩ = some (.string ((rd_T24 l0 x11_1).f3)) ∧ w'.cell? ⟨gb406, 0, none⟩ = some (.int .u64 a1_0) ∧ w'.cell? ⟨gb406, 1, none⟩ = some (.int .u64 a1_1) ∧ w'.cell? (ad412.add (((ji17)).toNat * 4)) = some (.int .i64 ((rd_T24 x5_1 (ji17)).f0)) ∧ w'.cell? ⟨(ad412.add (((ji17)).toNat * 4)).block, (ad412.add (((ji17)).toNat * 4)).off + 1, none⟩ = some (.int .u32 ((rd_T24 x5_1 (ji17)).f1)) ∧ w'.cell? ⟨(ad412.add (((ji17)).toNat * 4)).block, (ad412.add (((ji17)).toNat * 4)).off + 2, none⟩ = some (.int .u32 ((rd_T24 x5_1 (ji17)).f2)) ∧ w'.cell? ⟨(ad412.add (((ji17)).toNat * 4)).block, (ad412.add (((ji17)).toNat * 4)).off + 3, none⟩ = some (.string ((rd_T24 x5_1 (ji17)).f3))) (ds := []) #[false, false, false, false, false, false, false, false, false, false, false, false, false] (by kernel_rfl) rfl rfl ⟨(blk_cell BK408.out 0).trans rfl, (blk_cell BK408.out 1).trans rfl, (blk_cell BK408.out 2).trans rfl, (blk_cell BK408.out 3).trans rfl, (blk_cell BK406.out 0).trans rfl, (blk_cell BK406.out 1).trans rfl, hx412_0, hx412_1, hx412_2, hx412_3⟩ (fun hHeld => ?_); refine with_tabW track_Thin.tab6 track_Thin.bits6 (fun HT_ HW_ => ?_)
                      generalize w28.drew = w29 at HO_5 BK406 BK408 HB hx412_0 hx412_1 hx412_2 hx412_3 hHeld ⊢
                      refine pure_ (i := 0) (N := some 18) (v := ?_) (a' := ?_) #[true, false, false, false, false, false, false, false, false, false, false, false, false] rfl rfl (any_of HT_.out (by kernel_rfl)) (fun _ _ _ h => h) (Or.inl ⟨by rfl, ?_⟩) ?_ ?_
                      rotate_left
                      · intro w'
                        go_simp
                        with_reducible rfl
                      rotate_left
                      · simp only [Act.put, List.setIfInBounds_toArray, List.set_cons_zero, List.set_cons_succ, i64_w, i32_w]
                        rfl
                      refine pure_ (i := 1) (N := some 19) (v := ?_) (a' := ?_) #[true, true, false, false, false, false, false, false, false, false, false, false, false] rfl rfl (any_of HT_.out (by kernel_rfl)) (fun _ _ _ h => h) (Or.inl ⟨by rfl, ?_⟩) ?_ ?_
                      rotate_left
                      · intro w'
                        go_simp
                        with_reducible rfl
                      rotate_left
                      · simp only [Act.put, List.setIfInBounds_toArray, List.set_cons_zero, List.set_cons_succ, i64_w, i32_w]
                        rfl
                      refine pure_ (i := 2) (N := some 20) (v := ?_) (a' := ?_) #[true, true, true, false, false, false, false, false, false, false, false, false, false] rfl rfl (any_of HT_.out (by kernel_rfl)) (fun _ _ _ h => h) (Or.inl ⟨by rfl, ?_⟩) ?_ ?_
                      rotate_left
                      · intro w'
                        go_simp
                        with_reducible rfl
                      rotate_left
                      · simp only [Act.put, List.setIfInBounds_toArray, List.set_cons_zero, List.set_cons_succ, i64_w, i32_w]
                        rfl
                      refine pure_ (i := 3) (N := some 21) (v := ?_) (a' := ?_) #[true, true, true, true, false, false, false, false, false, false, false, false, false] rfl rfl (any_of HT_.out (by kernel_rfl)) (fun _ _ _ h => h) (Or.inl ⟨by rfl, ?_⟩) ?_ ?_
                      rotate_left
                      · intro w'
                        go_simp
                        with_reducible rfl
                      rotate_left
                      · simp only [Act.put, List.setIfInBounds_toArray, List.set_cons_zero, List.set_cons_succ, i64_w, i32_w]
                        rfl
                      refine pure_ (i := 4) (N := some 22) (v := ?_) (a' := ?_) #[true, true, true, true, true, false, false, false, false, false, false, false, false] rfl rfl (any_of HT_.out (by kernel_rfl)) (fun _ _ _ h => h) (Or.inl ⟨by rfl, ?_⟩) ?_ ?_
                      rotate_left
                      · intro w'
                        go_simp
                        with_reducible rfl
                      rotate_left
                      · simp only [Act.put, List.setIfInBounds_toArray, List.set_cons_zero, List.set_cons_succ, i64_w, i32_w]
                        rfl
                      refine pure_ (i := 5) (N := some 23) (v := ?_) (a' := ?_) #[true, true, true, true, true, true, false, false, false, false, false, false, false] rfl rfl (any_of HT_.out (by kernel_rfl)) (fun _ _ _ h => h) (Or.inl ⟨by rfl, ?_⟩) ?_ ?_
                      rotate_left
                      · intro w'
                        go_simp
                        with_reducible rfl
                      rotate_left
                      · simp only [Act.put, List.setIfInBounds_toArray, List.set_cons_zero, List.set_cons_succ, i64_w, i32_w]
                        rfl
                      refine take_ (i := 6) (N := some 24) (v := ?_) (a' := ?_) #[true, true, true, true, true, true, true, false, false, false, false, false, false] rfl rfl (take_ofW HT_.out HW_.out (by kernel_rfl)) (fun _ _ _ h => h) (Or.inl ⟨by rfl, ?_⟩) hHeld ?_ ?_
                      rotate_left
                      · rintro w' ⟨s0, s1, s2, s3, s4, s5, s6, s7, s8, s9⟩
                        go_simp
                        with_reducible rfl
                      rotate_left
                      · simp only [Act.put, List.setIfInBounds_toArray, List.set_cons_zero, List.set_cons_succ, i64_w, i32_w]
                        rfl
                      refine take_ (i := 7) (N := some 25) (v := ?_) (a' := ?_) #[true, true, true, true, true, true, true, true, false, false, false, false, false] rfl rfl (take_ofW HT_.out HW_.out (by kernel_rfl)) (fun _ _ _ h => h) (Or.inl ⟨by rfl, ?_⟩) hHeld ?_ ?_
                      rotate_left
                      · rintro w' ⟨s0, s1, s2, s3, s4, s5, s6, s7, s8, s9⟩
                        go_simp
                        with_reducible rfl
                      rotate_left
                      · simp only [Act.put, List.setIfInBounds_toArray, List.set_cons_zero, List.set_cons_succ, i64_w, i32_w]
                        rfl
                      refine take_ (i := 9) (N := some 27) (v := ?_) (a' := ?_) #[true, true, true, true, true, true, true, true, false, true, false, false, false] rfl rfl (take_ofW HT_.out HW_.out (by kernel_rfl)) (fun _ _ _ h => h) (Or.inl ⟨by rfl, ?_⟩) hHeld ?_ ?_
                      rotate_left
                      · rintro w' ⟨s0, s1, s2, s3, s4, s5, s6, s7, s8, s9⟩
                        go_simp
                        with_reducible rfl
                      rotate_left
                      · simp only [Act.put, List.setIfInBounds_toArray, List.set_cons_zero, List.set_cons_succ, i64_w, i32_w]
                        rfl
                      refine one_ (i := 8) (N := some 26) #[true, true, true, true, true, true, true, true, true, true, false, false, false] rfl rfl (one_of HT_.out (by kernel_rfl)) (by decide) (fun K hK => ?_)
                      refine goes_ Try.func53 (by kernel_rfl) rfl #[.agg #[.int .i64 ((rd_T24 x5_1 (ji17)).f0), .int .u32 ((rd_T24 x5_1 (ji17)).f1), .int .u32 ((rd_T24 x5_1 (ji17)).f2), .string ((rd_T24 x5_1 (ji17)).f3)], .agg #[.int .i64 ((rd_T24 l0 x11_1).f0), .int .u32 ((rd_T24 l0 x11_1).f1), .int .u32 ((rd_T24 l0 x11_1).f2), .string ((rd_T24 l0 x11_1).f3)]] (by rfl) rfl rfl (by (try simp only [List.map_toArray, List.map_cons, List.map_nil]); first | done | (simp only [hji17]; rfl) | rfl | (simp only [List.length_drop, List.length_take]; rfl)) ?_
                      with_reducible refine (track_far.calls k1 ((rd_T24 x5_1 (ji17)).f0) ((rd_T24 x5_1 (ji17)).f1) ((rd_T24 x5_1 (ji17)).f2) ((rd_T24 x5_1 (ji17)).f3) ((rd_T24 l0 x11_1).f0) ((rd_T24 l0 x11_1).f1) ((rd_T24 l0 x11_1).f2) ((rd_T24 l0 x11_1).f3) t413 t414 _ A20.out).mono ?_
                      rintro e w30 ⟨rfl, hb⟩
                      have HS6_ := (hb.cell (World.block_lt_of_cell? _ _ (hHeld.2.2.2.2.2.2.1))).trans (hHeld.2.2.2.2.2.2.1)
                      have HS7_ := (hb.cell (World.block_lt_of_cell? _ _ (hHeld.2.2.2.2.2.2.2.1))).trans (hHeld.2.2.2.2.2.2.2.1)
                      have HS8_ := (hb.cell (World.block_lt_of_cell? _ _ (hHeld.2.2.2.2.2.2.2.2.1))).trans (hHeld.2.2.2.2.2.2.2.2.1)
                      have HS9_ := (hb.cell (World.block_lt_of_cell? _ _ (hHeld.2.2.2.2.2.2.2.2.2))).trans (hHeld.2.2.2.2.2.2.2.2.2)
                      refine ⟨_, rfl, ?_⟩
                      have n0_ := Aside0.mk (Kd.R_below (by (with_reducible repeat (first | apply Kd.R_alloc | apply Kd.R_drewN | apply Kd.R_drew)); exact HO_5.out) hb)
                      have n1_ := Aside0.mk (blk_below (g := gb406) (o := .cells #[.int .u64 a1_0, .int .u64 a1_1] 43 (0, 0)) (by (with_reducible repeat (first | refine blk_drewN ?_ _ | refine blk_drew ?_ | refine blk_alloc ?_ _)); exact BK406.out) hb)
                      have n2_ := Aside0.mk (blk_below (g := gb408) (o := .cells #[.int .i64 ((rd_T24 l0 x11_1).f0), .int .u32 ((rd_T24 l0 x11_1).f1), .int .u32 ((rd_T24 l0 x11_1).f2), .string ((rd_T24 l0 x11_1).f3)] 24 (0, 0)) (by (with_reducible repeat (first | refine blk_drewN ?_ _ | refine blk_drew ?_ | refine blk_alloc ?_ _)); exact BK408.out) hb)
                      have n3_ := Aside0.mk (below_step (by repeat (first | (with_reducible first | exact HB.out | apply below_alloc | apply pw_below_drewN | apply below_drew1 | refine below_set ?_ GE406.out | refine below_set ?_ GE408.out) | exact HB.out)) hb)
                      clear HO_5
                      clear BK406
                      clear BK408
                      clear HB
                      have HO_5 := n0_
                      have BK406 := n1_
                      have BK408 := n2_
                      have HB := n3_
                      clear n0_ n1_ n2_ n3_
                      (try clear hb)
                      (try clear hb2)
                      (try clear hk)
                      (try clear hi)
                      refine hK.out _ _ ⟨(blk_cell BK408.out 0).trans rfl, (blk_cell BK408.out 1).trans rfl, (blk_cell BK408.out 2).trans rfl, (blk_cell BK408.out 3).trans rfl, (blk_cell BK406.out 0).trans rfl, (blk_cell BK406.out 1).trans rfl, HS6_, HS7_, HS8_, HS9_⟩ (fun hHeld => ?_)
                      clear hK K
                      refine norm_ (a' := ?_) ?_ ?_
                      rotate_left
                      · show Act.put _ (some 26) _ = _
                        simp only [Act.put, List.setIfInBounds_toArray, List.set_cons_zero, List.set_cons_succ, i64_w, i32_w]
                        rfl
                      refine one_ (i := 10) (N := some 28) #[true, true, true, true, true, true, true, true, true, true, true, false, false] rfl rfl (one_of HT_.out (by kernel_rfl)) (by decide) (fun K hK => ?_)
                      refine goes_ Try.func27 (by kernel_rfl) rfl #[.agg #[.int .u64 t413, .int .u64 t414], .agg #[.int .u64 a1_0, .int .u64 a1_1]] (by rfl) rfl rfl (by (try simp only [List.map_toArray, List.map_cons, List.map_nil]); first | done | rfl | (simp only [List.length_drop, List.length_take]; rfl)) ?_
                      with_reducible refine (wide_Cmp.calls k1 t413 t414 a1_0 a1_1 t415 _ A21.out).mono ?_
                      rintro e w31 ⟨rfl, hb⟩
                      have HS6_ := (hb.cell (World.block_lt_of_cell? _ _ (hHeld.2.2.2.2.2.2.1))).trans (hHeld.2.2.2.2.2.2.1)
                      have HS7_ := (hb.cell (World.block_lt_of_cell? _ _ (hHeld.2.2.2.2.2.2.2.1))).trans (hHeld.2.2.2.2.2.2.2.1)
                      have HS8_ := (hb.cell (World.block_lt_of_cell? _ _ (hHeld.2.2.2.2.2.2.2.2.1))).trans (hHeld.2.2.2.2.2.2.2.2.1)
                      have HS9_ := (hb.cell (World.block_lt_of_cell? _ _ (hHeld.2.2.2.2.2.2.2.2.2))).trans (hHeld.2.2.2.2.2.2.2.2.2)
                      refine ⟨_, rfl, ?_⟩
                      have n0_ := Aside0.mk (Kd.R_below (by (with_reducible repeat (first | apply Kd.R_alloc | apply Kd.R_drewN | apply Kd.R_drew)); exact HO_5.out) hb)
                      have n1_ := Aside0.mk (blk_below (g := gb406) (o := .cells #[.int .u64 a1_0, .int .u64 a1_1] 43 (0, 0)) (by (with_reducible repeat (first | refine blk_drewN ?_ _ | refine blk_drew ?_ | refine blk_alloc ?_ _)); exact BK406.out) hb)
                      have n2_ := Aside0.mk (blk_below (g := gb408) (o := .cells #[.int .i64 ((rd_T24 l0 x11_1).f0), .int .u32 ((rd_T24 l0 x11_1).f1), .int .u32 ((rd_T24 l0 x11_1).f2), .string ((rd_T24 l0 x11_1).f3)] 24 (0, 0)) (by (with_reducible repeat (first | refine blk_drewN ?_ _ | refine blk_drew ?_ | refine blk_alloc ?_ _)); exact BK408.out) hb)
                      have n3_ := Aside0.mk (below_step (by repeat (first | (with_reducible first | exact HB.out | apply below_alloc | apply pw_below_drewN | apply below_drew1 | refine below_set ?_ GE406.out | refine below_set ?_ GE408.out) | exact HB.out)) hb)
                      clear HO_5
                      clear BK406
                      clear BK408
                      clear HB
                      have HO_5 := n0_
                      have BK406 := n1_
                      have BK408 := n2_
                      have HB := n3_
                      clear n0_ n1_ n2_ n3_
                      (try clear hb)
                      (try clear hb2)
                      (try clear hk)
                      (try clear hi)
                      refine hK.out _ _ ⟨(blk_cell BK408.out 0).trans rfl, (blk_cell BK408.out 1).trans rfl, (blk_cell BK408.out 2).trans rfl, (blk_cell BK408.out 3).trans rfl, (blk_cell BK406.out 0).trans rfl, (blk_cell BK406.out 1).trans rfl, HS6_, HS7_, HS8_, HS9_⟩ (fun hHeld => ?_)
                      clear hK K
                      refine norm_ (a' := ?_) ?_ ?_
                      rotate_left
                      · show Act.put _ (some 28) _ = _
                        simp only [Act.put, List.setIfInBounds_toArray, List.set_cons_zero, List.set_cons_succ, i64_w, i32_w]
                        rfl
                      refine pure_ (i := 11) (N := some 29) (v := ?_) (a' := ?_) #[true, true, true, true, true, true, true, true, true, true, true, true, false] rfl rfl (any_of HT_.out (by kernel_rfl)) (fun _ _ _ h => h) (Or.inl ⟨by rfl, ?_⟩) ?_ ?_
                      rotate_left
                      · intro w'
                        go_simp
                        with_reducible rfl
                      rotate_left
                      · simp only [Act.put, List.setIfInBounds_toArray, List.set_cons_zero, List.set_cons_succ, i64_w, i32_w]
                        rfl
                      refine pure_ (i := 12) (N := some 30) (v := ?_) (a' := ?_) #[true, true, true, true, true, true, true, true, true, true, true, true, true] rfl rfl (any_of HT_.out (by kernel_rfl)) (fun _ _ _ h => h) (Or.inl ⟨by rfl, ?_⟩) ?_ ?_
                      rotate_left
                      · intro w'
                        go_simp
                        with_reducible rfl
                      rotate_left
                      · simp only [Act.put, List.setIfInBounds_toArray, List.set_cons_zero, List.set_cons_succ, i64_w, i32_w]
                        rfl
                      refine done_ (done_of HT_.out (by kernel_rfl)) ?_
                      have hcz32_0 : w31.cell? ⟨gb408, 0, none⟩ = some (.int .i64 ((rd_T24 l0 x11_1).f0)) := (blk_cell BK408.out 0).trans rfl
                      have hcz32_1 : w31.cell? ⟨gb408, 1, none⟩ = some (.int .u32 ((rd_T24 l0 x11_1).f1)) := (blk_cell BK408.out 1).trans rfl
                      have hcz32_2 : w31.cell? ⟨gb408, 2, none⟩ = some (.int .u32 ((rd_T24 l0 x11_1).f2)) := (blk_cell BK408.out 2).trans rfl
                      have hcz32_3 : w31.cell? ⟨gb408, 3, none⟩ = some (.string ((rd_T24 l0 x11_1).f3)) := (blk_cell BK408.out 3).trans rfl
                      have hfz32_0 := blk_frozen BK408.out 0
                      have hfz32_1 := blk_frozen BK408.out 1
                      have hfz32_2 := blk_frozen BK408.out 2
                      have hfz32_3 := blk_frozen BK408.out 3
                      try go_wp2_with (first | ((with_reducible refine gate_builtin (b := .append) (xs := #[.tmp 31, .tmp 33]) rfl ?_); at_builtin; refine Kd.R_append k24 (w0 := w) w.heap.size rfl (.tmp 31) (.tmp 33) 27 24 (.agg #[(.int .i64 0), (.int .u32 0), (.int .u32 0), (.string ⟨#[]⟩)]) 32 rfl Try.underlying27 info24 rfl (by decide) (by omega) (.slice (some ad412) x5_1.length co27) x5_1 (⟨(rd_T24 l0 x11_1).f0, (rd_T24 l0 x11_1).f1, (rd_T24 l0 x11_1).f2, (rd_T24 l0 x11_1).f3⟩ : S24) [.int .i64 ((rd_T24 l0 x11_1).f0), .int .u32 ((rd_T24 l0 x11_1).f1), .int .u32 ((rd_T24 l0 x11_1).f2), .string ((rd_T24 l0 x11_1).f3)] (fun k_ => k_ ≠ gb408) (fun _ => False) rfl rfl ?aP (fun _ hk => hk.elim) ?aF ?aO ?aB ?aS ?aL ?_; (case aP => exact k24_mkM _ _ _ (⟨(rd_T24 l0 x11_1).f0, (rd_T24 l0 x11_1).f1, (rd_T24 l0 x11_1).f2, (rd_T24 l0 x11_1).f3⟩ : S24)); (case aB => exact (by repeat (first | (with_reducible first | exact HB.out | apply below_alloc | apply pw_below_drewN | apply below_drew1 | refine below_set ?_ GE406.out | refine below_set ?_ GE408.out) | exact HB.out))); (case aF => exact (fun k_ hk => Kd.freshB (g := gb408) (o := .cells #[.int .i64 ((rd_T24 l0 x11_1).f0), .int .u32 ((rd_T24 l0 x11_1).f1), .int .u32 ((rd_T24 l0 x11_1).f2), .string ((rd_T24 l0 x11_1).f3)] 24 (0, 0)) (by (with_reducible repeat (first | refine blk_drewN ?_ _ | refine blk_drew ?_ | refine blk_alloc ?_ _)); exact BK408.out) k_ hk)); (case aO => exact (by (with_reducible repeat (first | apply Kd.R_alloc | apply Kd.R_drewN | apply Kd.R_drew)); exact HO_5.out)); (case aS => exact (below_size (by repeat (first | (with_reducible first | exact HB.out | apply below_alloc | apply pw_below_drewN | apply below_drew1 | refine below_set ?_ GE406.out | refine below_set ?_ GE408.out) | exact HB.out)))); (case aL => have := LMc23.out; omega); intro v417 w33 ho hb hg hat; rw [← Ny416.out] at ho; have n0_ := Aside0.mk (blk_grown (g := gb406) (o := .cells #[.int .u64 a1_0, .int .u64 a1_1] 43 (0, 0)) (by (with_reducible repeat (first | refine blk_drewN ?_ _ | refine blk_drew ?_ | refine blk_alloc ?_ _)); exact BK406.out) hg (Kd.R_ne HO_5.out BK406.out (by decide))); have n1_ := Aside0.mk (blk_grown (g := gb408) (o := .cells #[.int .i64 ((rd_T24 l0 x11_1).f0), .int .u32 ((rd_T24 l0 x11_1).f1), .int .u32 ((rd_T24 l0 x11_1).f2), .string ((rd_T24 l0 x11_1).f3)] 24 (0, 0)) (by (with_reducible repeat (first | refine blk_drewN ?_ _ | refine blk_drew ?_ | refine blk_alloc ?_ _)); exact BK408.out) hg (Kd.R_away HO_5.out (fun _ hk => hk))); have n2_ := Aside0.mk (hb); have n3_ := Aside0.mk (ho); clear BK406; clear BK408; clear HB; clear HO_5; have BK406 := n0_; have BK408 := n1_; have HB := n2_; have HO418 := n3_; clear n0_ n1_ n2_ n3_; clear ho hb hg hat))
                      go_roundg k1
                      case measure => have := HK1.out; omega
                      case rel => exact ⟨(y416), (wrap64 (x11_1 + 1)), (by first | rfl | (simp; done) | (simp [*]; done)), H', ⟨by have := HK1.out; omega⟩, ⟨by (with_reducible repeat (first | apply Kd.R_alloc | apply Kd.R_drewN | apply Kd.R_drew)); exact Kd.R_mono HO418.out (fun _ hk => trivial)⟩, ⟨by (with_reducible repeat (first | refine blk_drewN ?_ _ | refine blk_drew ?_ | refine blk_alloc ?_ _)); exact BK406.out⟩, ⟨by repeat (first | (with_reducible first | exact HB.out | apply below_alloc | apply pw_below_drewN | apply below_drew1 | refine below_set ?_ GE406.out | refine below_set ?_ GE408.out) | exact HB.out)⟩⟩
                    · rw [if_neg c23] at H
                      exact absurd H (by simp)
                  · rw [if_neg c22] at H
                    have c22b0 : decide (0 < t415) = false := decide_eq_false c22
                    clear c22
                    have H' := Aside0.mk H
                    clear H
                    have p407 : 0 ≤ (x11_1 : Int) := of_decide_eq_true (by first | (with_reducible assumption) | assumption)
                    have q407 : x11_1 < (l0.length : Int) := of_decide_eq_true (by first | (with_reducible assumption) | assumption)
                    obtain ⟨ad407, e407, hx407_0, hx407_1, hx407_2, hx407_3⟩ := at_T24 HR0.out x11_1 p407 q407
                    cases e407
                    replace hx407_0 := (HB.out.cell (World.block_lt_of_cell? w _ hx407_0)).trans hx407_0
                    replace hx407_1 := (HB.out.cell (World.block_lt_of_cell? w _ hx407_1)).trans hx407_1
                    replace hx407_2 := (HB.out.cell (World.block_lt_of_cell? w _ hx407_2)).trans hx407_2
                    replace hx407_3 := (HB.out.cell (World.block_lt_of_cell? w _ hx407_3)).trans hx407_3
                    replace p407 := eq_true p407
                    replace q407 := eq_true q407
                    try go_wp2_with (first | ((with_reducible refine gate_dst (N := 7) rfl ?_); refine box_event ?hg (N := 7) ?hd (cs := #[.int .i64 0, .int .u32 0, .int .u32 0, .string (⟨#[]⟩ : ByteArray)]) (t := 24) ?hr ?_; (case hd => rfl); (case hg => rfl); (case hr => first | (go_simp; done) | (go_simp; rfl)); intro gb408 hg w34 hbox hb; have n0_ := Aside0.mk (Kd.R_below (Kd.R_elderB (by (with_reducible repeat (first | apply Kd.R_alloc | apply Kd.R_drewN | apply Kd.R_drew)); exact HO_5.out) gb408 (Nat.le_of_eq hg.symm)) hb); have n1_ := Aside0.mk (blk_below (g := gb406) (o := .cells #[.int .u64 a1_0, .int .u64 a1_1] 43 (0, 0)) (by (with_reducible repeat (first | refine blk_drewN ?_ _ | refine blk_drew ?_ | refine blk_alloc ?_ _)); exact BK406.out) hb); have n2_ := Aside0.mk (below_step (by repeat (first | (with_reducible first | exact HB.out | apply below_alloc | apply pw_below_drewN | apply below_drew1 | refine below_set ?_ GE406.out) | exact HB.out)) hb); have n3_ := Aside0.mk (hbox); have n4_ := Aside0.mk ((by rw [hg]; exact (below_size (by repeat (first | (with_reducible first | exact HB.out | apply below_alloc | apply pw_below_drewN | apply below_drew1 | refine below_set ?_ GE406.out) | exact HB.out))) : w.heap.size ≤ gb408)); have n5_ := Aside0.mk ((by rw [hg]; exact (below_size (by repeat (first | (with_reducible first | exact HB.out | apply below_alloc | apply pw_below_drewN | apply below_drew1 | refine below_set ?_ GE406.out) | exact HB.out))) : w.heap.size ≤ gb408)); have n6_ := Aside0.mk ((by rw [hg]; exact Nat.ne_of_lt (blk_lt (g := gb406) (o := .cells #[.int .u64 a1_0, .int .u64 a1_1] 43 (0, 0)) (by (with_reducible repeat (first | refine blk_drewN ?_ _ | refine blk_drew ?_ | refine blk_alloc ?_ _)); exact BK406.out)) : gb406 ≠ gb408)); have n7_ := Aside0.mk ((by rw [hg]; exact Nat.ne_of_gt (blk_lt (g := gb406) (o := .cells #[.int .u64 a1_0, .int .u64 a1_1] 43 (0, 0)) (by (with_reducible repeat (first | refine blk_drewN ?_ _ | refine blk_drew ?_ | refine blk_alloc ?_ _)); exact BK406.out)) : gb408 ≠ gb406)); clear HO_5; clear BK406; clear HB; have HO_5 := n0_; have BK406 := n1_; have HB := n2_; have BK408 := n3_; have GW408 := n4_; have GE408 := n5_; have NB406_408 := n6_; have NB408_406 := n7_; clear n0_ n1_ n2_ n3_ n4_ n5_ n6_ n7_; clear hb hbox hg; have hnb35 := NB408_406.out; have hnc35 := NB406_408.out; have hcz36_0 : w34.cell? ⟨gb408, 0, none⟩ = some (.int .i64 0) := (blk_cell BK408.out 0).trans rfl; have hcz36_1 : w34.cell? ⟨gb408, 1, none⟩ = some (.int .u32 0) := (blk_cell BK408.out 1).trans rfl; have hcz36_2 : w34.cell? ⟨gb408, 2, none⟩ = some (.int .u32 0) := (blk_cell BK408.out 2).trans rfl; have hcz36_3 : w34.cell? ⟨gb408, 3, none⟩ = some (.string (⟨#[]⟩ : ByteArray)) := (blk_cell BK408.out 3).trans rfl; have hfz36_0 := blk_frozen BK408.out 0; have hfz36_1 := blk_frozen BK408.out 1; have hfz36_2 := blk_frozen BK408.out 2; have hfz36_3 := blk_frozen BK408.out 3; obtain ⟨Ao37, co37, eo37⟩ := Kd.R_slice HO_5.out; subst eo37))
                    have n0_ : Aside0 (Kd.R k24 24 ((((w34.setCell ⟨gb408, 0, none⟩ (.int .i64 ((rd_T24 l0 x11_1).f0))).setCell ⟨gb408, 1, none⟩ (.int .u32 ((rd_T24 l0 x11_1).f1))).setCell ⟨gb408, 2, none⟩ (.int .u32 ((rd_T24 l0 x11_1).f2))).setCell ⟨gb408, 3, none⟩ (.string ((rd_T24 l0 x11_1).f3))) w.heap.size (fun k_ => k_ ≠ gb408) (.slice Ao37 x5_1.length co37) x5_1) := ⟨by (with_reducible repeat (first | apply Kd.R_alloc | apply Kd.R_drewN | apply Kd.R_drew)); exact Kd.R_mono (Kd.R_far (p := ⟨gb408, 3, none⟩) (Kd.R_far (p := ⟨gb408, 2, none⟩) (Kd.R_far (p := ⟨gb408, 1, none⟩) (Kd.R_far (p := ⟨gb408, 0, none⟩) (Kd.R_mono HO_5.out (fun k_ hk => (⟨hk, hk.2⟩ : _ ∧ k_ ≠ gb408))) (fun _ hk => hk.2) (.int .i64 ((rd_T24 l0 x11_1).f0))) (fun _ hk => hk.2) (.int .u32 ((rd_T24 l0 x11_1).f1))) (fun _ hk => hk.2) (.int .u32 ((rd_T24 l0 x11_1).f2))) (fun _ hk => hk.2) (.string ((rd_T24 l0 x11_1).f3))) (fun _ hk => hk.1.2)⟩
                    have n1_ : Aside0 (((((w34.setCell ⟨gb408, 0, none⟩ (.int .i64 ((rd_T24 l0 x11_1).f0))).setCell ⟨gb408, 1, none⟩ (.int .u32 ((rd_T24 l0 x11_1).f1))).setCell ⟨gb408, 2, none⟩ (.int .u32 ((rd_T24 l0 x11_1).f2))).setCell ⟨gb408, 3, none⟩ (.string ((rd_T24 l0 x11_1).f3))).heap[gb406]? = some (.cells #[.int .u64 a1_0, .int .u64 a1_1] 43 (0, 0))) := ⟨by (with_reducible repeat (first | refine blk_drewN ?_ _ | refine blk_drew ?_ | refine blk_alloc ?_ _)); refine blk_far ?_ NB406_408.out _; (with_reducible repeat (first | refine blk_drewN ?_ _ | refine blk_drew ?_ | refine blk_alloc ?_ _)); refine blk_far ?_ NB406_408.out _; (with_reducible repeat (first | refine blk_drewN ?_ _ | refine blk_drew ?_ | refine blk_alloc ?_ _)); refine blk_far ?_ NB406_408.out _; (with_reducible repeat (first | refine blk_drewN ?_ _ | refine blk_drew ?_ | refine blk_alloc ?_ _)); refine blk_far ?_ NB406_408.out _; (with_reducible repeat (first | refine blk_drewN ?_ _ | refine blk_drew ?_ | refine blk_alloc ?_ _)); exact BK406.out⟩
                    have n2_ : Aside0 (((((w34.setCell ⟨gb408, 0, none⟩ (.int .i64 ((rd_T24 l0 x11_1).f0))).setCell ⟨gb408, 1, none⟩ (.int .u32 ((rd_T24 l0 x11_1).f1))).setCell ⟨gb408, 2, none⟩ (.int .u32 ((rd_T24 l0 x11_1).f2))).setCell ⟨gb408, 3, none⟩ (.string ((rd_T24 l0 x11_1).f3))).heap[gb408]? = some (.cells #[.int .i64 ((rd_T24 l0 x11_1).f0), .int .u32 ((rd_T24 l0 x11_1).f1), .int .u32 ((rd_T24 l0 x11_1).f2), .string ((rd_T24 l0 x11_1).f3)] 24 (0, 0))) := ⟨by (with_reducible repeat (first | refine blk_drewN ?_ _ | refine blk_drew ?_ | refine blk_alloc ?_ _)); refine blk_put (cs := #[.int .i64 ((rd_T24 l0 x11_1).f0), .int .u32 ((rd_T24 l0 x11_1).f1), .int .u32 ((rd_T24 l0 x11_1).f2), .string (⟨#[]⟩ : ByteArray)]) ?_ 3 _ rfl; (with_reducible repeat (first | refine blk_drewN ?_ _ | refine blk_drew ?_ | refine blk_alloc ?_ _)); refine blk_put (cs := #[.int .i64 ((rd_T24 l0 x11_1).f0), .int .u32 ((rd_T24 l0 x11_1).f1), .int .u32 0, .string (⟨#[]⟩ : ByteArray)]) ?_ 2 _ rfl; (with_reducible repeat (first | refine blk_drewN ?_ _ | refine blk_drew ?_ | refine blk_alloc ?_ _)); refine blk_put (cs := #[.int .i64 ((rd_T24 l0 x11_1).f0), .int .u32 0, .int .u32 0, .string (⟨#[]⟩ : ByteArray)]) ?_ 1 _ rfl; (with_reducible repeat (first | refine blk_drewN ?_ _ | refine blk_drew ?_ | refine blk_alloc ?_ _)); refine blk_put (cs := #[.int .i64 0, .int .u32 0, .int .u32 0, .string (⟨#[]⟩ : ByteArray)]) ?_ 0 _ rfl; (with_reducible repeat (first | refine blk_drewN ?_ _ | refine blk_drew ?_ | refine blk_alloc ?_ _)); exact BK408.out⟩
                    have n3_ : Aside0 (Below w.heap.size w ((((w34.setCell ⟨gb408, 0, none⟩ (.int .i64 ((rd_T24 l0 x11_1).f0))).setCell ⟨gb408, 1, none⟩ (.int .u32 ((rd_T24 l0 x11_1).f1))).setCell ⟨gb408, 2, none⟩ (.int .u32 ((rd_T24 l0 x11_1).f2))).setCell ⟨gb408, 3, none⟩ (.string ((rd_T24 l0 x11_1).f3)))) := ⟨by repeat (first | (with_reducible first | exact HB.out | apply below_alloc | apply pw_below_drewN | apply below_drew1 | refine below_set ?_ GE406.out | refine below_set ?_ GE408.out) | exact HB.out)⟩
                    (try clear HO_5)
                    (try clear BK406)
                    (try clear BK408)
                    (try clear HB)
                    generalize ((((w34.setCell ⟨gb408, 0, none⟩ (.int .i64 ((rd_T24 l0 x11_1).f0))).setCell ⟨gb408, 1, none⟩ (.int .u32 ((rd_T24 l0 x11_1).f1))).setCell ⟨gb408, 2, none⟩ (.int .u32 ((rd_T24 l0 x11_1).f2))).setCell ⟨gb408, 3, none⟩ (.string ((rd_T24 l0 x11_1).f3))) = w38 at n0_ n1_ n2_ n3_ ⊢
                    have HO_5 := n0_
                    have BK406 := n1_
                    have BK408 := n2_
                    have HB := n3_
                    clear n0_ n1_ n2_ n3_
                    have n0_ := Aside0.mk (Kd.R_drew HO_5.out)
                    have n1_ := Aside0.mk (blk_drew BK406.out)
                    have n2_ := Aside0.mk (blk_drew BK408.out)
                    have n3_ := Aside0.mk (below_drew1 HB.out)
                    clear HO_5
                    clear BK406
                    clear BK408
                    clear HB
                    have HO_5 := n0_
                    have BK406 := n1_
                    have BK408 := n2_
                    have HB := n3_
                    clear n0_ n1_ n2_ n3_
                    have p412 : 0 ≤ ((ji17) : Int) := of_decide_eq_true (by first | (with_reducible assumption) | assumption)
                    have q412 : (ji17) < (x5_1.length : Int) := of_decide_eq_true (by first | (with_reducible assumption) | assumption)
                    obtain ⟨ad412, e412, hx412_0, hx412_1, hx412_2, hx412_3⟩ := at_T24 (Kd.R_reads' HO_5.out).2.2 (ji17) p412 q412
                    cases e412
                    replace p412 := eq_true p412
                    replace q412 := eq_true q412
                    refine start_ (n := 13) (S := fun w' => w'.cell? ⟨gb408, 0, none⟩ = some (.int .i64 ((rd_T24 l0 x11_1).f0)) ∧ w'.cell? ⟨gb408, 1, none⟩ = some (.int .u32 ((rd_T24 l0 x11_1).f1)) ∧ w'.cell? ⟨gb408, 2, none⟩ = some (.int .u32 ((rd_T24 l0 x11_1).f2)) ∧ w'.cell? ⟨gb408, 3, none⟩ = some (.string ((rd_T24 l0 x11_1).f3)) ∧ w'.cell? ⟨gb406, 0, none⟩ = some (.int .u64 a1_0) ∧ w'.cell? ⟨gb406, 1, none⟩ = some (.int .u64 a1_1) ∧ w'.cell? (ad412.add (((ji17)).toNat * 4)) = some (.int .i64 ((rd_T24 x5_1 (ji17)).f0)) ∧ w'.cell? ⟨(ad412.add (((ji17)).toNat * 4)).block, (ad412.add (((ji17)).toNat * 4)).off + 1, none⟩ = some (.int .u32 ((rd_T24 x5_1 (ji17)).f1)) ∧ w'.cell? ⟨(ad412.add (((ji17)).toNat * 4)).block, (ad412.add (((ji17)).toNat * 4)).off + 2, none⟩ = some (.int .u32 ((rd_T24 x5_1 (ji17)).f2)) ∧ w'.cell? ⟨(ad412.add (((ji17)).toNat * 4)).block, (ad412.add (((ji17)).toNat * 4)).off + 3, none⟩ = some (.string ((rd_T24 x5_1 (ji17)).f3))) (ds := []) #[false, false, false, false, false, false, false, false, false, false, false, false, false] (by kernel_rfl) rfl rfl ⟨(blk_cell BK408.out 0).trans rfl, (blk_cell BK408.out 1).trans rfl, (blk_cell BK408.out 2).trans rfl, (blk_cell BK408.out 3).trans rfl, (blk_cell BK406.out 0).trans rfl, (blk_cell BK406.out 1).trans rfl, hx412_0, hx412_1, hx412_2, hx412_3⟩ (fun hHeld => ?_); refine with_tabW track_Thin.tab6 track_Thin.bits6 (fun HT_ HW_ => ?_)
                    generalize w38.drew = w39 at HO_5 BK406 BK408 HB hx412_0 hx412_1 hx412_2 hx412_3 hHeld ⊢
                    refine pure_ (i := 0) (N := some 18) (v := ?_) (a' := ?_) #[true, false, false, false, false, false, false, false, false, false, false, false, false] rfl rfl (any_of HT_.out (by kernel_rfl)) (fun _ _ _ h => h) (Or.inl ⟨by rfl, ?_⟩) ?_ ?_
                    rotate_left
                    · intro w'
                      go_simp
                      with_reducible rfl
                    rotate_left
                    · simp only [Act.put, List.setIfInBounds_toArray, List.set_cons_zero, List.set_cons_succ, i64_w, i32_w]
                      rfl
                    refine pure_ (i := 1) (N := some 19) (v := ?_) (a' := ?_) #[true, true, false, false, false, false, false, false, false, false, false, false, false] rfl rfl (any_of HT_.out (by kernel_rfl)) (fun _ _ _ h => h) (Or.inl ⟨by rfl, ?_⟩) ?_ ?_
                    rotate_left
                    · intro w'
                      go_simp
                      with_reducible rfl
                    rotate_left
                    · simp only [Act.put, List.setIfInBounds_toArray, List.set_cons_zero, List.set_cons_succ, i64_w, i32_w]
                      rfl
                    refine pure_ (i := 2) (N := some 20) (v := ?_) (a' := ?_) #[true, true, true, false, false, false, false, false, false, false, false, false, false] rfl rfl (any_of HT_.out (by kernel_rfl)) (fun _ _ _ h => h) (Or.inl ⟨by rfl, ?_⟩) ?_ ?_
                    rotate_left
                    · intro w'
                      go_simp
                      with_reducible rfl
                    rotate_left
                    · simp only [Act.put, List.setIfInBounds_toArray, List.set_cons_zero, List.set_cons_succ, i64_w, i32_w]
                      rfl
                    refine pure_ (i := 3) (N := some 21) (v := ?_) (a' := ?_) #[true, true, true, true, false, false, false, false, false, false, false, false, false] rfl rfl (any_of HT_.out (by kernel_rfl)) (fun _ _ _ h => h) (Or.inl ⟨by rfl, ?_⟩) ?_ ?_
                    rotate_left
                    · intro w'
                      go_simp
                      with_reducible rfl
                    rotate_left
                    · simp only [Act.put, List.setIfInBounds_toArray, List.set_cons_zero, List.set_cons_succ, i64_w, i32_w]
                      rfl
                    refine pure_ (i := 4) (N := some 22) (v := ?_) (a' := ?_) #[true, true, true, true, true, false, false, false, false, false, false, false, false] rfl rfl (any_of HT_.out (by kernel_rfl)) (fun _ _ _ h => h) (Or.inl ⟨by rfl, ?_⟩) ?_ ?_
                    rotate_left
                    · intro w'
                      go_simp
                      with_reducible rfl
                    rotate_left
                    · simp only [Act.put, List.setIfInBounds_toArray, List.set_cons_zero, List.set_cons_succ, i64_w, i32_w]
                      rfl
                    refine pure_ (i := 5) (N := some 23) (v := ?_) (a' := ?_) #[true, true, true, true, true, true, false, false, false, false, false, false, false] rfl rfl (any_of HT_.out (by kernel_rfl)) (fun _ _ _ h => h) (Or.inl ⟨by rfl, ?_⟩) ?_ ?_
                    rotate_left
                    · intro w'
                      go_simp
                      with_reducible rfl
                    rotate_left
                    · simp only [Act.put, List.setIfInBounds_toArray, List.set_cons_zero, List.set_cons_succ, i64_w, i32_w]
                      rfl
                    refine take_ (i := 6) (N := some 24) (v := ?_) (a' := ?_) #[true, true, true, true, true, true, true, false, false, false, false, false, false] rfl rfl (take_ofW HT_.out HW_.out (by kernel_rfl)) (fun _ _ _ h => h) (Or.inl ⟨by rfl, ?_⟩) hHeld ?_ ?_
                    rotate_left
                    · rintro w' ⟨s0, s1, s2, s3, s4, s5, s6, s7, s8, s9⟩
                      go_simp
                      with_reducible rfl
                    rotate_left
                    · simp only [Act.put, List.setIfInBounds_toArray, List.set_cons_zero, List.set_cons_succ, i64_w, i32_w]
                      rfl
                    refine take_ (i := 7) (N := some 25) (v := ?_) (a' := ?_) #[true, true, true, true, true, true, true, true, false, false, false, false, false] rfl rfl (take_ofW HT_.out HW_.out (by kernel_rfl)) (fun _ _ _ h => h) (Or.inl ⟨by rfl, ?_⟩) hHeld ?_ ?_
                    rotate_left
                    · rintro w' ⟨s0, s1, s2, s3, s4, s5, s6, s7, s8, s9⟩
                      go_simp
                      with_reducible rfl
                    rotate_left
                    · simp only [Act.put, List.setIfInBounds_toArray, List.set_cons_zero, List.set_cons_succ, i64_w, i32_w]
                      rfl
                    refine take_ (i := 9) (N := some 27) (v := ?_) (a' := ?_) #[true, true, true, true, true, true, true, true, false, true, false, false, false] rfl rfl (take_ofW HT_.out HW_.out (by kernel_rfl)) (fun _ _ _ h => h) (Or.inl ⟨by rfl, ?_⟩) hHeld ?_ ?_
                    rotate_left
                    · rintro w' ⟨s0, s1, s2, s3, s4, s5, s6, s7, s8, s9⟩
                      go_simp
                      with_reducible rfl
                    rotate_left
                    · simp only [Act.put, List.setIfInBounds_toArray, List.set_cons_zero, List.set_cons_succ, i64_w, i32_w]
                      rfl
                    refine one_ (i := 8) (N := some 26) #[true, true, true, true, true, true, true, true, true, true, false, false, false] rfl rfl (one_of HT_.out (by kernel_rfl)) (by decide) (fun K hK => ?_)
                    refine goes_ Try.func53 (by kernel_rfl) rfl #[.agg #[.int .i64 ((rd_T24 x5_1 (ji17)).f0), .int .u32 ((rd_T24 x5_1 (ji17)).f1), .int .u32 ((rd_T24 x5_1 (ji17)).f2), .string ((rd_T24 x5_1 (ji17)).f3)], .agg #[.int .i64 ((rd_T24 l0 x11_1).f0), .int .u32 ((rd_T24 l0 x11_1).f1), .int .u32 ((rd_T24 l0 x11_1).f2), .string ((rd_T24 l0 x11_1).f3)]] (by rfl) rfl rfl (by (try simp only [List.map_toArray, List.map_cons, List.map_nil]); first | done | (simp only [hji17]; rfl) | rfl | (simp only [List.length_drop, List.length_take]; rfl)) ?_
                    with_reducible refine (track_far.calls k1 ((rd_T24 x5_1 (ji17)).f0) ((rd_T24 x5_1 (ji17)).f1) ((rd_T24 x5_1 (ji17)).f2) ((rd_T24 x5_1 (ji17)).f3) ((rd_T24 l0 x11_1).f0) ((rd_T24 l0 x11_1).f1) ((rd_T24 l0 x11_1).f2) ((rd_T24 l0 x11_1).f3) t413 t414 _ A20.out).mono ?_
                    rintro e w40 ⟨rfl, hb⟩
                    have HS6_ := (hb.cell (World.block_lt_of_cell? _ _ (hHeld.2.2.2.2.2.2.1))).trans (hHeld.2.2.2.2.2.2.1)
                    have HS7_ := (hb.cell (World.block_lt_of_cell? _ _ (hHeld.2.2.2.2.2.2.2.1))).trans (hHeld.2.2.2.2.2.2.2.1)
                    have HS8_ := (hb.cell (World.block_lt_of_cell? _ _ (hHeld.2.2.2.2.2.2.2.2.1))).trans (hHeld.2.2.2.2.2.2.2.2.1)
                    have HS9_ := (hb.cell (World.block_lt_of_cell? _ _ (hHeld.2.2.2.2.2.2.2.2.2))).trans (hHeld.2.2.2.2.2.2.2.2.2)
                    refine ⟨_, rfl, ?_⟩
                    have n0_ := Aside0.mk (Kd.R_below (by (with_reducible repeat (first | apply Kd.R_alloc | apply Kd.R_drewN | apply Kd.R_drew)); exact HO_5.out) hb)
                    have n1_ := Aside0.mk (blk_below (g := gb406) (o := .cells #[.int .u64 a1_0, .int .u64 a1_1] 43 (0, 0)) (by (with_reducible repeat (first | refine blk_drewN ?_ _ | refine blk_drew ?_ | refine blk_alloc ?_ _)); exact BK406.out) hb)
                    have n2_ := Aside0.mk (blk_below (g := gb408) (o := .cells #[.int .i64 ((rd_T24 l0 x11_1).f0), .int .u32 ((rd_T24 l0 x11_1).f1), .int .u32 ((rd_T24 l0 x11_1).f2), .string ((rd_T24 l0 x11_1).f3)] 24 (0, 0)) (by (with_reducible repeat (first | refine blk_drewN ?_ _ | refine blk_drew ?_ | refine blk_alloc ?_ _)); exact BK408.out) hb)
                    have n3_ := Aside0.mk (below_step (by repeat (first | (with_reducible first | exact HB.out | apply below_alloc | apply pw_below_drewN | apply below_drew1 | refine below_set ?_ GE406.out | refine below_set ?_ GE408.out) | exact HB.out)) hb)
                    clear HO_5
                    clear BK406
                    clear BK408
                    clear HB
                    have HO_5 := n0_
                    have BK406 := n1_
                    have BK408 := n2_
                    have HB := n3_
                    clear n0_ n1_ n2_ n3_
                    (try clear hb)
                    (try clear hb2)
                    (try clear hk)
                    (try clear hi)
                    refine hK.out _ _ ⟨(blk_cell BK408.out 0).trans rfl, (blk_cell BK408.out 1).trans rfl, (blk_cell BK408.out 2).trans rfl, (blk_cell BK408.out 3).trans rfl, (blk_cell BK406.out 0).trans rfl, (blk_cell BK406.out 1).trans rfl, HS6_, HS7_, HS8_, HS9_⟩ (fun hHeld => ?_)
                    clear hK K
                    refine norm_ (a' := ?_) ?_ ?_
                    rotate_left
                    · show Act.put _ (some 26) _ = _
                      simp only [Act.put, List.setIfInBounds_toArray, List.set_cons_zero, List.set_cons_succ, i64_w, i32_w]
                      rfl
                    refine one_ (i := 10) (N := some 28) #[true, true, true, true, true, true, true, true, true, true, true, false, false] rfl rfl (one_of HT_.out (by kernel_rfl)) (by decide) (fun K hK => ?_)
                    refine goes_ Try.func27 (by kernel_rfl) rfl #[.agg #[.int .u64 t413, .int .u64 t414], .agg #[.int .u64 a1_0, .int .u64 a1_1]] (by rfl) rfl rfl (by (try simp only [List.map_toArray, List.map_cons, List.map_nil]); first | done | rfl | (simp only [List.length_drop, List.length_take]; rfl)) ?_
                    with_reducible refine (wide_Cmp.calls k1 t413 t414 a1_0 a1_1 t415 _ A21.out).mono ?_
                    rintro e w41 ⟨rfl, hb⟩
                    have HS6_ := (hb.cell (World.block_lt_of_cell? _ _ (hHeld.2.2.2.2.2.2.1))).trans (hHeld.2.2.2.2.2.2.1)
                    have HS7_ := (hb.cell (World.block_lt_of_cell? _ _ (hHeld.2.2.2.2.2.2.2.1))).trans (hHeld.2.2.2.2.2.2.2.1)
                    have HS8_ := (hb.cell (World.block_lt_of_cell? _ _ (hHeld.2.2.2.2.2.2.2.2.1))).trans (hHeld.2.2.2.2.2.2.2.2.1)
                    have HS9_ := (hb.cell (World.block_lt_of_cell? _ _ (hHeld.2.2.2.2.2.2.2.2.2))).trans (hHeld.2.2.2.2.2.2.2.2.2)
                    refine ⟨_, rfl, ?_⟩
                    have n0_ := Aside0.mk (Kd.R_below (by (with_reducible repeat (first | apply Kd.R_alloc | apply Kd.R_drewN | apply Kd.R_drew)); exact HO_5.out) hb)
                    have n1_ := Aside0.mk (blk_below (g := gb406) (o := .cells #[.int .u64 a1_0, .int .u64 a1_1] 43 (0, 0)) (by (with_reducible repeat (first | refine blk_drewN ?_ _ | refine blk_drew ?_ | refine blk_alloc ?_ _)); exact BK406.out) hb)
                    have n2_ := Aside0.mk (blk_below (g := gb408) (o := .cells #[.int .i64 ((rd_T24 l0 x11_1).f0), .int .u32 ((rd_T24 l0 x11_1).f1), .int .u32 ((rd_T24 l0 x11_1).f2), .string ((rd_T24 l0 x11_1).f3)] 24 (0, 0)) (by (with_reducible repeat (first | refine blk_drewN ?_ _ | refine blk_drew ?_ | refine blk_alloc ?_ _)); exact BK408.out) hb)
                    have n3_ := Aside0.mk (below_step (by repeat (first | (with_reducible first | exact HB.out | apply below_alloc | apply pw_below_drewN | apply below_drew1 | refine below_set ?_ GE406.out | refine below_set ?_ GE408.out) | exact HB.out)) hb)
                    clear HO_5
                    clear BK406
                    clear BK408
                    clear HB
                    have HO_5 := n0_
                    have BK406 := n1_
                    have BK408 := n2_
                    have HB := n3_
                    clear n0_ n1_ n2_ n3_
                    (try clear hb)
                    (try clear hb2)
                    (try clear hk)
                    (try clear hi)
                    refine hK.out _ _ ⟨(blk_cell BK408.out 0).trans rfl, (blk_cell BK408.out 1).trans rfl, (blk_cell BK408.out 2).trans rfl, (blk_cell BK408.out 3).trans rfl, (blk_cell BK406.out 0).trans rfl, (blk_cell BK406.out 1).trans rfl, HS6_, HS7_, HS8_, HS9_⟩ (fun hHeld => ?_)
                    clear hK K
                    refine norm_ (a' := ?_) ?_ ?_
                    rotate_left
                    · show Act.put _ (some 28) _ = _
                      simp only [Act.put, List.setIfInBounds_toArray, List.set_cons_zero, List.set_cons_succ, i64_w, i32_w]
                      rfl
                    refine pure_ (i := 11) (N := some 29) (v := ?_) (a' := ?_) #[true, true, true, true, true, true, true, true, true, true, true, true, false] rfl rfl (any_of HT_.out (by kernel_rfl)) (fun _ _ _ h => h) (Or.inl ⟨by rfl, ?_⟩) ?_ ?_
                    rotate_left
                    · intro w'
                      go_simp
                      with_reducible rfl
                    rotate_left
                    · simp only [Act.put, List.setIfInBounds_toArray, List.set_cons_zero, List.set_cons_succ, i64_w, i32_w]
                      rfl
                    refine pure_ (i := 12) (N := some 30) (v := ?_) (a' := ?_) #[true, true, true, true, true, true, true, true, true, true, true, true, true] rfl rfl (any_of HT_.out (by kernel_rfl)) (fun _ _ _ h => h) (Or.inl ⟨by rfl, ?_⟩) ?_ ?_
                    rotate_left
                    · intro w'
                      go_simp
                      with_reducible rfl
                    rotate_left
                    · simp only [Act.put, List.setIfInBounds_toArray, List.set_cons_zero, List.set_cons_succ, i64_w, i32_w]
                      rfl
                    refine done_ (done_of HT_.out (by kernel_rfl)) ?_
                    try go_wp2
                    go_roundg k1
                    case measure => have := HK1.out; omega
                    case rel => exact ⟨(x5_1), (wrap64 (x11_1 + 1)), (by first | rfl | (simp; done) | (simp [*]; done)), H', ⟨by have := HK1.out; omega⟩, ⟨by (with_reducible repeat (first | apply Kd.R_alloc | apply Kd.R_drewN | apply Kd.R_drew)); exact Kd.R_mono HO_5.out (fun _ hk => trivial)⟩, ⟨by (with_reducible repeat (first | refine blk_drewN ?_ _ | refine blk_drew ?_ | refine blk_alloc ?_ _)); exact BK406.out⟩, ⟨by repeat (first | (with_reducible first | exact HB.out | apply below_alloc | apply pw_below_drewN | apply below_drew1 | refine below_set ?_ GE406.out | refine below_set ?_ GE408.out) | exact HB.out)⟩⟩
                · rw [if_neg c19] at H
                  exact absurd H (by simp)
              · rw [if_neg c18] at H
                exact absurd H (by simp)
          · rw [if_neg c6] at H
            exact absurd H (by simp)
        · rw [if_neg c5] at H
          exact absurd H (by simp)
      · rw [if_neg c4] at H
        have c4b0 : decide (x11_1 < (l0.length : Int)) = false := decide_eq_false c4
        clear c4
        obtain rfl := Option.some.inj H
        simp only [Option.some.injEq, Prod.mk.injEq] at H
        obtain ⟨rfl⟩ := H
        go_wp2
        go_ret
        exact ⟨_, by first | rfl | (simp [errW_none, errW_some] <;> rfl) | (simp [*, errW_none, errW_some] <;> rfl), by (with_reducible repeat (first | apply Kd.R_alloc | apply Kd.R_drewN | apply Kd.R_drew)); exact HO_5.out, by repeat (first | (with_reducible first | exact HB.out | apply below_alloc | apply pw_below_drewN | apply below_drew1 | refine below_set ?_ GE406.out) | exact HB.out)⟩

end Go.Proofs.Ytgepbfcaimejmaa.PA
