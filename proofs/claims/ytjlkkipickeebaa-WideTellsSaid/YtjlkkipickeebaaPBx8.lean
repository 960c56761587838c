-- Printed by a program of this session (wip/tools), out of the translation: Lean checks it.
import Derived.Test.YtjlkkipickeebaaPBx0
import Derived.Test.YtjlkkipickeebaaPBx2
import Derived.Test.YtjlkkipickeebaaPBx3
import Derived.Test.YtjlkkipickeebaaPBx5
import Derived.Test.YtjlkkipickeebaaPBx7
namespace Go.Proofs.Ytjlkkipickeebaa.PB
open Go.RowKit Go.Proofs.YtjlkkipickeebaaW.PrintWords Go.Proofs.YtjlkkipickeebaaW.PrintLast Go.Proofs.YtjlkkipickeebaaW.PrintMore
attribute [local go_sem] max2_int min2_int max_two min_two max_three min_three max_four min_four   -- for this text's walks alone
set_option linter.unusedVariables false
set_option linter.unusedSimpArgs false

attribute [local go_sem high] eqA59
/-! ### croftlaw03_WideTells: function 13 -/
mutual
def croftlaw03_WideTells.j0 : Nat → Int → Int → Int → Int → Int → Int → Int → Int → Int → Int → Int → Option (Bool)
  | 0, _, _, _, _, _, _, _, _, _, _, _ => none
  | k + 1, x0, x1, x2, x3, x13, x14, x15, x150000, x150001, x151000, x151001 => (croftref03_Less.f x151000 x151001 x150000 x150001).bind fun t155 => (if t155 = true then (croftlaw03_WideTells.j1 k x0 x1 x2 x3 x13 x14 1 x150000 x150001 x151000 x151001) else (croftlaw03_WideTells.j1 k x0 x1 x2 x3 x13 x14 x15 x150000 x150001 x151000 x151001))
def croftlaw03_WideTells.j1 : Nat → Int → Int → Int → Int → Int → Int → Int → Int → Int → Int → Int → Option (Bool)
  | 0, _, _, _, _, _, _, _, _, _, _, _ => none
  | k + 1, x0, x1, x2, x3, x13, x14, x15, x150000, x150001, x151000, x151001 => (wide_Between.f k x0 x1 x2 x3).bind fun bt156 => (if (bt156.1 == x13 && (bt156.2 == x14)) = true then ((wide_Cmp.f k x150000 x150001 x151000 x151001).bind fun t158 => (if t158 = x15 then ((wide_Square.f x0).bind fun bt159 => (if (bt159.1 == 0 && (bt159.2 == (IntKind.u64.wrap ((IntKind.u64.wrap (x0)) * (IntKind.u64.wrap (x0)))))) = true then ((croftlaw03_alive.f k).bind fun t161 => (some t161)) else (some false))) else (some false))) else (some false))
end
def croftlaw03_WideTells.f (k : Nat) (a0 : Int) (a1 : Int) (a2 : Int) (a3 : Int) (a4_0 : Int) (a4_1 : Int) (a5_0 : Int) (a5_1 : Int) : Option (Bool) := (croftlaw03_alive.f k).bind fun t151 => (if t151 = true then ((croftref03_Between.f a0 a1 a2 a3).bind fun bt152 => ((croftref03_Less.f a4_0 a4_1 a5_0 a5_1).bind fun t154 => (if t154 = true then (croftlaw03_WideTells.j0 k a0 a1 a2 a3 bt152.1 bt152.2 (-1) a4_0 a4_1 a5_0 a5_1) else (croftlaw03_WideTells.j0 k a0 a1 a2 a3 bt152.1 bt152.2 0 a4_0 a4_1 a5_0 a5_1)))) else (some false))
theorem croftlaw03_WideTells.mono_l : ∀ k, (∀ y0 y1 y2 y3 y4 y5 y6 y7 y8 y9 y10, LeO (croftlaw03_WideTells.j0 k y0 y1 y2 y3 y4 y5 y6 y7 y8 y9 y10) (croftlaw03_WideTells.j0 (k + 1) y0 y1 y2 y3 y4 y5 y6 y7 y8 y9 y10)) ∧ (∀ y0 y1 y2 y3 y4 y5 y6 y7 y8 y9 y10, LeO (croftlaw03_WideTells.j1 k y0 y1 y2 y3 y4 y5 y6 y7 y8 y9 y10) (croftlaw03_WideTells.j1 (k + 1) y0 y1 y2 y3 y4 y5 y6 y7 y8 y9 y10))
  | 0 => ⟨fun _ _ _ _ _ _ _ _ _ _ _ r h => by simp [croftlaw03_WideTells.j0] at h, fun _ _ _ _ _ _ _ _ _ _ _ r h => by simp [croftlaw03_WideTells.j1] at h⟩
  | k + 1 => by
    obtain ⟨ih0, ih1⟩ := croftlaw03_WideTells.mono_l k
    refine ⟨?_, ?_⟩
    · intro y0 y1 y2 y3 y4 y5 y6 y7 y8 y9 y10
      unfold croftlaw03_WideTells.j0
      repeat' first
      | (with_reducible exact ih0 _ _ _ _ _ _ _ _ _ _ _)
      | (with_reducible exact ih1 _ _ _ _ _ _ _ _ _ _ _)
      | (with_reducible exact croftlaw03_alive.mono _)
      | (with_reducible exact wide_Between.mono _ _ _ _ _)
      | (with_reducible exact wide_Cmp.mono _ _ _ _ _)
      | (with_reducible exact LeO.refl _)
      | (with_reducible exact LeO.none _)
      | (with_reducible refine LeO.ite ?_ ?_)
      | (with_reducible refine LeO.bind ?_ (fun _ => ?_))
      | exact ih0 _ _ _ _ _ _ _ _ _ _ _
      | exact ih1 _ _ _ _ _ _ _ _ _ _ _
      | exact croftlaw03_alive.mono _
      | exact wide_Between.mono _ _ _ _ _
      | exact wide_Cmp.mono _ _ _ _ _
      | exact LeO.none _
      | refine LeO.ite ?_ ?_
      | refine LeO.bind ?_ (fun _ => ?_)
    · intro y0 y1 y2 y3 y4 y5 y6 y7 y8 y9 y10
      unfold croftlaw03_WideTells.j1
      repeat' first
      | (with_reducible exact ih0 _ _ _ _ _ _ _ _ _ _ _)
      | (with_reducible exact ih1 _ _ _ _ _ _ _ _ _ _ _)
      | (with_reducible exact croftlaw03_alive.mono _)
      | (with_reducible exact wide_Between.mono _ _ _ _ _)
      | (with_reducible exact wide_Cmp.mono _ _ _ _ _)
      | (with_reducible exact LeO.refl _)
      | (with_reducible exact LeO.none _)
      | (with_reducible refine LeO.ite ?_ ?_)
      | (with_reducible refine LeO.bind ?_ (fun _ => ?_))
      | exact ih0 _ _ _ _ _ _ _ _ _ _ _
      | exact ih1 _ _ _ _ _ _ _ _ _ _ _
      | exact croftlaw03_alive.mono _
      | exact wide_Between.mono _ _ _ _ _
      | exact wide_Cmp.mono _ _ _ _ _
      | exact LeO.none _
      | refine LeO.ite ?_ ?_
      | refine LeO.bind ?_ (fun _ => ?_)
theorem croftlaw03_WideTells.mono : ∀ a0 a1 a2 a3 a4 a5 a6 a7 k, LeO (croftlaw03_WideTells.f k a0 a1 a2 a3 a4 a5 a6 a7) (croftlaw03_WideTells.f (k + 1) a0 a1 a2 a3 a4 a5 a6 a7) := by
  intro a0 a1 a2 a3 a4 a5 a6 a7 k
  obtain ⟨ih0, ih1⟩ := croftlaw03_WideTells.mono_l k
  unfold croftlaw03_WideTells.f
  repeat' first
      | (with_reducible exact ih0 _ _ _ _ _ _ _ _ _ _ _)
      | (with_reducible exact ih1 _ _ _ _ _ _ _ _ _ _ _)
      | (with_reducible exact croftlaw03_alive.mono _)
      | (with_reducible exact wide_Between.mono _ _ _ _ _)
      | (with_reducible exact wide_Cmp.mono _ _ _ _ _)
      | (with_reducible exact LeO.refl _)
      | (with_reducible exact LeO.none _)
      | (with_reducible refine LeO.ite ?_ ?_)
      | (with_reducible refine LeO.bind ?_ (fun _ => ?_))
      | exact ih0 _ _ _ _ _ _ _ _ _ _ _
      | exact ih1 _ _ _ _ _ _ _ _ _ _ _
      | exact croftlaw03_alive.mono _
      | exact wide_Between.mono _ _ _ _ _
      | exact wide_Cmp.mono _ _ _ _ _
      | exact LeO.none _
      | refine LeO.ite ?_ ?_
      | refine LeO.bind ?_ (fun _ => ?_)
set_option maxHeartbeats 8000000 in
set_option maxRecDepth 100000 in
theorem croftlaw03_WideTells.calls (k : Nat) (a0 : Int) (a1 : Int) (a2 : Int) (a3 : Int) (a4_0 : Int) (a4_1 : Int) (a5_0 : Int) (a5_1 : Int) (r : Bool) (w : World) (hT : r = true) (h : croftlaw03_WideTells.f k a0 a1 a2 a3 a4_0 a4_1 a5_0 a5_1 = some r) :
    Calls Try.prog 13 #[.int .u32 a0, .int .u32 a1, .int .u32 a2, .int .u32 a3, .agg #[.int .u64 a4_0, .int .u64 a4_1], .agg #[.int .u64 a5_0, .int .u64 a5_1]] w fun e w' => e = .returned (.bool r) ∧ Below w.heap.size w w' := by
  have hu59 := Try.underlying59
  have HT := Aside0.mk hT
  clear hT
  have HB := Aside0.mk (Below.refl w.heap.size w)
  have H : ((croftlaw03_alive.f k).bind fun t151 => (if t151 = true then ((croftref03_Between.f a0 a1 a2 a3).bind fun bt152 => ((croftref03_Less.f a4_0 a4_1 a5_0 a5_1).bind fun t154 => (if t154 = true then (croftlaw03_WideTells.j0 k a0 a1 a2 a3 bt152.1 bt152.2 (-1) a4_0 a4_1 a5_0 a5_1) else (croftlaw03_WideTells.j0 k a0 a1 a2 a3 bt152.1 bt152.2 0 a4_0 a4_1 a5_0 a5_1)))) else (some false))) = some r := h
  clear h
  replace H := Option.bind_eq_some_iff.mp H
  obtain ⟨t151, A70, H⟩ := H
  replace H : (if t151 = true then ((croftref03_Between.f a0 a1 a2 a3).bind fun bt152 => ((croftref03_Less.f a4_0 a4_1 a5_0 a5_1).bind fun t154 => (if t154 = true then (croftlaw03_WideTells.j0 k a0 a1 a2 a3 bt152.1 bt152.2 (-1) a4_0 a4_1 a5_0 a5_1) else (croftlaw03_WideTells.j0 k a0 a1 a2 a3 bt152.1 bt152.2 0 a4_0 a4_1 a5_0 a5_1)))) else (some false)) = some r := H
  have A7 := Aside0.mk A70
  clear A70
  by_cases c8 : t151 = true
  · subst c8
    have H1 : ((croftref03_Between.f a0 a1 a2 a3).bind fun bt152 => ((croftref03_Less.f a4_0 a4_1 a5_0 a5_1).bind fun t154 => (if t154 = true then (croftlaw03_WideTells.j0 k a0 a1 a2 a3 bt152.1 bt152.2 (-1) a4_0 a4_1 a5_0 a5_1) else (croftlaw03_WideTells.j0 k a0 a1 a2 a3 bt152.1 bt152.2 0 a4_0 a4_1 a5_0 a5_1)))) = some r := by rw [if_pos rfl] at H; exact H
    clear H
    have H := H1
    clear H1
    replace H := Option.bind_eq_some_iff.mp H
    obtain ⟨⟨t152, t153⟩, A90, H⟩ := H
    replace H : ((croftref03_Less.f a4_0 a4_1 a5_0 a5_1).bind fun t154 => (if t154 = true then (croftlaw03_WideTells.j0 k a0 a1 a2 a3 t152 t153 (-1) a4_0 a4_1 a5_0 a5_1) else (croftlaw03_WideTells.j0 k a0 a1 a2 a3 t152 t153 0 a4_0 a4_1 a5_0 a5_1))) = some r := H
    have A9 := Aside0.mk A90
    clear A90
    replace H := Option.bind_eq_some_iff.mp H
    obtain ⟨t154, A100, H⟩ := H
    replace H : (if t154 = true then (croftlaw03_WideTells.j0 k a0 a1 a2 a3 t152 t153 (-1) a4_0 a4_1 a5_0 a5_1) else (croftlaw03_WideTells.j0 k a0 a1 a2 a3 t152 t153 0 a4_0 a4_1 a5_0 a5_1)) = some r := H
    have A10 := Aside0.mk A100
    clear A100
    have HC11 := Aside0.mk H
    clear H
    go_enter Try.func13, Try.ntmps13
    go_upto_if 34 with (first | ((with_reducible refine gate_dst (N := 10) rfl ?_); refine box_event ?hg (N := 10) ?hd (cs := #[.int .u64 a4_0, .int .u64 a4_1]) (t := 59) ?hr ?_; (case hd => rfl); (case hg => rfl); (case hr => first | (go_simp; done) | (go_simp; rfl)); intro gb149 hg w12 hbox hb; have n0_ := Aside0.mk (below_step (by repeat (first | (with_reducible first | exact HB.out | apply below_alloc | apply pw_below_drewN | apply below_drew1) | exact HB.out)) hb); have n1_ := Aside0.mk (hbox); have n2_ := Aside0.mk ((by rw [hg]; exact (below_size (by repeat (first | (with_reducible first | exact HB.out | apply below_alloc | apply pw_below_drewN | apply below_drew1) | exact HB.out))) : w.heap.size ≤ gb149)); have n3_ := Aside0.mk ((by rw [hg]; exact (below_size (by repeat (first | (with_reducible first | exact HB.out | apply below_alloc | apply pw_below_drewN | apply below_drew1) | exact HB.out))) : w.heap.size ≤ gb149)); clear HB; have HB := n0_; have BK149 := n1_; have GW149 := n2_; have GE149 := n3_; clear n0_ n1_ n2_ n3_; clear hb hbox hg) | ((with_reducible refine gate_dst (N := 11) rfl ?_); refine box_event ?hg (N := 11) ?hd (cs := #[.int .u64 a5_0, .int .u64 a5_1]) (t := 59) ?hr ?_; (case hd => rfl); (case hg => rfl); (case hr => first | (go_simp; done) | (go_simp; rfl)); intro gb150 hg w13 hbox hb; have n0_ := Aside0.mk (blk_below (g := gb149) (o := .cells #[.int .u64 a4_0, .int .u64 a4_1] 59 (0, 0)) (by (with_reducible repeat (first | refine blk_drewN ?_ _ | refine blk_drew ?_ | refine blk_alloc ?_ _)); exact BK149.out) hb); have n1_ := Aside0.mk (below_step (by repeat (first | (with_reducible first | exact HB.out | apply below_alloc | apply pw_below_drewN | apply below_drew1 | refine below_set ?_ GE149.out) | exact HB.out)) hb); have n2_ := Aside0.mk (hbox); have n3_ := Aside0.mk ((by rw [hg]; exact (below_size (by repeat (first | (with_reducible first | exact HB.out | apply below_alloc | apply pw_below_drewN | apply below_drew1 | refine below_set ?_ GE149.out) | exact HB.out))) : w.heap.size ≤ gb150)); have n4_ := Aside0.mk ((by rw [hg]; exact (below_size (by repeat (first | (with_reducible first | exact HB.out | apply below_alloc | apply pw_below_drewN | apply below_drew1 | refine below_set ?_ GE149.out) | exact HB.out))) : w.heap.size ≤ gb150)); have n5_ := Aside0.mk ((by rw [hg]; exact Nat.ne_of_lt (blk_lt (g := gb149) (o := .cells #[.int .u64 a4_0, .int .u64 a4_1] 59 (0, 0)) (by (with_reducible repeat (first | refine blk_drewN ?_ _ | refine blk_drew ?_ | refine blk_alloc ?_ _)); exact BK149.out)) : gb149 ≠ gb150)); have n6_ := Aside0.mk ((by rw [hg]; exact Nat.ne_of_gt (blk_lt (g := gb149) (o := .cells #[.int .u64 a4_0, .int .u64 a4_1] 59 (0, 0)) (by (with_reducible repeat (first | refine blk_drewN ?_ _ | refine blk_drew ?_ | refine blk_alloc ?_ _)); exact BK149.out)) : gb150 ≠ gb149)); clear BK149; clear HB; have BK149 := n0_; have HB := n1_; have BK150 := n2_; have GW150 := n3_; have GE150 := n4_; have NB149_150 := n5_; have NB150_149 := n6_; clear n0_ n1_ n2_ n3_ n4_ n5_ n6_; clear hb hbox hg) | ((with_reducible refine gate_callee (f := 34) rfl ?_); refine goesL_ (some 16) rfl rfl Try.func34 (by kernel_rfl) rfl #[] rfl (by (try simp only [List.map_toArray, List.map_cons, List.map_nil]); first | done | rfl | (simp only [List.length_drop, List.length_take]; rfl)) ?_; (with_reducible refine (croftlaw03_alive.calls k  true _ A7.out).mono ?_); rintro e w14 ⟨rfl, hb⟩; refine ⟨_, rfl, ?_⟩; have n0_ := Aside0.mk (blk_below (g := gb149) (o := .cells #[.int .u64 a4_0, .int .u64 a4_1] 59 (0, 0)) (by (with_reducible repeat (first | refine blk_drewN ?_ _ | refine blk_drew ?_ | refine blk_alloc ?_ _)); exact BK149.out) hb); have n1_ := Aside0.mk (blk_below (g := gb150) (o := .cells #[.int .u64 a5_0, .int .u64 a5_1] 59 (0, 0)) (by (with_reducible repeat (first | refine blk_drewN ?_ _ | refine blk_drew ?_ | refine blk_alloc ?_ _)); exact BK150.out) hb); have n2_ := Aside0.mk (below_step (by repeat (first | (with_reducible first | exact HB.out | apply below_alloc | apply pw_below_drewN | apply below_drew1 | refine below_set ?_ GE149.out | refine below_set ?_ GE150.out) | exact HB.out)) hb); clear BK149; clear BK150; clear HB; have BK149 := n0_; have BK150 := n1_; have HB := n2_; clear n0_ n1_ n2_; (try clear hb); (try clear hb2); (try clear hk); (try clear hi)) | ((with_reducible refine gate_callee (f := 40) rfl ?_); refine goesL_ (some 23) rfl rfl Try.func40 (by kernel_rfl) rfl #[.int .u32 a0, .int .u32 a1, .int .u32 a2, .int .u32 a3] rfl (by (try simp only [List.map_toArray, List.map_cons, List.map_nil]); first | done | rfl | (simp only [List.length_drop, List.length_take]; rfl)) ?_; (with_reducible refine (croftref03_Between.calls a0 a1 a2 a3 t152 t153 _ A9.out).mono ?_); rintro e w' ⟨rfl, ⟨nd, rfl⟩⟩; refine ⟨_, rfl, ?_⟩; have hnb15 := NB149_150.out; have hnc15 := NB150_149.out; have hcz16_0 : w14.cell? ⟨gb149, 0, none⟩ = some (.int .u64 a4_0) := (blk_cell BK149.out 0).trans rfl; have hcz16_1 : w14.cell? ⟨gb149, 1, none⟩ = some (.int .u64 a4_1) := (blk_cell BK149.out 1).trans rfl; have hfz16_0 := blk_frozen BK149.out 0; have hfz16_1 := blk_frozen BK149.out 1; have hcz17_0 : w14.cell? ⟨gb150, 0, none⟩ = some (.int .u64 a5_0) := (blk_cell BK150.out 0).trans rfl; have hcz17_1 : w14.cell? ⟨gb150, 1, none⟩ = some (.int .u64 a5_1) := (blk_cell BK150.out 1).trans rfl; have hfz17_0 := blk_frozen BK150.out 0; have hfz17_1 := blk_frozen BK150.out 1) | ((with_reducible refine gate_callee (f := 41) rfl ?_); refine goesL_ (some 34) rfl rfl Try.func41 (by kernel_rfl) rfl #[.int .u64 a4_0, .int .u64 a4_1, .int .u64 a5_0, .int .u64 a5_1] rfl (by (try simp only [List.map_toArray, List.map_cons, List.map_nil]); first | done | rfl | (simp only [List.length_drop, List.length_take]; rfl)) ?_; (with_reducible refine (croftref03_Less.calls a4_0 a4_1 a5_0 a5_1 t154 _ A10.out).mono ?_); rintro e w' ⟨rfl, ⟨nd, rfl⟩⟩; refine ⟨_, rfl, ?_⟩))
    (try simp only [Act.put, List.setIfInBounds_toArray, List.set_cons_zero, List.set_cons_succ])
    go_cut [15] (fun v15 wc => ∃ (kq : Nat) (x15_10 : Int), v15 = .int .i64 x15_10 ∧ Aside0 (croftlaw03_WideTells.j0 kq a0 a1 a2 a3 t152 t153 x15_10 a4_0 a4_1 a5_0 a5_1 = some r) ∧ Aside0 (kq ≤ k) ∧ Aside0 (wc.heap[gb149]? = some (.cells #[.int .u64 a4_0, .int .u64 a4_1] 59 (0, 0))) ∧ Aside0 (wc.heap[gb150]? = some (.cells #[.int .u64 a5_0, .int .u64 a5_1] 59 (0, 0))) ∧ Aside0 (Below w.heap.size w wc))
    case first =>
      have H := HC11.out
      clear HC11
      by_cases c18 : t154 = true
      · subst c18
        have H1 : (croftlaw03_WideTells.j0 k a0 a1 a2 a3 t152 t153 (-1) a4_0 a4_1 a5_0 a5_1) = some r := by rw [if_pos rfl] at H; exact H
        clear H
        have H := H1
        clear H1
        have H' := Aside0.mk H
        clear H
        go_wp2
        go_meet
        case rel => exact ⟨_, ((-1)), (by first | rfl | (simp; done) | (simp [*]; done)), H', ⟨by first | omega | exact Nat.le_refl _⟩, ⟨by (with_reducible repeat (first | refine blk_drewN ?_ _ | refine blk_drew ?_ | refine blk_alloc ?_ _)); exact BK149.out⟩, ⟨by (with_reducible repeat (first | refine blk_drewN ?_ _ | refine blk_drew ?_ | refine blk_alloc ?_ _)); exact BK150.out⟩, ⟨by repeat (first | (with_reducible first | exact HB.out | apply below_alloc | apply pw_below_drewN | apply below_drew1 | refine below_set ?_ GE149.out | refine below_set ?_ GE150.out) | exact HB.out)⟩⟩
      · replace c18 := Bool.eq_false_iff.mpr c18
        subst c18
        have H1 : (croftlaw03_WideTells.j0 k a0 a1 a2 a3 t152 t153 0 a4_0 a4_1 a5_0 a5_1) = some r := by rw [if_neg (show ¬ (false = true) by decide)] at H; exact H
        clear H
        have H := H1
        clear H1
        have H' := Aside0.mk H
        clear H
        go_wp2
        go_meet
        case rel => exact ⟨_, (0), (by first | rfl | (simp; done) | (simp [*]; done)), H', ⟨by first | omega | exact Nat.le_refl _⟩, ⟨by (with_reducible repeat (first | refine blk_drewN ?_ _ | refine blk_drew ?_ | refine blk_alloc ?_ _)); exact BK149.out⟩, ⟨by (with_reducible repeat (first | refine blk_drewN ?_ _ | refine blk_drew ?_ | refine blk_alloc ?_ _)); exact BK150.out⟩, ⟨by repeat (first | (with_reducible first | exact HB.out | apply below_alloc | apply pw_below_drewN | apply below_drew1 | refine below_set ?_ GE149.out | refine below_set ?_ GE150.out) | exact HB.out)⟩⟩
    case rest =>
      clear HC11
      try clear c1
      try clear p2
      try clear c3
      try clear c4
      try clear c8
      try clear c13
      try clear c15
      try clear c18
      try clear hcz16_0
      try clear hcz16_1
      try clear hcz17_0
      try clear hcz17_1
      try clear hfz16_0
      try clear hfz16_1
      try clear hfz17_0
      try clear hfz17_1
      obtain ⟨kq, x15_10, rfl, HA, HJ10, BK149, BK150, HB⟩ := hcut
      cases kq with
      | zero => exact absurd HA.out (by simp [croftlaw03_WideTells.j0])
      | succ kj10 =>
        have H := HA.out
        clear HA
        simp only [croftlaw03_WideTells.j0] at H
        replace H := Option.bind_eq_some_iff.mp H
        obtain ⟨t155, A190, H⟩ := H
        replace H : (if t155 = true then (croftlaw03_WideTells.j1 kj10 a0 a1 a2 a3 t152 t153 1 a4_0 a4_1 a5_0 a5_1) else (croftlaw03_WideTells.j1 kj10 a0 a1 a2 a3 t152 t153 x15_10 a4_0 a4_1 a5_0 a5_1)) = some r := H
        have A19 := Aside0.mk A190
        clear A190
        have HC20 := Aside0.mk H
        clear H
        have hnb21 := NB150_149.out
        have hnc21 := NB149_150.out
        have hcz22_0 : wc.cell? ⟨gb150, 0, none⟩ = some (.int .u64 a5_0) := (blk_cell BK150.out 0).trans rfl
        have hcz22_1 : wc.cell? ⟨gb150, 1, none⟩ = some (.int .u64 a5_1) := (blk_cell BK150.out 1).trans rfl
        have hfz22_0 := blk_frozen BK150.out 0
        have hfz22_1 := blk_frozen BK150.out 1
        have hcz23_0 : wc.cell? ⟨gb149, 0, none⟩ = some (.int .u64 a4_0) := (blk_cell BK149.out 0).trans rfl
        have hcz23_1 : wc.cell? ⟨gb149, 1, none⟩ = some (.int .u64 a4_1) := (blk_cell BK149.out 1).trans rfl
        have hfz23_0 := blk_frozen BK149.out 0
        have hfz23_1 := blk_frozen BK149.out 1
        go_upto_if 43 with (first | ((with_reducible refine gate_callee (f := 41) rfl ?_); refine goesL_ (some 43) rfl rfl Try.func41 (by kernel_rfl) rfl #[.int .u64 a5_0, .int .u64 a5_1, .int .u64 a4_0, .int .u64 a4_1] rfl (by (try simp only [List.map_toArray, List.map_cons, List.map_nil]); first | done | rfl | (simp only [List.length_drop, List.length_take]; rfl)) ?_; (with_reducible refine (croftref03_Less.calls a5_0 a5_1 a4_0 a4_1 t155 _ A19.out).mono ?_); rintro e w' ⟨rfl, ⟨nd, rfl⟩⟩; refine ⟨_, rfl, ?_⟩))
        (try simp only [Act.put, List.setIfInBounds_toArray, List.set_cons_zero, List.set_cons_succ])
        go_cut [15] (fun v15 wc => ∃ (kq : Nat) (x15_19 : Int), v15 = .int .i64 x15_19 ∧ Aside0 (croftlaw03_WideTells.j1 kq a0 a1 a2 a3 t152 t153 x15_19 a4_0 a4_1 a5_0 a5_1 = some r) ∧ Aside0 (kq ≤ kj10) ∧ Aside0 (wc.heap[gb149]? = some (.cells #[.int .u64 a4_0, .int .u64 a4_1] 59 (0, 0))) ∧ Aside0 (wc.heap[gb150]? = some (.cells #[.int .u64 a5_0, .int .u64 a5_1] 59 (0, 0))) ∧ Aside0 (Below w.heap.size w wc))
        case first =>
          have H := HC20.out
          clear HC20
          by_cases c24 : t155 = true
          · subst c24
            have H1 : (croftlaw03_WideTells.j1 kj10 a0 a1 a2 a3 t152 t153 1 a4_0 a4_1 a5_0 a5_1) = some r := by rw [if_pos rfl] at H; exact H
            clear H
            have H := H1
            clear H1
            have H' := Aside0.mk H
            clear H
            go_wp2
            go_meet
            case rel => exact ⟨_, (1), (by first | rfl | (simp; done) | (simp [*]; done)), H', ⟨by have := HJ10.out; first | omega | exact Nat.le_refl _⟩, ⟨by (with_reducible repeat (first | refine blk_drewN ?_ _ | refine blk_drew ?_ | refine blk_alloc ?_ _)); exact BK149.out⟩, ⟨by (with_reducible repeat (first | refine blk_drewN ?_ _ | refine blk_drew ?_ | refine blk_alloc ?_ _)); exact BK150.out⟩, ⟨by repeat (first | (with_reducible first | exact HB.out | apply below_alloc | apply pw_below_drewN | apply below_drew1 | refine below_set ?_ GE149.out | refine below_set ?_ GE150.out) | exact HB.out)⟩⟩
          · replace c24 := Bool.eq_false_iff.mpr c24
            subst c24
            have H1 : (croftlaw03_WideTells.j1 kj10 a0 a1 a2 a3 t152 t153 x15_10 a4_0 a4_1 a5_0 a5_1) = some r := by rw [if_neg (show ¬ (false = true) by decide)] at H; exact H
            clear H
            have H := H1
            clear H1
            have H' := Aside0.mk H
            clear H
            go_wp2
            go_meet
            case rel => exact ⟨_, (x15_10), (by first | rfl | (simp; done) | (simp [*]; done)), H', ⟨by have := HJ10.out; first | omega | exact Nat.le_refl _⟩, ⟨by (with_reducible repeat (first | refine blk_drewN ?_ _ | refine blk_drew ?_ | refine blk_alloc ?_ _)); exact BK149.out⟩, ⟨by (with_reducible repeat (first | refine blk_drewN ?_ _ | refine blk_drew ?_ | refine blk_alloc ?_ _)); exact BK150.out⟩, ⟨by repeat (first | (with_reducible first | exact HB.out | apply below_alloc | apply pw_below_drewN | apply below_drew1 | refine below_set ?_ GE149.out | refine below_set ?_ GE150.out) | exact HB.out)⟩⟩
        case rest =>
          clear HC20
          try clear c1
          try clear c2
          try clear p2
          try clear c3
          try clear c4
          try clear c8
          try clear c13
          try clear c15
          try clear c18
          try clear c21
          try clear c24
          try clear hcz16_0
          try clear hcz16_1
          try clear hcz17_0
          try clear hcz17_1
          try clear hcz22_0
          try clear hcz22_1
          try clear hcz23_0
          try clear hcz23_1
          try clear hfz16_0
          try clear hfz16_1
          try clear hfz17_0
          try clear hfz17_1
          try clear hfz22_0
          try clear hfz22_1
          try clear hfz23_0
          try clear hfz23_1
          try clear p2
          obtain ⟨kq, x15_19, rfl, HA, HJ19, BK149, BK150, HB⟩ := hcut
          cases kq with
          | zero => exact absurd HA.out (by simp [croftlaw03_WideTells.j1])
          | succ kj19 =>
            have H := HA.out
            clear HA
            simp only [croftlaw03_WideTells.j1] at H
            replace H := Option.bind_eq_some_iff.mp H
            obtain ⟨⟨t156, t157⟩, A250, H⟩ := H
            replace H : (if (t156 == t152 && (t157 == t153)) = true then ((wide_Cmp.f kj19 a4_0 a4_1 a5_0 a5_1).bind fun t158 => (if t158 = x15_19 then ((wide_Square.f a0).bind fun bt159 => (if (bt159.1 == 0 && (bt159.2 == (IntKind.u64.wrap ((IntKind.u64.wrap (a0)) * (IntKind.u64.wrap (a0)))))) = true then ((croftlaw03_alive.f kj19).bind fun t161 => (some t161)) else (some false))) else (some false))) else (some false)) = some r := H
            have A25 := Aside0.mk A250
            clear A250
            by_cases c26 : (t156 == t152 && (t157 == t153)) = true
            · rw [if_pos c26] at H
              have c26b0 : (t156 == t152 && (t157 == t153)) = true := c26
              (try (have c26b1 : decide (t156 = t152 && (t157 == t153)) = true := by simpa using c26))
              (try (have c26b2 : (t156 == t152 && (t157 == t153)) = true := by simpa using c26))
              clear c26
              replace H := Option.bind_eq_some_iff.mp H
              obtain ⟨t158, A270, H⟩ := H
              replace H : (if t158 = x15_19 then ((wide_Square.f a0).bind fun bt159 => (if (bt159.1 == 0 && (bt159.2 == (IntKind.u64.wrap ((IntKind.u64.wrap (a0)) * (IntKind.u64.wrap (a0)))))) = true then ((croftlaw03_alive.f kj19).bind fun t161 => (some t161)) else (some false))) else (some false)) = some r := H
              have A27 := Aside0.mk A270
              clear A270
              by_cases c28 : t158 = x15_19
              · rw [if_pos c28] at H
                have c28b0 : (t158 == x15_19) = true := beq_iff_eq.mpr c28
                have c28b1 : (t158 != x15_19) = false := bne_eq_false_iff_eq.mpr c28
                clear c28
                replace H := Option.bind_eq_some_iff.mp H
                obtain ⟨⟨t159, t160⟩, A290, H⟩ := H
                replace H : (if (t159 == 0 && (t160 == (IntKind.u64.wrap ((IntKind.u64.wrap (a0)) * (IntKind.u64.wrap (a0)))))) = true then ((croftlaw03_alive.f kj19).bind fun t161 => (some t161)) else (some false)) = some r := H
                have A29 := Aside0.mk A290
                clear A290
                by_cases c30 : (t159 == 0 && (t160 == (IntKind.u64.wrap ((IntKind.u64.wrap (a0)) * (IntKind.u64.wrap (a0)))))) = true
                · rw [if_pos c30] at H
                  have c30b0 : (t159 == 0 && (t160 == (IntKind.u64.wrap ((IntKind.u64.wrap (a0)) * (IntKind.u64.wrap (a0)))))) = true := c30
                  (try (have c30b1 : decide (t159 = 0 && (t160 == (IntKind.u64.wrap ((IntKind.u64.wrap (a0)) * (IntKind.u64.wrap (a0)))))) = true := by simpa using c30))
                  (try (have c30b2 : (t159 == 0 && (t160 == (IntKind.u64.wrap ((IntKind.u64.wrap (a0)) * (IntKind.u64.wrap (a0)))))) = true := by simpa using c30))
                  clear c30
                  replace H := Option.bind_eq_some_iff.mp H
                  obtain ⟨t161, A310, H⟩ := H
                  replace H : (some t161) = some r := H
                  have A31 := Aside0.mk A310
                  clear A310
                  obtain rfl := Option.some.inj H
                  simp only [Option.some.injEq, Prod.mk.injEq] at H
                  obtain ⟨rfl⟩ := H
                  go_wp2_with (first | ((with_reducible refine gate_callee (f := 42) rfl ?_); refine goesL_ (some 48) rfl rfl Try.func42 (by kernel_rfl) rfl #[.int .u32 a0, .int .u32 a1, .int .u32 a2, .int .u32 a3] rfl (by (try simp only [List.map_toArray, List.map_cons, List.map_nil]); first | done | rfl | (simp only [List.length_drop, List.length_take]; rfl)) ?_; (with_reducible refine (wide_Between.calls kj19 a0 a1 a2 a3 t156 t157 _ A25.out).mono ?_); rintro e w32 ⟨rfl, hb⟩; refine ⟨_, rfl, ?_⟩; have n0_ := Aside0.mk (blk_below (g := gb149) (o := .cells #[.int .u64 a4_0, .int .u64 a4_1] 59 (0, 0)) (by (with_reducible repeat (first | refine blk_drewN ?_ _ | refine blk_drew ?_ | refine blk_alloc ?_ _)); exact BK149.out) hb); have n1_ := Aside0.mk (blk_below (g := gb150) (o := .cells #[.int .u64 a5_0, .int .u64 a5_1] 59 (0, 0)) (by (with_reducible repeat (first | refine blk_drewN ?_ _ | refine blk_drew ?_ | refine blk_alloc ?_ _)); exact BK150.out) hb); have n2_ := Aside0.mk (below_step (by repeat (first | (with_reducible first | exact HB.out | apply below_alloc | apply pw_below_drewN | apply below_drew1 | refine below_set ?_ GE149.out | refine below_set ?_ GE150.out) | exact HB.out)) hb); clear BK149; clear BK150; clear HB; have BK149 := n0_; have BK150 := n1_; have HB := n2_; clear n0_ n1_ n2_; (try clear hb); (try clear hb2); (try clear hk); (try clear hi); have hnb33 := NB149_150.out; have hnc33 := NB150_149.out; have hcz34_0 : w32.cell? ⟨gb149, 0, none⟩ = some (.int .u64 a4_0) := (blk_cell BK149.out 0).trans rfl; have hcz34_1 : w32.cell? ⟨gb149, 1, none⟩ = some (.int .u64 a4_1) := (blk_cell BK149.out 1).trans rfl; have hfz34_0 := blk_frozen BK149.out 0; have hfz34_1 := blk_frozen BK149.out 1; have hcz35_0 : w32.cell? ⟨gb150, 0, none⟩ = some (.int .u64 a5_0) := (blk_cell BK150.out 0).trans rfl; have hcz35_1 : w32.cell? ⟨gb150, 1, none⟩ = some (.int .u64 a5_1) := (blk_cell BK150.out 1).trans rfl; have hfz35_0 := blk_frozen BK150.out 0; have hfz35_1 := blk_frozen BK150.out 1) | (go_at_call 43; (with_reducible refine (wide_Cmp.calls kj19 a4_0 a4_1 a5_0 a5_1 t158 _ A27.out).mono ?_); rintro e w36 ⟨rfl, hb⟩; have n0_ := Aside0.mk (blk_below (g := gb149) (o := .cells #[.int .u64 a4_0, .int .u64 a4_1] 59 (0, 0)) (by (with_reducible repeat (first | refine blk_drewN ?_ _ | refine blk_drew ?_ | refine blk_alloc ?_ _)); exact BK149.out) hb); have n1_ := Aside0.mk (blk_below (g := gb150) (o := .cells #[.int .u64 a5_0, .int .u64 a5_1] 59 (0, 0)) (by (with_reducible repeat (first | refine blk_drewN ?_ _ | refine blk_drew ?_ | refine blk_alloc ?_ _)); exact BK150.out) hb); have n2_ := Aside0.mk (below_step (by repeat (first | (with_reducible first | exact HB.out | apply below_alloc | apply pw_below_drewN | apply below_drew1 | refine below_set ?_ GE149.out | refine below_set ?_ GE150.out) | exact HB.out)) hb); clear BK149; clear BK150; clear HB; have BK149 := n0_; have BK150 := n1_; have HB := n2_; clear n0_ n1_ n2_; (try clear hb); (try clear hb2); (try clear hk); (try clear hi)) | (go_at_call 44; (with_reducible refine (wide_Square.calls a0 t159 t160 _ A29.out).mono ?_); rintro e w37 ⟨rfl, hb⟩; have n0_ := Aside0.mk (blk_below (g := gb149) (o := .cells #[.int .u64 a4_0, .int .u64 a4_1] 59 (0, 0)) (by (with_reducible repeat (first | refine blk_drewN ?_ _ | refine blk_drew ?_ | refine blk_alloc ?_ _)); exact BK149.out) hb); have n1_ := Aside0.mk (blk_below (g := gb150) (o := .cells #[.int .u64 a5_0, .int .u64 a5_1] 59 (0, 0)) (by (with_reducible repeat (first | refine blk_drewN ?_ _ | refine blk_drew ?_ | refine blk_alloc ?_ _)); exact BK150.out) hb); have n2_ := Aside0.mk (below_step (by repeat (first | (with_reducible first | exact HB.out | apply below_alloc | apply pw_below_drewN | apply below_drew1 | refine below_set ?_ GE149.out | refine below_set ?_ GE150.out) | exact HB.out)) hb); clear BK149; clear BK150; clear HB; have BK149 := n0_; have BK150 := n1_; have HB := n2_; clear n0_ n1_ n2_; (try clear hb); (try clear hb2); (try clear hk); (try clear hi)) | (go_at_call 34; (with_reducible refine (croftlaw03_alive.calls kj19  t161 _ A31.out).mono ?_); rintro e w38 ⟨rfl, hb⟩; have n0_ := Aside0.mk (blk_below (g := gb149) (o := .cells #[.int .u64 a4_0, .int .u64 a4_1] 59 (0, 0)) (by (with_reducible repeat (first | refine blk_drewN ?_ _ | refine blk_drew ?_ | refine blk_alloc ?_ _)); exact BK149.out) hb); have n1_ := Aside0.mk (blk_below (g := gb150) (o := .cells #[.int .u64 a5_0, .int .u64 a5_1] 59 (0, 0)) (by (with_reducible repeat (first | refine blk_drewN ?_ _ | refine blk_drew ?_ | refine blk_alloc ?_ _)); exact BK150.out) hb); have n2_ := Aside0.mk (below_step (by repeat (first | (with_reducible first | exact HB.out | apply below_alloc | apply pw_below_drewN | apply below_drew1 | refine below_set ?_ GE149.out | refine below_set ?_ GE150.out) | exact HB.out)) hb); clear BK149; clear BK150; clear HB; have BK149 := n0_; have BK150 := n1_; have HB := n2_; clear n0_ n1_ n2_; (try clear hb); (try clear hb2); (try clear hk); (try clear hi)))
                  go_ret
                  exact ⟨by first | rfl | (simp [errW_none, errW_some] <;> rfl) | (simp [*, errW_none, errW_some] <;> rfl), by repeat (first | (with_reducible first | exact HB.out | apply below_alloc | apply pw_below_drewN | apply below_drew1 | refine below_set ?_ GE149.out | refine below_set ?_ GE150.out) | exact HB.out)⟩
                · rw [if_neg c30] at H
                  have c30b0 : (t159 == 0 && (t160 == (IntKind.u64.wrap ((IntKind.u64.wrap (a0)) * (IntKind.u64.wrap (a0)))))) = false := by simpa using c30
                  (try (have c30b1 : decide (t159 = 0 && (t160 == (IntKind.u64.wrap ((IntKind.u64.wrap (a0)) * (IntKind.u64.wrap (a0)))))) = false := by simpa using c30))
                  (try (have c30b2 : (t159 == 0 && (t160 == (IntKind.u64.wrap ((IntKind.u64.wrap (a0)) * (IntKind.u64.wrap (a0)))))) = false := by simpa using c30))
                  (try (have c30b3 : ¬ (t159 = 0 && (t160 == (IntKind.u64.wrap ((IntKind.u64.wrap (a0)) * (IntKind.u64.wrap (a0)))))) := by simpa using c30))
                  clear c30
                  obtain rfl := Option.some.inj H
                  exact absurd HT.out (by simp)
              · rw [if_neg c28] at H
                have c28b0 : (t158 == x15_19) = false := beq_eq_false_iff_ne.mpr c28
                have c28b1 : (t158 != x15_19) = true := bne_iff_ne.mpr c28
                obtain rfl := Option.some.inj H
                exact absurd HT.out (by simp)
            · rw [if_neg c26] at H
              have c26b0 : (t156 == t152 && (t157 == t153)) = false := by simpa using c26
              (try (have c26b1 : decide (t156 = t152 && (t157 == t153)) = false := by simpa using c26))
              (try (have c26b2 : (t156 == t152 && (t157 == t153)) = false := by simpa using c26))
              (try (have c26b3 : ¬ (t156 = t152 && (t157 == t153)) := by simpa using c26))
              clear c26
              obtain rfl := Option.some.inj H
              exact absurd HT.out (by simp)
  · replace c8 := Bool.eq_false_iff.mpr c8
    subst c8
    have H1 : (some false) = some r := by rw [if_neg (show ¬ (false = true) by decide)] at H; exact H
    clear H
    have H := H1
    clear H1
    obtain rfl := Option.some.inj H
    exact absurd HT.out (by simp)

/-- THE ONE PURE STATEMENT of croftlaw03_WideTells. -/
def croftlaw03_WideTells.Pure : Prop := ∀ (a0 : Int) (a1 : Int) (a2 : Int) (a3 : Int) (a4_0 : Int) (a4_1 : Int) (a5_0 : Int) (a5_1 : Int), (Lit.int .u32 a0).wf = true → (Lit.int .u32 a1).wf = true → (Lit.int .u32 a2).wf = true → (Lit.int .u32 a3).wf = true → (Lit.int .u64 a4_0).wf = true → (Lit.int .u64 a4_1).wf = true → (Lit.int .u64 a5_0).wf = true → (Lit.int .u64 a5_1).wf = true → ∃ k, croftlaw03_WideTells.f k a0 a1 a2 a3 a4_0 a4_1 a5_0 a5_1 = some true

end Go.Proofs.Ytjlkkipickeebaa.PB
