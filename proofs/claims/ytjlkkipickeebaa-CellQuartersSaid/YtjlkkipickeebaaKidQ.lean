/-
  The contract of cell.Kid, walked by hand: the quarter that it answers, and that what existed stays as it was.
  Conditions: none.
-/
import Derived.Test.YtjlkkipickeebaaPQx2
namespace Go.Proofs.Ytjlkkipickeebaa.PQ
open Go.RowKit Go.Proofs.YtjlkkipickeebaaW.PrintWords Go.Proofs.YtjlkkipickeebaaW.PrintLast Go.Proofs.YtjlkkipickeebaaW.PrintMore
set_option linter.unusedVariables false
set_option linter.unusedSimpArgs false

def cell_Kid.f (a0_0 : Int) (a0_1 : Int) (a0_2 : Int) (a1 : Int) : Option (Int × Int × Int) := (cell_fix.f a0_0 a0_1 a0_2).bind fun bt225 => (if bt225.2.2 = 32 then (some (bt225.1, bt225.2.1, bt225.2.2)) else ((cell_side.f (wrap64 (bt225.2.2 + 1))).bind fun t228 => (if (Go.bits .and .i64 a1 1) = 1 then (if (Go.bits .and .i64 a1 2) = 2 then (some (Go.bits .or .u32 bt225.1 ((t228 + 1) % 4294967296), Go.bits .or .u32 bt225.2.1 ((t228 + 1) % 4294967296), wrap64 (bt225.2.2 + 1))) else (some (Go.bits .or .u32 bt225.1 ((t228 + 1) % 4294967296), bt225.2.1, wrap64 (bt225.2.2 + 1)))) else (if (Go.bits .and .i64 a1 2) = 2 then (some (bt225.1, Go.bits .or .u32 bt225.2.1 ((t228 + 1) % 4294967296), wrap64 (bt225.2.2 + 1))) else (some (bt225.1, bt225.2.1, wrap64 (bt225.2.2 + 1)))))))

set_option maxRecDepth 100000 in
set_option maxHeartbeats 4000000 in
theorem cell_Kid.leaf0 (a0_0 a0_1 a0_2 a1 t225 t226 t227 : Int) (w : World) (A3 : Aside0 (cell_fix.f a0_0 a0_1 a0_2 = some (t225, t226, t227))) (c4b0 : (t227 == 32) = true) :
    Calls Try.prog 36 #[.agg #[.int .u32 a0_0, .int .u32 a0_1, .int .i64 a0_2], .int .i64 a1] w fun e w' => e = .returned (.agg #[.int .u32 t225, .int .u32 t226, .int .i64 t227]) ∧ Below w.heap.size w w' := by
  have hu36 := Try.underlying36
  go_enter Try.func36, Try.ntmps36
  go_wp2_with (first
    | (go_at_call 51
       refine (cell_fix.calls a0_0 a0_1 a0_2 t225 t226 t227 _ A3.out).mono ?_
       rintro e w1 ⟨rfl, hb⟩
       have b0 := blk_below (g := w.heap.size) (o := .cells #[.int .u32 a0_0, .int .u32 a0_1, .int .i64 a0_2] 36 (0, 0)) (by exact blk_alloc (blk_new w _) _) hb
       have b1 := blk_below (g := w.heap.size + 1) (o := .cells #[.int .u32 0, .int .u32 0, .int .i64 0] 36 (0, 0)) (by have z := blk_new (w.alloc (.cells #[.int .u32 a0_0, .int .u32 a0_1, .int .i64 a0_2] 36)) (.cells #[.int .u32 0, .int .u32 0, .int .i64 0] 36); simpa using z) hb
       have hB := Aside0.mk (below_step (below_alloc (below_alloc (Below.refl w.heap.size w) _) _) hb)
       have hz0 : w.heap.size + 1 < w1.heap.size := by have := hb.size; simp at this; omega
       have n0 : ¬ w.heap.size = w1.heap.size := by omega
       have n1 : ¬ w.heap.size + 1 = w1.heap.size := by omega
       have n2 : ¬ w1.heap.size = w.heap.size := by omega
       have n3 : ¬ w1.heap.size = w.heap.size + 1 := by omega
       clear hb hz0
       have hc0 : w1.cell? ⟨w.heap.size, 0, none⟩ = some (.int .u32 a0_0) := (blk_cell b0 0).trans rfl
       have hc1 : w1.cell? ⟨w.heap.size, 1, none⟩ = some (.int .u32 a0_1) := (blk_cell b0 1).trans rfl
       have hc2 : w1.cell? ⟨w.heap.size, 2, none⟩ = some (.int .i64 a0_2) := (blk_cell b0 2).trans rfl
       have hf0 := blk_frozen b0 0
       have hf1 := blk_frozen b0 1
       have hf2 := blk_frozen b0 2
       have hr0 : w1.cell? ⟨w.heap.size + 1, 0, none⟩ = some (.int .u32 0) := (blk_cell b1 0).trans rfl
       have hr1 : w1.cell? ⟨w.heap.size + 1, 1, none⟩ = some (.int .u32 0) := (blk_cell b1 1).trans rfl
       have hr2 : w1.cell? ⟨w.heap.size + 1, 2, none⟩ = some (.int .i64 0) := (blk_cell b1 2).trans rfl
       have hg0 := blk_frozen b1 0
       have hg1 := blk_frozen b1 1
       have hg2 := blk_frozen b1 2
       have b0 := Aside0.mk b0
       have b1 := Aside0.mk b1))
  refine bodyPost_ret (results_cell_row rfl _ _ (w.heap.size + 1) 36 #[.int .u32 t225, .int .u32 t226, .int .i64 t227] (0, 0) _ rfl
    (blk_put (cs := #[.int .u32 t225, .int .u32 t226, .int .i64 0]) (blk_put (cs := #[.int .u32 t225, .int .u32 0, .int .i64 0]) (blk_put (blk_far (blk_far (blk_far b1.out (p := ⟨w.heap.size, 0, none⟩) (by simp) (.int .u32 t225)) (p := ⟨w.heap.size, 1, none⟩) (by simp) (.int .u32 t226)) (p := ⟨w.heap.size, 2, none⟩) (by simp) (.int .i64 t227)) 0 _ rfl) 1 _ rfl) 2 _ rfl) Try.underlying36 rfl (by kernel_rfl)) rfl ?_
  exact ⟨rfl, below_set (below_set (below_set (below_set (below_set (below_set hB.out (Nat.le_refl _)) (Nat.le_refl _)) (Nat.le_refl _)) (by omega)) (by omega)) (by omega)⟩

set_option maxRecDepth 100000 in
set_option maxHeartbeats 4000000 in
theorem cell_Kid.leaf1 (a0_0 a0_1 a0_2 a1 t225 t226 t227 t228 : Int) (w : World) (A3 : Aside0 (cell_fix.f a0_0 a0_1 a0_2 = some (t225, t226, t227))) (c4b0 : (t227 == 32) = false)
    (A12 : Aside0 (cell_side.f (wrap64 (t227 + 1)) = some t228)) (c13b0 : ((Go.bits .and .i64 a1 1) == 1) = true) (c14b0 : ((Go.bits .and .i64 a1 2) == 2) = true) :
    Calls Try.prog 36 #[.agg #[.int .u32 a0_0, .int .u32 a0_1, .int .i64 a0_2], .int .i64 a1] w fun e w' => e = .returned (.agg #[.int .u32 (Go.bits .or .u32 t225 ((t228 + 1) % 4294967296)), .int .u32 (Go.bits .or .u32 t226 ((t228 + 1) % 4294967296)), .int .i64 (wrap64 (t227 + 1))]) ∧ Below w.heap.size w w' := by
  have hu36 := Try.underlying36
  go_enter Try.func36, Try.ntmps36
  go_wp2_with (first
    | (go_at_call 51
       refine (cell_fix.calls a0_0 a0_1 a0_2 t225 t226 t227 _ A3.out).mono ?_
       rintro e w1 ⟨rfl, hb⟩
       have b0 := blk_below (g := w.heap.size) (o := .cells #[.int .u32 a0_0, .int .u32 a0_1, .int .i64 a0_2] 36 (0, 0)) (by exact blk_alloc (blk_new w _) _) hb
       have b1 := blk_below (g := w.heap.size + 1) (o := .cells #[.int .u32 0, .int .u32 0, .int .i64 0] 36 (0, 0)) (by have z := blk_new (w.alloc (.cells #[.int .u32 a0_0, .int .u32 a0_1, .int .i64 a0_2] 36)) (.cells #[.int .u32 0, .int .u32 0, .int .i64 0] 36); simpa using z) hb
       have hB := Aside0.mk (below_step (below_alloc (below_alloc (Below.refl w.heap.size w) _) _) hb)
       have hz0 : w.heap.size + 1 < w1.heap.size := by have := hb.size; simp at this; omega
       have n0 : ¬ w.heap.size = w1.heap.size := by omega
       have n1 : ¬ w.heap.size + 1 = w1.heap.size := by omega
       have n2 : ¬ w1.heap.size = w.heap.size := by omega
       have n3 : ¬ w1.heap.size = w.heap.size + 1 := by omega
       clear hb hz0
       have hc0 : w1.cell? ⟨w.heap.size, 0, none⟩ = some (.int .u32 a0_0) := (blk_cell b0 0).trans rfl
       have hc1 : w1.cell? ⟨w.heap.size, 1, none⟩ = some (.int .u32 a0_1) := (blk_cell b0 1).trans rfl
       have hc2 : w1.cell? ⟨w.heap.size, 2, none⟩ = some (.int .i64 a0_2) := (blk_cell b0 2).trans rfl
       have hf0 := blk_frozen b0 0
       have hf1 := blk_frozen b0 1
       have hf2 := blk_frozen b0 2
       have hr0 : w1.cell? ⟨w.heap.size + 1, 0, none⟩ = some (.int .u32 0) := (blk_cell b1 0).trans rfl
       have hr1 : w1.cell? ⟨w.heap.size + 1, 1, none⟩ = some (.int .u32 0) := (blk_cell b1 1).trans rfl
       have hr2 : w1.cell? ⟨w.heap.size + 1, 2, none⟩ = some (.int .i64 0) := (blk_cell b1 2).trans rfl
       have hg0 := blk_frozen b1 0
       have hg1 := blk_frozen b1 1
       have hg2 := blk_frozen b1 2
       have b0 := Aside0.mk b0
       have b1 := Aside0.mk b1))
  refine (cell_side.calls (wrap64 (t227 + 1)) t228 _ A12.out).mono ?_
  rintro e w2 ⟨rfl, hd⟩
  have hb2 := hd.below
  have c0 := blk_below (blk_put (cs := #[.int .u32 t225, .int .u32 t226, .int .i64 a0_2]) (blk_put (cs := #[.int .u32 t225, .int .u32 a0_1, .int .i64 a0_2]) (blk_put (cs := #[.int .u32 a0_0, .int .u32 a0_1, .int .i64 a0_2]) b0.out 0 (.int .u32 t225) rfl) 1 (.int .u32 t226) rfl) 2 (.int .i64 t227) rfl) hb2
  have c1 := blk_below (blk_far (blk_far (blk_far b1.out (p := ⟨w.heap.size, 0, none⟩) (by simp) (.int .u32 t225)) (p := ⟨w.heap.size, 1, none⟩) (by simp) (.int .u32 t226)) (p := ⟨w.heap.size, 2, none⟩) (by simp) (.int .i64 t227)) hb2
  have hB2 := Aside0.mk (below_step (below_set (below_set (below_set hB.out (Nat.le_refl _)) (Nat.le_refl _)) (Nat.le_refl _)) hb2)
  have hz2 := blk_lt c1
  clear hd hb2 hc0 hc1 hc2 hf0 hf1 hf2 hr0 hr1 hr2 hg0 hg1 hg2 n0 n1 n2 n3 b0 b1 hB
  have n0 : ¬ w.heap.size = w2.heap.size := by omega
  have n1 : ¬ w.heap.size + 1 = w2.heap.size := by omega
  have n2 : ¬ w2.heap.size = w.heap.size := by omega
  have n3 : ¬ w2.heap.size = w.heap.size + 1 := by omega
  have hlt : w.heap.size < w2.heap.size := by omega
  have hc0 : w2.cell? ⟨w.heap.size, 0, none⟩ = some (.int .u32 t225) := (blk_cell c0 0).trans rfl
  have hc1 : w2.cell? ⟨w.heap.size, 1, none⟩ = some (.int .u32 t226) := (blk_cell c0 1).trans rfl
  have hc2 : w2.cell? ⟨w.heap.size, 2, none⟩ = some (.int .i64 t227) := (blk_cell c0 2).trans rfl
  have hr0 : w2.cell? ⟨w.heap.size + 1, 0, none⟩ = some (.int .u32 0) := (blk_cell c1 0).trans rfl
  have hr1 : w2.cell? ⟨w.heap.size + 1, 1, none⟩ = some (.int .u32 0) := (blk_cell c1 1).trans rfl
  have hr2 : w2.cell? ⟨w.heap.size + 1, 2, none⟩ = some (.int .i64 0) := (blk_cell c1 2).trans rfl
  have hg0 := blk_frozen c1 0
  have hg1 := blk_frozen c1 1
  have hg2 := blk_frozen c1 2
  have c0 := Aside0.mk c0
  have c1 := Aside0.mk c1
  go_wp2_with fail
  refine bodyPost_ret (results_cell_row rfl _ _ (w.heap.size + 1) 36 #[.int .u32 (Go.bits .or .u32 t225 ((t228 + 1) % 4294967296)), .int .u32 (Go.bits .or .u32 t226 ((t228 + 1) % 4294967296)), .int .i64 (wrap64 (t227 + 1))] (0, 0) _ rfl
    (blk_alloc (blk_put (cs := #[.int .u32 (Go.bits .or .u32 t225 ((t228 + 1) % 4294967296)), .int .u32 (Go.bits .or .u32 t226 ((t228 + 1) % 4294967296)), .int .i64 0]) (blk_put (cs := #[.int .u32 (Go.bits .or .u32 t225 ((t228 + 1) % 4294967296)), .int .u32 0, .int .i64 0]) (blk_put c1.out 0 _ rfl) 1 _ rfl) 2 _ rfl) _) Try.underlying36 rfl (by kernel_rfl)) rfl ?_
  exact ⟨rfl, below_alloc (below_set (below_set (below_set hB2.out (by omega)) (by omega)) (by omega)) _⟩

set_option maxRecDepth 100000 in
set_option maxHeartbeats 4000000 in
theorem cell_Kid.leaf2 (a0_0 a0_1 a0_2 a1 t225 t226 t227 t228 : Int) (w : World) (A3 : Aside0 (cell_fix.f a0_0 a0_1 a0_2 = some (t225, t226, t227))) (c4b0 : (t227 == 32) = false)
    (A12 : Aside0 (cell_side.f (wrap64 (t227 + 1)) = some t228)) (c13b0 : ((Go.bits .and .i64 a1 1) == 1) = true) (c14b0 : ((Go.bits .and .i64 a1 2) == 2) = false) :
    Calls Try.prog 36 #[.agg #[.int .u32 a0_0, .int .u32 a0_1, .int .i64 a0_2], .int .i64 a1] w fun e w' => e = .returned (.agg #[.int .u32 (Go.bits .or .u32 t225 ((t228 + 1) % 4294967296)), .int .u32 (t226), .int .i64 (wrap64 (t227 + 1))]) ∧ Below w.heap.size w w' := by
  have hu36 := Try.underlying36
  go_enter Try.func36, Try.ntmps36
  go_wp2_with (first
    | (go_at_call 51
       refine (cell_fix.calls a0_0 a0_1 a0_2 t225 t226 t227 _ A3.out).mono ?_
       rintro e w1 ⟨rfl, hb⟩
       have b0 := blk_below (g := w.heap.size) (o := .cells #[.int .u32 a0_0, .int .u32 a0_1, .int .i64 a0_2] 36 (0, 0)) (by exact blk_alloc (blk_new w _) _) hb
       have b1 := blk_below (g := w.heap.size + 1) (o := .cells #[.int .u32 0, .int .u32 0, .int .i64 0] 36 (0, 0)) (by have z := blk_new (w.alloc (.cells #[.int .u32 a0_0, .int .u32 a0_1, .int .i64 a0_2] 36)) (.cells #[.int .u32 0, .int .u32 0, .int .i64 0] 36); simpa using z) hb
       have hB := Aside0.mk (below_step (below_alloc (below_alloc (Below.refl w.heap.size w) _) _) hb)
       have hz0 : w.heap.size + 1 < w1.heap.size := by have := hb.size; simp at this; omega
       have n0 : ¬ w.heap.size = w1.heap.size := by omega
       have n1 : ¬ w.heap.size + 1 = w1.heap.size := by omega
       have n2 : ¬ w1.heap.size = w.heap.size := by omega
       have n3 : ¬ w1.heap.size = w.heap.size + 1 := by omega
       clear hb hz0
       have hc0 : w1.cell? ⟨w.heap.size, 0, none⟩ = some (.int .u32 a0_0) := (blk_cell b0 0).trans rfl
       have hc1 : w1.cell? ⟨w.heap.size, 1, none⟩ = some (.int .u32 a0_1) := (blk_cell b0 1).trans rfl
       have hc2 : w1.cell? ⟨w.heap.size, 2, none⟩ = some (.int .i64 a0_2) := (blk_cell b0 2).trans rfl
       have hf0 := blk_frozen b0 0
       have hf1 := blk_frozen b0 1
       have hf2 := blk_frozen b0 2
       have hr0 : w1.cell? ⟨w.heap.size + 1, 0, none⟩ = some (.int .u32 0) := (blk_cell b1 0).trans rfl
       have hr1 : w1.cell? ⟨w.heap.size + 1, 1, none⟩ = some (.int .u32 0) := (blk_cell b1 1).trans rfl
       have hr2 : w1.cell? ⟨w.heap.size + 1, 2, none⟩ = some (.int .i64 0) := (blk_cell b1 2).trans rfl
       have hg0 := blk_frozen b1 0
       have hg1 := blk_frozen b1 1
       have hg2 := blk_frozen b1 2
       have b0 := Aside0.mk b0
       have b1 := Aside0.mk b1))
  refine (cell_side.calls (wrap64 (t227 + 1)) t228 _ A12.out).mono ?_
  rintro e w2 ⟨rfl, hd⟩
  have hb2 := hd.below
  have c0 := blk_below (blk_put (cs := #[.int .u32 t225, .int .u32 t226, .int .i64 a0_2]) (blk_put (cs := #[.int .u32 t225, .int .u32 a0_1, .int .i64 a0_2]) (blk_put (cs := #[.int .u32 a0_0, .int .u32 a0_1, .int .i64 a0_2]) b0.out 0 (.int .u32 t225) rfl) 1 (.int .u32 t226) rfl) 2 (.int .i64 t227) rfl) hb2
  have c1 := blk_below (blk_far (blk_far (blk_far b1.out (p := ⟨w.heap.size, 0, none⟩) (by simp) (.int .u32 t225)) (p := ⟨w.heap.size, 1, none⟩) (by simp) (.int .u32 t226)) (p := ⟨w.heap.size, 2, none⟩) (by simp) (.int .i64 t227)) hb2
  have hB2 := Aside0.mk (below_step (below_set (below_set (below_set hB.out (Nat.le_refl _)) (Nat.le_refl _)) (Nat.le_refl _)) hb2)
  have hz2 := blk_lt c1
  clear hd hb2 hc0 hc1 hc2 hf0 hf1 hf2 hr0 hr1 hr2 hg0 hg1 hg2 n0 n1 n2 n3 b0 b1 hB
  have n0 : ¬ w.heap.size = w2.heap.size := by omega
  have n1 : ¬ w.heap.size + 1 = w2.heap.size := by omega
  have n2 : ¬ w2.heap.size = w.heap.size := by omega
  have n3 : ¬ w2.heap.size = w.heap.size + 1 := by omega
  have hlt : w.heap.size < w2.heap.size := by omega
  have hc0 : w2.cell? ⟨w.heap.size, 0, none⟩ = some (.int .u32 t225) := (blk_cell c0 0).trans rfl
  have hc1 : w2.cell? ⟨w.heap.size, 1, none⟩ = some (.int .u32 t226) := (blk_cell c0 1).trans rfl
  have hc2 : w2.cell? ⟨w.heap.size, 2, none⟩ = some (.int .i64 t227) := (blk_cell c0 2).trans rfl
  have hr0 : w2.cell? ⟨w.heap.size + 1, 0, none⟩ = some (.int .u32 0) := (blk_cell c1 0).trans rfl
  have hr1 : w2.cell? ⟨w.heap.size + 1, 1, none⟩ = some (.int .u32 0) := (blk_cell c1 1).trans rfl
  have hr2 : w2.cell? ⟨w.heap.size + 1, 2, none⟩ = some (.int .i64 0) := (blk_cell c1 2).trans rfl
  have hg0 := blk_frozen c1 0
  have hg1 := blk_frozen c1 1
  have hg2 := blk_frozen c1 2
  have c0 := Aside0.mk c0
  have c1 := Aside0.mk c1
  go_wp2_with fail
  refine bodyPost_ret (results_cell_row rfl _ _ (w.heap.size + 1) 36 #[.int .u32 (Go.bits .or .u32 t225 ((t228 + 1) % 4294967296)), .int .u32 (t226), .int .i64 (wrap64 (t227 + 1))] (0, 0) _ rfl
    (blk_alloc (blk_put (cs := #[.int .u32 (Go.bits .or .u32 t225 ((t228 + 1) % 4294967296)), .int .u32 (t226), .int .i64 0]) (blk_put (cs := #[.int .u32 (Go.bits .or .u32 t225 ((t228 + 1) % 4294967296)), .int .u32 0, .int .i64 0]) (blk_put c1.out 0 _ rfl) 1 _ rfl) 2 _ rfl) _) Try.underlying36 rfl (by kernel_rfl)) rfl ?_
  exact ⟨rfl, below_alloc (below_set (below_set (below_set hB2.out (by omega)) (by omega)) (by omega)) _⟩

set_option maxRecDepth 100000 in
set_option maxHeartbeats 4000000 in
theorem cell_Kid.leaf3 (a0_0 a0_1 a0_2 a1 t225 t226 t227 t228 : Int) (w : World) (A3 : Aside0 (cell_fix.f a0_0 a0_1 a0_2 = some (t225, t226, t227))) (c4b0 : (t227 == 32) = false)
    (A12 : Aside0 (cell_side.f (wrap64 (t227 + 1)) = some t228)) (c13b0 : ((Go.bits .and .i64 a1 1) == 1) = false) (c14b0 : ((Go.bits .and .i64 a1 2) == 2) = true) :
    Calls Try.prog 36 #[.agg #[.int .u32 a0_0, .int .u32 a0_1, .int .i64 a0_2], .int .i64 a1] w fun e w' => e = .returned (.agg #[.int .u32 (t225), .int .u32 (Go.bits .or .u32 t226 ((t228 + 1) % 4294967296)), .int .i64 (wrap64 (t227 + 1))]) ∧ Below w.heap.size w w' := by
  have hu36 := Try.underlying36
  go_enter Try.func36, Try.ntmps36
  go_wp2_with (first
    | (go_at_call 51
       refine (cell_fix.calls a0_0 a0_1 a0_2 t225 t226 t227 _ A3.out).mono ?_
       rintro e w1 ⟨rfl, hb⟩
       have b0 := blk_below (g := w.heap.size) (o := .cells #[.int .u32 a0_0, .int .u32 a0_1, .int .i64 a0_2] 36 (0, 0)) (by exact blk_alloc (blk_new w _) _) hb
       have b1 := blk_below (g := w.heap.size + 1) (o := .cells #[.int .u32 0, .int .u32 0, .int .i64 0] 36 (0, 0)) (by have z := blk_new (w.alloc (.cells #[.int .u32 a0_0, .int .u32 a0_1, .int .i64 a0_2] 36)) (.cells #[.int .u32 0, .int .u32 0, .int .i64 0] 36); simpa using z) hb
       have hB := Aside0.mk (below_step (below_alloc (below_alloc (Below.refl w.heap.size w) _) _) hb)
       have hz0 : w.heap.size + 1 < w1.heap.size := by have := hb.size; simp at this; omega
       have n0 : ¬ w.heap.size = w1.heap.size := by omega
       have n1 : ¬ w.heap.size + 1 = w1.heap.size := by omega
       have n2 : ¬ w1.heap.size = w.heap.size := by omega
       have n3 : ¬ w1.heap.size = w.heap.size + 1 := by omega
       clear hb hz0
       have hc0 : w1.cell? ⟨w.heap.size, 0, none⟩ = some (.int .u32 a0_0) := (blk_cell b0 0).trans rfl
       have hc1 : w1.cell? ⟨w.heap.size, 1, none⟩ = some (.int .u32 a0_1) := (blk_cell b0 1).trans rfl
       have hc2 : w1.cell? ⟨w.heap.size, 2, none⟩ = some (.int .i64 a0_2) := (blk_cell b0 2).trans rfl
       have hf0 := blk_frozen b0 0
       have hf1 := blk_frozen b0 1
       have hf2 := blk_frozen b0 2
       have hr0 : w1.cell? ⟨w.heap.size + 1, 0, none⟩ = some (.int .u32 0) := (blk_cell b1 0).trans rfl
       have hr1 : w1.cell? ⟨w.heap.size + 1, 1, none⟩ = some (.int .u32 0) := (blk_cell b1 1).trans rfl
       have hr2 : w1.cell? ⟨w.heap.size + 1, 2, none⟩ = some (.int .i64 0) := (blk_cell b1 2).trans rfl
       have hg0 := blk_frozen b1 0
       have hg1 := blk_frozen b1 1
       have hg2 := blk_frozen b1 2
       have b0 := Aside0.mk b0
       have b1 := Aside0.mk b1))
  refine (cell_side.calls (wrap64 (t227 + 1)) t228 _ A12.out).mono ?_
  rintro e w2 ⟨rfl, hd⟩
  have hb2 := hd.below
  have c0 := blk_below (blk_put (cs := #[.int .u32 t225, .int .u32 t226, .int .i64 a0_2]) (blk_put (cs := #[.int .u32 t225, .int .u32 a0_1, .int .i64 a0_2]) (blk_put (cs := #[.int .u32 a0_0, .int .u32 a0_1, .int .i64 a0_2]) b0.out 0 (.int .u32 t225) rfl) 1 (.int .u32 t226) rfl) 2 (.int .i64 t227) rfl) hb2
  have c1 := blk_below (blk_far (blk_far (blk_far b1.out (p := ⟨w.heap.size, 0, none⟩) (by simp) (.int .u32 t225)) (p := ⟨w.heap.size, 1, none⟩) (by simp) (.int .u32 t226)) (p := ⟨w.heap.size, 2, none⟩) (by simp) (.int .i64 t227)) hb2
  have hB2 := Aside0.mk (below_step (below_set (below_set (below_set hB.out (Nat.le_refl _)) (Nat.le_refl _)) (Nat.le_refl _)) hb2)
  have hz2 := blk_lt c1
  clear hd hb2 hc0 hc1 hc2 hf0 hf1 hf2 hr0 hr1 hr2 hg0 hg1 hg2 n0 n1 n2 n3 b0 b1 hB
  have n0 : ¬ w.heap.size = w2.heap.size := by omega
  have n1 : ¬ w.heap.size + 1 = w2.heap.size := by omega
  have n2 : ¬ w2.heap.size = w.heap.size := by omega
  have n3 : ¬ w2.heap.size = w.heap.size + 1 := by omega
  have hlt : w.heap.size < w2.heap.size := by omega
  have hc0 : w2.cell? ⟨w.heap.size, 0, none⟩ = some (.int .u32 t225) := (blk_cell c0 0).trans rfl
  have hc1 : w2.cell? ⟨w.heap.size, 1, none⟩ = some (.int .u32 t226) := (blk_cell c0 1).trans rfl
  have hc2 : w2.cell? ⟨w.heap.size, 2, none⟩ = some (.int .i64 t227) := (blk_cell c0 2).trans rfl
  have hr0 : w2.cell? ⟨w.heap.size + 1, 0, none⟩ = some (.int .u32 0) := (blk_cell c1 0).trans rfl
  have hr1 : w2.cell? ⟨w.heap.size + 1, 1, none⟩ = some (.int .u32 0) := (blk_cell c1 1).trans rfl
  have hr2 : w2.cell? ⟨w.heap.size + 1, 2, none⟩ = some (.int .i64 0) := (blk_cell c1 2).trans rfl
  have hg0 := blk_frozen c1 0
  have hg1 := blk_frozen c1 1
  have hg2 := blk_frozen c1 2
  have c0 := Aside0.mk c0
  have c1 := Aside0.mk c1
  go_wp2_with fail
  refine bodyPost_ret (results_cell_row rfl _ _ (w.heap.size + 1) 36 #[.int .u32 (t225), .int .u32 (Go.bits .or .u32 t226 ((t228 + 1) % 4294967296)), .int .i64 (wrap64 (t227 + 1))] (0, 0) _ rfl
    (blk_alloc (blk_put (cs := #[.int .u32 (t225), .int .u32 (Go.bits .or .u32 t226 ((t228 + 1) % 4294967296)), .int .i64 0]) (blk_put (cs := #[.int .u32 (t225), .int .u32 0, .int .i64 0]) (blk_put c1.out 0 _ rfl) 1 _ rfl) 2 _ rfl) _) Try.underlying36 rfl (by kernel_rfl)) rfl ?_
  exact ⟨rfl, below_alloc (below_set (below_set (below_set hB2.out (by omega)) (by omega)) (by omega)) _⟩

set_option maxRecDepth 100000 in
set_option maxHeartbeats 4000000 in
theorem cell_Kid.leaf4 (a0_0 a0_1 a0_2 a1 t225 t226 t227 t228 : Int) (w : World) (A3 : Aside0 (cell_fix.f a0_0 a0_1 a0_2 = some (t225, t226, t227))) (c4b0 : (t227 == 32) = false)
    (A12 : Aside0 (cell_side.f (wrap64 (t227 + 1)) = some t228)) (c13b0 : ((Go.bits .and .i64 a1 1) == 1) = false) (c14b0 : ((Go.bits .and .i64 a1 2) == 2) = false) :
    Calls Try.prog 36 #[.agg #[.int .u32 a0_0, .int .u32 a0_1, .int .i64 a0_2], .int .i64 a1] w fun e w' => e = .returned (.agg #[.int .u32 (t225), .int .u32 (t226), .int .i64 (wrap64 (t227 + 1))]) ∧ Below w.heap.size w w' := by
  have hu36 := Try.underlying36
  go_enter Try.func36, Try.ntmps36
  go_wp2_with (first
    | (go_at_call 51
       refine (cell_fix.calls a0_0 a0_1 a0_2 t225 t226 t227 _ A3.out).mono ?_
       rintro e w1 ⟨rfl, hb⟩
       have b0 := blk_below (g := w.heap.size) (o := .cells #[.int .u32 a0_0, .int .u32 a0_1, .int .i64 a0_2] 36 (0, 0)) (by exact blk_alloc (blk_new w _) _) hb
       have b1 := blk_below (g := w.heap.size + 1) (o := .cells #[.int .u32 0, .int .u32 0, .int .i64 0] 36 (0, 0)) (by have z := blk_new (w.alloc (.cells #[.int .u32 a0_0, .int .u32 a0_1, .int .i64 a0_2] 36)) (.cells #[.int .u32 0, .int .u32 0, .int .i64 0] 36); simpa using z) hb
       have hB := Aside0.mk (below_step (below_alloc (below_alloc (Below.refl w.heap.size w) _) _) hb)
       have hz0 : w.heap.size + 1 < w1.heap.size := by have := hb.size; simp at this; omega
       have n0 : ¬ w.heap.size = w1.heap.size := by omega
       have n1 : ¬ w.heap.size + 1 = w1.heap.size := by omega
       have n2 : ¬ w1.heap.size = w.heap.size := by omega
       have n3 : ¬ w1.heap.size = w.heap.size + 1 := by omega
       clear hb hz0
       have hc0 : w1.cell? ⟨w.heap.size, 0, none⟩ = some (.int .u32 a0_0) := (blk_cell b0 0).trans rfl
       have hc1 : w1.cell? ⟨w.heap.size, 1, none⟩ = some (.int .u32 a0_1) := (blk_cell b0 1).trans rfl
       have hc2 : w1.cell? ⟨w.heap.size, 2, none⟩ = some (.int .i64 a0_2) := (blk_cell b0 2).trans rfl
       have hf0 := blk_frozen b0 0
       have hf1 := blk_frozen b0 1
       have hf2 := blk_frozen b0 2
       have hr0 : w1.cell? ⟨w.heap.size + 1, 0, none⟩ = some (.int .u32 0) := (blk_cell b1 0).trans rfl
       have hr1 : w1.cell? ⟨w.heap.size + 1, 1, none⟩ = some (.int .u32 0) := (blk_cell b1 1).trans rfl
       have hr2 : w1.cell? ⟨w.heap.size + 1, 2, none⟩ = some (.int .i64 0) := (blk_cell b1 2).trans rfl
       have hg0 := blk_frozen b1 0
       have hg1 := blk_frozen b1 1
       have hg2 := blk_frozen b1 2
       have b0 := Aside0.mk b0
       have b1 := Aside0.mk b1))
  refine (cell_side.calls (wrap64 (t227 + 1)) t228 _ A12.out).mono ?_
  rintro e w2 ⟨rfl, hd⟩
  have hb2 := hd.below
  have c0 := blk_below (blk_put (cs := #[.int .u32 t225, .int .u32 t226, .int .i64 a0_2]) (blk_put (cs := #[.int .u32 t225, .int .u32 a0_1, .int .i64 a0_2]) (blk_put (cs := #[.int .u32 a0_0, .int .u32 a0_1, .int .i64 a0_2]) b0.out 0 (.int .u32 t225) rfl) 1 (.int .u32 t226) rfl) 2 (.int .i64 t227) rfl) hb2
  have c1 := blk_below (blk_far (blk_far (blk_far b1.out (p := ⟨w.heap.size, 0, none⟩) (by simp) (.int .u32 t225)) (p := ⟨w.heap.size, 1, none⟩) (by simp) (.int .u32 t226)) (p := ⟨w.heap.size, 2, none⟩) (by simp) (.int .i64 t227)) hb2
  have hB2 := Aside0.mk (below_step (below_set (below_set (below_set hB.out (Nat.le_refl _)) (Nat.le_refl _)) (Nat.le_refl _)) hb2)
  have hz2 := blk_lt c1
  clear hd hb2 hc0 hc1 hc2 hf0 hf1 hf2 hr0 hr1 hr2 hg0 hg1 hg2 n0 n1 n2 n3 b0 b1 hB
  have n0 : ¬ w.heap.size = w2.heap.size := by omega
  have n1 : ¬ w.heap.size + 1 = w2.heap.size := by omega
  have n2 : ¬ w2.heap.size = w.heap.size := by omega
  have n3 : ¬ w2.heap.size = w.heap.size + 1 := by omega
  have hlt : w.heap.size < w2.heap.size := by omega
  have hc0 : w2.cell? ⟨w.heap.size, 0, none⟩ = some (.int .u32 t225) := (blk_cell c0 0).trans rfl
  have hc1 : w2.cell? ⟨w.heap.size, 1, none⟩ = some (.int .u32 t226) := (blk_cell c0 1).trans rfl
  have hc2 : w2.cell? ⟨w.heap.size, 2, none⟩ = some (.int .i64 t227) := (blk_cell c0 2).trans rfl
  have hr0 : w2.cell? ⟨w.heap.size + 1, 0, none⟩ = some (.int .u32 0) := (blk_cell c1 0).trans rfl
  have hr1 : w2.cell? ⟨w.heap.size + 1, 1, none⟩ = some (.int .u32 0) := (blk_cell c1 1).trans rfl
  have hr2 : w2.cell? ⟨w.heap.size + 1, 2, none⟩ = some (.int .i64 0) := (blk_cell c1 2).trans rfl
  have hg0 := blk_frozen c1 0
  have hg1 := blk_frozen c1 1
  have hg2 := blk_frozen c1 2
  have c0 := Aside0.mk c0
  have c1 := Aside0.mk c1
  go_wp2_with fail
  refine bodyPost_ret (results_cell_row rfl _ _ (w.heap.size + 1) 36 #[.int .u32 (t225), .int .u32 (t226), .int .i64 (wrap64 (t227 + 1))] (0, 0) _ rfl
    (blk_alloc (blk_put (cs := #[.int .u32 (t225), .int .u32 (t226), .int .i64 0]) (blk_put (cs := #[.int .u32 (t225), .int .u32 0, .int .i64 0]) (blk_put c1.out 0 _ rfl) 1 _ rfl) 2 _ rfl) _) Try.underlying36 rfl (by kernel_rfl)) rfl ?_
  exact ⟨rfl, below_alloc (below_set (below_set (below_set hB2.out (by omega)) (by omega)) (by omega)) _⟩

theorem cell_Kid.calls (a0_0 : Int) (a0_1 : Int) (a0_2 : Int) (a1 : Int) (r1 : Int) (r2 : Int) (r3 : Int) (w : World) (h : cell_Kid.f a0_0 a0_1 a0_2 a1 = some (r1, r2, r3)) :
    Calls Try.prog 36 #[.agg #[.int .u32 a0_0, .int .u32 a0_1, .int .i64 a0_2], .int .i64 a1] w fun e w' => e = .returned (.agg #[.int .u32 r1, .int .u32 r2, .int .i64 r3]) ∧ Below w.heap.size w w' := by
  unfold cell_Kid.f at h
  obtain ⟨⟨t225, t226, t227⟩, A3, h⟩ := Option.bind_eq_some_iff.mp h
  by_cases c4 : t227 = 32
  · rw [if_pos c4] at h
    simp only [Option.some.injEq, Prod.mk.injEq] at h
    obtain ⟨rfl, rfl, rfl⟩ := h
    exact cell_Kid.leaf0 a0_0 a0_1 a0_2 a1 t225 t226 t227 w ⟨A3⟩ (beq_iff_eq.mpr c4)
  · rw [if_neg c4] at h
    obtain ⟨t228, A12, h⟩ := Option.bind_eq_some_iff.mp h
    have c4b := beq_eq_false_iff_ne.mpr c4
    by_cases c13 : (Go.bits .and .i64 a1 1) = 1
    · rw [if_pos c13] at h
      by_cases c14 : (Go.bits .and .i64 a1 2) = 2
      · rw [if_pos c14] at h
        simp only [Option.some.injEq, Prod.mk.injEq] at h
        obtain ⟨rfl, rfl, rfl⟩ := h
        exact cell_Kid.leaf1 a0_0 a0_1 a0_2 a1 t225 t226 t227 t228 w ⟨A3⟩ c4b ⟨A12⟩ (beq_iff_eq.mpr c13) (beq_iff_eq.mpr c14)
      · rw [if_neg c14] at h
        simp only [Option.some.injEq, Prod.mk.injEq] at h
        obtain ⟨rfl, rfl, rfl⟩ := h
        exact cell_Kid.leaf2 a0_0 a0_1 a0_2 a1 t225 t226 t227 t228 w ⟨A3⟩ c4b ⟨A12⟩ (beq_iff_eq.mpr c13) (beq_eq_false_iff_ne.mpr c14)
    · rw [if_neg c13] at h
      by_cases c14 : (Go.bits .and .i64 a1 2) = 2
      · rw [if_pos c14] at h
        simp only [Option.some.injEq, Prod.mk.injEq] at h
        obtain ⟨rfl, rfl, rfl⟩ := h
        exact cell_Kid.leaf3 a0_0 a0_1 a0_2 a1 t225 t226 t227 t228 w ⟨A3⟩ c4b ⟨A12⟩ (beq_eq_false_iff_ne.mpr c13) (beq_iff_eq.mpr c14)
      · rw [if_neg c14] at h
        simp only [Option.some.injEq, Prod.mk.injEq] at h
        obtain ⟨rfl, rfl, rfl⟩ := h
        exact cell_Kid.leaf4 a0_0 a0_1 a0_2 a1 t225 t226 t227 t228 w ⟨A3⟩ c4b ⟨A12⟩ (beq_eq_false_iff_ne.mpr c13) (beq_eq_false_iff_ne.mpr c14)
end Go.Proofs.Ytjlkkipickeebaa.PQ
