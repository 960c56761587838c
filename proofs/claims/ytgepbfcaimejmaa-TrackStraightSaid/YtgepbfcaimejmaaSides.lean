/-
  The iterator over a polygon's sides (poly.sides and its closure), walked by hand: it hands out each corner with the next one, in order.
  Conditions: none but that the slice can be read.
-/
import Derived.RangeFuncNested
import Derived.RangeFuncBound
import Derived.RangeFuncCalls
import Derived.RangeFuncLeaves
import Derived.Shelf.Abstract
import Derived.Shelf.RegionOpen
import Derived.WalkKit
import Derived.OwnWalkIn
import Derived.TacticsInMore
import Derived.LoopNIn
import Derived.LoopIn
import Derived.Stop.RegionWithIn
import Derived.Test.YtgepbfcaimejmaaPAx0
namespace Go.Proofs.Ytgepbfcaimejmaa.PA
open Go.RowKit Go.Shelf Go.Proofs.YtgepbfcaimejmaaW.PrintWords Go.Proofs.YtgepbfcaimejmaaW.PrintLast Go.Proofs.YtgepbfcaimejmaaW.PrintMore
attribute [local go_sem] Oper.semAt_some
set_option linter.unusedVariables false
set_option linter.unusedSimpArgs false

/-- A point as a value. -/
abbrev pv (p : S24) : Value := .agg #[.int .i64 p.f0, .int .u32 p.f1, .int .u32 p.f2, .string p.f3]
/-- Corner k, and the next one. -/
def sdAt (l : List S24) (k : Nat) : S24 × S24 := (l.getD k z24, l.getD ((k + 1) % l.length) z24)
/-- What is handed out, told by its number. -/
def en (l : List S24) (j : Nat) : Array Value := #[pv (sdAt l (j % l.length)).1, pv (sdAt l (j % l.length)).2]
/-- What a round keeps: what lay below n₀, and the slice's own variable. -/
def Kp (n₀ Bs : Nat) (A B : World) : Prop := Below n₀ A B ∧ B.heap[Bs]? = A.heap[Bs]?
theorem Kp.refl (n₀ Bs : Nat) (A : World) : Kp n₀ Bs A A := ⟨Below.refl _ _, rfl⟩
theorem Kp.trans {n₀ Bs : Nat} {A B C : World} (h : Kp n₀ Bs A B) (k : Kp n₀ Bs B C) : Kp n₀ Bs A C := ⟨h.1.trans k.1, k.2.trans h.2⟩

set_option maxRecDepth 100000 in
set_option maxHeartbeats 4000000 in
theorem sides1_in (n : Nat) (hn : 1 ≤ n) (lp Bs : Nat) (A : Option Addr) (c : Nat) (l : List S24) (we : World) (hr : Kd.C k24 we A l.length l)
    (J Jx : List Nat → World → Prop)
    (hY : ∀ pre x W, J pre W → pre.length < l.length → YieldAt Fence.wide (n - 1) Try.prog lp (en l x) W fun e W' =>
      (e = .returned (.bool true) ∧ J (pre ++ [x]) W' ∧ Kp we.heap.size Bs W W') ∨ (e = .returned (.bool false) ∧ Jx (pre ++ [x]) W'))
    (W : World) (hJ : AbidesFrom W.heap.size J) (hB : Below we.heap.size we W) (hBs : W.heap[Bs]? = some (.cells #[.slice A l.length c] 27 (0, 0))) (h0 : J [] W) :
    CallsIn Fence.wide n Try.prog 61 #[.func (.yield lp) #[] #[], .pointer (some ⟨Bs, 0, none⟩)] W fun e W' => (∃ v, e = .returned v) ∧
      ((∃ ys, ys = List.range l.length ∧ J ys W') ∨ (∃ pre, (∃ k, k ≤ l.length ∧ pre = List.range k) ∧ Jx pre W')) := by
  have hu24 := Try.underlying24
  have hmax : l.length ≤ 9223372036854775807 := hr.2.1
  refine callsIn_of_wp Try.func61 rfl trivial ?_ rfl
  simp only [Try.ntmps61, List.size_toArray, List.length_cons, List.length_nil, Nat.reduceAdd, Nat.reduceSub, Array.replicate_succ, Array.replicate_zero, List.push_toArray, List.append_toArray, List.nil_append, List.cons_append]
  have hc0 : W.cell? ⟨Bs, 0, none⟩ = some (.slice A l.length c) := (blk_cell hBs 0).trans rfl
  gi_wp2
  clear hc0
  gi_loopw [7] (fun i wr => ∃ k : Nat, k ≤ l.length ∧ i = .int .i64 k ∧ J (List.range k) wr ∧ Below we.heap.size we wr ∧ wr.heap[Bs]? = some (.cells #[.slice A l.length c] 27 (0, 0)))
    (fun i _ => l.length - (intOf i).toNat)
  case atStart => exact ⟨0, Nat.zero_le _, rfl, h0, hB, hBs⟩
  case round =>
    obtain ⟨k, hk, rfl, hJs, hBw, hBx⟩ := hrel
    by_cases hlt : k < l.length
    · obtain ⟨ad, e, hx0, hx1, hx2, hx3⟩ := at_T24 hr (k : Int) (by omega) (by omega)
      cases e
      obtain ⟨ad', e', hy0, hy1, hy2, hy3⟩ := at_T24 hr (((k + 1) % l.length : Nat) : Int) (by omega) (by have := Nat.mod_lt (k + 1) (show 0 < l.length by omega); omega)
      cases e'
      replace hx0 := (hBw.cell (World.block_lt_of_cell? we _ hx0)).trans hx0
      replace hx1 := (hBw.cell (World.block_lt_of_cell? we _ hx1)).trans hx1
      replace hx2 := (hBw.cell (World.block_lt_of_cell? we _ hx2)).trans hx2
      replace hx3 := (hBw.cell (World.block_lt_of_cell? we _ hx3)).trans hx3
      replace hy0 := (hBw.cell (World.block_lt_of_cell? we _ hy0)).trans hy0
      replace hy1 := (hBw.cell (World.block_lt_of_cell? we _ hy1)).trans hy1
      replace hy2 := (hBw.cell (World.block_lt_of_cell? we _ hy2)).trans hy2
      replace hy3 := (hBw.cell (World.block_lt_of_cell? we _ hy3)).trans hy3
      simp only [Int.toNat_natCast] at hx0 hx1 hx2 hx3 hy0 hy1 hy2 hy3
      generalize hp : rd_T24 l (k : Int) = p at *
      generalize hq : rd_T24 l (((k + 1) % l.length : Nat) : Int) = q at *
      have hpq : sdAt l k = (p, q) := by rw [← hp, ← hq]; rfl
      have hbx : wr.cell? ⟨Bs, 0, none⟩ = some (.slice (some ad) l.length c) := (blk_cell hBx 0).trans rfl
      have HP := Aside0.mk hp
      have HQ := Aside0.mk hq
      have HPQ := Aside0.mk hpq
      have hk0 : (0 : Int) ≤ (k : Int) := by omega
      clear hp hq hpq hBs hB
      gi_wp2
      have hJ2 : J (List.range k) (wr.alloc (.cells #[.int .i64 p.f0, .int .u32 p.f1, .int .u32 p.f2, .string p.f3] 24)).drew :=
        hJ _ _ _ none (hJ _ _ _ none hJs (World.grownBy_alloc wr _ none) (fun r e => by cases e)) ⟨rfl, rfl, rfl, Nat.le_refl _, fun _ _ _ => rfl⟩ (fun r e => by cases e)
      have hB2 : Below we.heap.size we (wr.alloc (.cells #[.int .i64 p.f0, .int .u32 p.f1, .int .u32 p.f2, .string p.f3] 24)).drew := below_drew1 (hBw.alloc hBw.size _)
      have hbk2 : (wr.alloc (.cells #[.int .i64 p.f0, .int .u32 p.f1, .int .u32 p.f2, .string p.f3] 24)).drew.heap[Bs]? = some (.cells #[.slice (some ad) l.length c] 27 (0, 0)) := blk_alloc hBx _
      have hel2 : (wr.alloc (.cells #[.int .i64 p.f0, .int .u32 p.f1, .int .u32 p.f2, .string p.f3] 24)).drew.heap[wr.heap.size]? = some (.cells #[.int .i64 p.f0, .int .u32 p.f1, .int .u32 p.f2, .string p.f3] 24 (0, 0)) := blk_new wr _
      have hy0' := (World.cell?_alloc_lt wr (.cells #[.int .i64 p.f0, .int .u32 p.f1, .int .u32 p.f2, .string p.f3] 24) _ (World.block_lt_of_cell? wr _ hy0)).trans hy0
      have hy1' := (World.cell?_alloc_lt wr (.cells #[.int .i64 p.f0, .int .u32 p.f1, .int .u32 p.f2, .string p.f3] 24) _ (World.block_lt_of_cell? wr _ hy1)).trans hy1
      have hy2' := (World.cell?_alloc_lt wr (.cells #[.int .i64 p.f0, .int .u32 p.f1, .int .u32 p.f2, .string p.f3] 24) _ (World.block_lt_of_cell? wr _ hy2)).trans hy2
      have hy3' := (World.cell?_alloc_lt wr (.cells #[.int .i64 p.f0, .int .u32 p.f1, .int .u32 p.f2, .string p.f3] 24) _ (World.block_lt_of_cell? wr _ hy3)).trans hy3
      generalize hW2 : wr.alloc (.cells #[.int .i64 p.f0, .int .u32 p.f1, .int .u32 p.f2, .string p.f3] 24) = W2 at *
      clear hW2 hx0 hx1 hx2 hx3 hy0 hy1 hy2 hy3
      obtain ⟨fn, tmps, assign, body, hyy, hR⟩ := hY _ k W2.drew hJ2 (by rw [List.length_range]; exact hlt)
      rw [show en l k = #[pv p, pv q] from by unfold en; rw [Nat.mod_eq_of_lt hlt, HPQ.out]] at hyy
      have hbx2 : W2.cell? ⟨Bs, 0, none⟩ = some (.slice (some ad) l.length c) := (blk_cell (w := W2) hbk2 0).trans rfl
      have hz0 : W2.cell? ⟨wr.heap.size, 0, none⟩ = some (.int .i64 p.f0) := (blk_cell (w := W2) hel2 0).trans rfl
      have hz1 : W2.cell? ⟨wr.heap.size, 1, none⟩ = some (.int .u32 p.f1) := (blk_cell (w := W2) hel2 1).trans rfl
      have hz2 : W2.cell? ⟨wr.heap.size, 2, none⟩ = some (.int .u32 p.f2) := (blk_cell (w := W2) hel2 2).trans rfl
      have hz3 : W2.cell? ⟨wr.heap.size, 3, none⟩ = some (.string p.f3) := (blk_cell (w := W2) hel2 3).trans rfl
      have HBK := Aside0.mk hbk2
      have HEL := Aside0.mk hel2
      have HB2 := Aside0.mk hB2
      clear hbk2 hel2 hB2 hbx hBx hJs hJ2
      have hR' := hR.mono (R' := fun e W' => ∃ b : Bool, e = .returned (.bool b) ∧ (if b then J (List.range k ++ [k]) W' ∧ Kp we.heap.size Bs W2.drew W' else Jx (List.range k ++ [k]) W'))
        (by rintro e W' (⟨rfl, h1, h2⟩ | ⟨rfl, h1⟩)
            · exact ⟨true, rfl, h1, h2⟩
            · exact ⟨false, rfl, h1⟩)
      clear hR
      have hnil : ¬ (l = []) := by rintro rfl; simp at hlt
      have hd0 : ((l.length : Int) == 0) = false := by rw [beq_eq_false_iff_ne]; omega
      have ht : Int.tmod ((k : Int) + 1) (l.length : Int) = ((k : Int) + 1) % (l.length : Int) := Int.tmod_eq_emod_of_nonneg (by omega)
      have hm0 : (0 : Int) ≤ ((k : Int) + 1) % (l.length : Int) := Int.emod_nonneg _ (by omega)
      have hm1 : ((k : Int) + 1) % (l.length : Int) < (l.length : Int) := Int.emod_lt_of_pos _ (by omega)
      have hm2 : (((k : Int) + 1) % (l.length : Int)).toNat = (k + 1) % l.length := by
        have : ((k : Int) + 1) % (l.length : Int) = (((k + 1) % l.length : Nat) : Int) := by simp
        rw [this, Int.toNat_natCast]
      have hw1 : IntKind.i64.wrap ((k : Int) + 1) = (k : Int) + 1 := by rw [i64_w]; unfold wrap64; omega
      have hw3 : IntKind.i64.wrap (((k : Int) + 1) % (l.length : Int)) = ((k : Int) + 1) % (l.length : Int) := by rw [i64_w]; unfold wrap64; omega
      gi_region_with (first | (refine hR'.mono ?_; rintro e W3 ⟨b, rfl, hb3⟩))
      all_goals clear hw1 hw3 ht hm0 hm1 hm2 hyy hz0 hz1 hz2 hz3 hbx2 hy0' hy1' hy2' hy3' hd0 hnil
      all_goals (cases b with
        | true =>
          obtain ⟨hJ3, hK3⟩ : J (List.range k ++ [k]) W3 ∧ Kp we.heap.size Bs W2.drew W3 := hb3
          gi_wp2
          go_roundw
          case rel => exact ⟨k + 1, by omega, by simp, by rw [List.range_succ]; exact hJ3, HB2.out.trans hK3.1, hK3.2.trans HBK.out⟩
          case measure => simp [intOf]; omega
        | false =>
          have hJ3 : Jx (List.range k ++ [k]) W3 := hb3
          clear hb3
          gi_wp2
          refine bodyPost_ret (results_none rfl _ _ _) rfl ?_
          exact ⟨⟨_, rfl⟩, .inr ⟨_, ⟨k + 1, by omega, by rw [List.range_succ]⟩, hJ3⟩⟩)
    · obtain rfl : k = l.length := by omega
      gi_wp2
      go_end0
      exact ⟨⟨_, rfl⟩, .inl ⟨_, rfl, hJs⟩⟩

set_option maxRecDepth 100000 in
theorem sides_stops (n : Nat) (hn : 1 ≤ n) (Bs : Nat) (A : Option Addr) (c : Nat) (l : List S24) (we w : World) (hr : Kd.C k24 we A l.length l) (hB : Below we.heap.size we w)
    (hBs : w.heap[Bs]? = some (.cells #[.slice A l.length c] 27 (0, 0))) :
    SeqStopsK Fence.wide n Try.prog 61 #[.pointer (some ⟨Bs, 0, none⟩)] (en l) (Kp we.heap.size Bs) (fun ys => ys = List.range l.length) (fun pre => ∃ k, k ≤ l.length ∧ pre = List.range k) l.length w := fun lp J Jx W hW hJ _ hY h0 =>
  sides1_in n hn lp Bs A c l we hr J Jx hY W hJ (below_then hB hB.size ⟨hW.os, hW.tape, hW.output, hW.size, hW.block⟩) ((hW.block Bs (blk_lt hBs)).trans hBs) h0
/-- poly.sides: the slice is boxed; the function value holds the box. -/
theorem sides_in (n : Nat) (A : Option Addr) (m c : Nat) (w : World) :
    CallsIn Fence.wide n Try.prog 51 #[.slice A m c] w fun e w' => e = .returned (.func (.func 61) #[] #[.pointer (some ⟨w.heap.size, 0, none⟩)]) ∧ w' = w.alloc (.cells #[.slice A m c] 27) := by
  refine callsIn_of_wp Try.func51 rfl trivial ?_ rfl
  simp only [Try.ntmps51, List.size_toArray, List.length_cons, List.length_nil, Nat.reduceAdd, Nat.reduceSub, Array.replicate_succ, Array.replicate_zero, List.push_toArray, List.append_toArray, List.nil_append, List.cons_append]
  gi_wp2
  go_ret
  exact ⟨rfl, rfl⟩
end Go.Proofs.Ytgepbfcaimejmaa.PA
