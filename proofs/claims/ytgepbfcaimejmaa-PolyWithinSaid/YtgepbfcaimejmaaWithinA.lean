/-
  poly.Within, walked by hand over the iterator's contract and poly.On's.
  Conditions: On answers, and each side's test answers (else the plain function answers none, and nothing is said).
-/
import Derived.Test.YtgepbfcaimejmaaOnA
import Derived.Test.YtgepbfcaimejmaaPAx9
namespace Go.Proofs.Ytgepbfcaimejmaa.PA
open Go.RowKit Go.Shelf Go.Proofs.YtgepbfcaimejmaaW.PrintWords Go.Proofs.YtgepbfcaimejmaaW.PrintLast Go.Proofs.YtgepbfcaimejmaaW.PrintMore
attribute [local go_sem] Oper.semAt_some
set_option linter.unusedVariables false
set_option linter.unusedSimpArgs false

/-- Does the way to the right of a place cross the side from p to q? -/
def crossPQ (k : Nat) (p q : S24) (x y : Int) : Option Bool :=
  if p.f2 ≤ y ∧ y < q.f2 then (poly_Turn.f k p.f0 p.f1 p.f2 p.f3 q.f0 q.f1 q.f2 q.f3 0 x y ⟨#[]⟩).bind fun t => some (decide (0 < t)) else some false
def crossUp (k : Nat) (p q : S24) (x y : Int) : Option Bool := if q.f2 < p.f2 then crossPQ k q p x y else crossPQ k p q x y
def crossAt (k : Nat) (l : List S24) (x y : Int) (j : Nat) : Option Bool := crossUp k (sdAt l (j % l.length)).1 (sdAt l (j % l.length)).2 x y
def par (k : Nat) (l : List S24) (x y : Int) (pre : List Nat) : Bool := pre.foldl (fun o j => if crossAt k l x y j = some true then !o else o) false
theorem crossPQ_mono (k : Nat) (p q : S24) (x y : Int) : LeO (crossPQ k p q x y) (crossPQ (k + 1) p q x y) := by
  unfold crossPQ
  split
  · exact LeO.bind (poly_Turn.mono _ _ _ _ _ _ _ _ _ _ _ _ k) (fun _ => LeO.refl _)
  · exact LeO.refl _
theorem crossAt_mono (k : Nat) (l : List S24) (x y : Int) (j : Nat) : LeO (crossAt k l x y j) (crossAt (k + 1) l x y j) := by
  unfold crossAt crossUp
  split
  · exact crossPQ_mono _ _ _ _ _
  · exact crossPQ_mono _ _ _ _ _
theorem crossAt_mod (k : Nat) (l : List S24) (x y : Int) (j : Nat) : crossAt k l x y (j % l.length) = crossAt k l x y j := by unfold crossAt; rw [Nat.mod_mod]
theorem par_eq (k k' : Nat) (l : List S24) (x y : Int) : ∀ (pre : List Nat) (o : Bool), (∀ j ∈ pre, crossAt k' l x y j = crossAt k l x y j) →
    pre.foldl (fun o j => if crossAt k' l x y j = some true then !o else o) o = pre.foldl (fun o j => if crossAt k l x y j = some true then !o else o) o := by
  intro pre
  induction pre with
  | nil => intro o _; rfl
  | cons j pre ih =>
    intro o hp
    rw [List.foldl_cons, List.foldl_cons, hp j (by simp)]
    exact ih _ (fun j' hj' => hp j' (by simp [hj']))
def restW (k : Nat) (l : List S24) (x y : Int) : Option Bool := if ∀ j, j < l.length → (crossAt k l x y j).isSome = true then some (par k l x y (List.range l.length)) else none
theorem restW_mono (k : Nat) (l : List S24) (x y : Int) : LeO (restW k l x y) (restW (k + 1) l x y) := by
  intro r h
  unfold restW at h ⊢
  by_cases hs : ∀ j, j < l.length → (crossAt k l x y j).isSome = true
  · rw [if_pos hs] at h
    have same : ∀ j, j < l.length → crossAt (k + 1) l x y j = crossAt k l x y j := by
      intro j hj
      obtain ⟨b, hb⟩ := Option.isSome_iff_exists.1 (hs j hj)
      rw [hb]
      exact crossAt_mono k l x y j b hb
    have hs' : ∀ j, j < l.length → (crossAt (k + 1) l x y j).isSome = true := fun j hj => by rw [same j hj]; exact hs j hj
    have e : par (k + 1) l x y (List.range l.length) = par k l x y (List.range l.length) := by
      unfold par
      exact par_eq k (k + 1) l x y _ _ (fun j hj => same j (List.mem_range.1 hj))
    rw [if_pos hs', e]
    exact h
  · rw [if_neg hs] at h
    cases h
def poly_Within.f (k : Nat) (l0 : List S24) (a1 : Int) (a2 : Int) : Option Bool :=
  (poly_On.f k l0 a1 a2).bind fun t => match t with | true => some true | false => restW k l0 a1 a2
theorem poly_Within.mono : ∀ a0 a1 a2 k, LeO (poly_Within.f k a0 a1 a2) (poly_Within.f (k + 1) a0 a1 a2) := by
  intro l x y k
  unfold poly_Within.f
  refine LeO.bind (poly_On.mono l x y k) (fun t => ?_)
  cases t
  · exact restW_mono k l x y
  · exact LeO.refl _
theorem par_append (k : Nat) (l : List S24) (x y : Int) (pre : List Nat) (j : Nat) : par k l x y (pre ++ [j]) = if crossAt k l x y j = some true then !par k l x y pre else par k l x y pre := by
  unfold par
  rw [List.foldl_append]
  rfl

theorem kf_set {B : Nat} {W W' : World} (h : KeepsFrom B W W') (a : Addr) (v : Value) : KeepsFrom B W (W'.setCell a v) := h.trans ((KeepsOthers.setCell _ _ _).from _)
theorem kp_set {n₀ Bs : Nat} {W W' : World} (h : Kp n₀ Bs W W') (a : Addr) (v : Value) (h0 : n₀ ≤ a.block) (hb : Bs ≠ a.block) : Kp n₀ Bs W (W'.setCell a v) := ⟨h.1.setCell h0 v, (Below.heap_setCell W' a v Bs hb).trans h.2⟩
/-- The found case: it is on a side. -/
theorem within_on (n : Nat) (hn : 4 ≤ n) (k : Nat) (A : Option Addr) (c : Nat) (l : List S24) (x y : Int) (w : World) (hr : Kd.C k24 w A l.length l) (hc : l.length ≤ c) (ht : poly_On.f k l x y = some true) :
    CallsIn Fence.wide n Try.prog 29 #[.slice A l.length c, .int .u32 x, .int .u32 y] w fun e w' => e = .returned (.bool true) ∧ Below w.heap.size w w' := by
  have h1 : 1 ≤ n := by omega
  have hu24 := Try.underlying24
  have Hr := Aside0.mk hr
  have Hc := Aside0.mk hc
  have Ht := Aside0.mk ht
  clear hr hc ht
  refine callsIn_of_wp Try.func29 rfl trivial ?_ rfl
  simp only [Try.ntmps29, List.size_toArray, List.length_cons, List.length_nil, Nat.reduceAdd, Nat.reduceSub, Array.replicate_succ, Array.replicate_zero, List.push_toArray, List.append_toArray, List.nil_append, List.cons_append]
  have B0 := Aside0.mk (below_alloc (Below.refl w.heap.size w) (.cells #[.int .u32 y] 22))
  gi_wp2_with (refine ⟨trivial, ?_⟩; gi_at_call 28; refine (callsIn_wide.2 (poly_On.calls k A c l x y true _ (Kd.C_alloc Hr.out _) Hc.out Ht.out)).mono ?_; rintro e w' ⟨rfl, hb⟩)
  go_ret
  exact ⟨rfl, below_then B0.out B0.out.size hb⟩
set_option maxRecDepth 100000 in
set_option maxHeartbeats 1000000 in
/-- It is on no side: how often the way to the right crosses one. -/
theorem within_off (n : Nat) (hn : 4 ≤ n) (k : Nat) (A : Option Addr) (c : Nat) (l : List S24) (x y : Int) (w : World) (hr : Kd.C k24 w A l.length l) (hc : l.length ≤ c) (ht : poly_On.f k l x y = some false)
    (hs : ∀ j, j < l.length → (crossAt k l x y j).isSome = true) :
    CallsIn Fence.wide n Try.prog 29 #[.slice A l.length c, .int .u32 x, .int .u32 y] w fun e w' => e = .returned (.bool (par k l x y (List.range l.length))) ∧ Below w.heap.size w w' := by
  have h1 : 1 ≤ n := by omega
  have hu24 := Try.underlying24
  have Hr := Aside0.mk hr
  have Hc := Aside0.mk hc
  have Ht := Aside0.mk ht
  clear hc ht
  refine callsIn_of_wp_marks Try.func29 rfl trivial ?_ rfl
  simp only [Try.ntmps29, List.size_toArray, List.length_cons, List.length_nil, Nat.reduceAdd, Nat.reduceSub, Array.replicate_succ, Array.replicate_zero, List.push_toArray, List.append_toArray, List.nil_append, List.cons_append]
  have B0 := Aside0.mk (below_alloc (Below.refl w.heap.size w) (.cells #[.int .u32 y] 22))
  have Y0 := Aside0.mk (Boxed.new w 22 (.int .u32 y))
  gi_wp2_with (first | (refine ⟨trivial, ?_⟩; gi_at_call 28; refine (callsIn_wide.2 (poly_On.calls k A c l x y false _ (Kd.C_alloc Hr.out _) Hc.out Ht.out)).mono ?_; rintro e w1 ⟨rfl, hb⟩; have y0 : Boxed w1 w.heap.size 22 (.int .u32 y) := (hb.block _ Y0.out.lt).trans Y0.out; have yc := y0.cell; have yd := (y0.alloc (.cells #[.bool false] 4)).cell; have Y1 := Aside0.mk y0; have HB1 := Aside0.mk (below_then B0.out B0.out.size hb); clear y0 hb) | (refine ⟨trivial, ?_⟩; gi_at_call 51; refine (sides_in (n - 1) _ _ _ _).mono ?_; rintro e w' ⟨rfl, rfl⟩))
  have hlt1 : w.heap.size < w1.heap.size := Y1.out.lt
  have hge1 := HB1.out.size
  have b0 := ((Y1.out.alloc (.cells #[.bool false] 4)).alloc (.cells #[.int .i64 0, .int .u32 x, .int .u32 y, .string ⟨#[]⟩] 24)).alloc (.cells #[.slice A l.length c] 27)
  have b1 := ((Boxed.new w1 4 (.bool false)).alloc (.cells #[.int .i64 0, .int .u32 x, .int .u32 y, .string ⟨#[]⟩] 24)).alloc (.cells #[.slice A l.length c] 27)
  have b2 := blk_alloc (blk_new (w1.alloc (.cells #[.bool false] 4)) (.cells #[.int .i64 0, .int .u32 x, .int .u32 y, .string ⟨#[]⟩] 24)) (.cells #[.slice A l.length c] 27)
  have b3 := Boxed.new ((w1.alloc (.cells #[.bool false] 4)).alloc (.cells #[.int .i64 0, .int .u32 x, .int .u32 y, .string ⟨#[]⟩] 24)) 27 (.slice A l.length c)
  simp only [World.size_alloc] at b1 b2 b3
  have hB0 : Below w.heap.size w (((w1.alloc (.cells #[.bool false] 4)).alloc (.cells #[.int .i64 0, .int .u32 x, .int .u32 y, .string ⟨#[]⟩] 24)).alloc (.cells #[.slice A l.length c] 27)) :=
    below_alloc (below_alloc (below_alloc HB1.out _) _) _
  have hsz : (((w1.alloc (.cells #[.bool false] 4)).alloc (.cells #[.int .i64 0, .int .u32 x, .int .u32 y, .string ⟨#[]⟩] 24)).alloc (.cells #[.slice A l.length c] 27)).heap.size = w1.heap.size + 3 := by simp
  obtain ⟨W0, hW0⟩ : ∃ W0, ((w1.alloc (.cells #[.bool false] 4)).alloc (.cells #[.int .i64 0, .int .u32 x, .int .u32 y, .string ⟨#[]⟩] 24)).alloc (.cells #[.slice A l.length c] 27) = W0 := ⟨_, rfl⟩
  rw [hW0] at b0 b1 b2 b3 hB0 hsz ⊢
  clear hW0 yc yd
  refine wpIn_rangeFunc_ownH rfl h1 (gf := 61) (lb := #[.pointer (some ⟨w1.heap.size + 1 + 1, 0, none⟩)]) rfl trivial (enters_of Try.func61 (by kernel_rfl) rfl)
    (sides_stops (n - 1) (by omega) (w1.heap.size + 1 + 1) A c l w W0 hr hB0 b3) (fun h h' => h.trans h') (Kp_putObj (by omega) (by omega)) (Below.refl _ _) (fun _ => rfl)
    (fun pre W => (((Boxed W w.heap.size 22 (.int .u32 y) ∧ Boxed W w1.heap.size 4 (.bool (par k l x y pre))) ∧ W.heap[w1.heap.size + 1]? = some (.cells #[.int .i64 0, .int .u32 x, .int .u32 y, .string ⟨#[]⟩] 24 (0, 0))) ∧ W0.heap.size ≤ W.heap.size) ∧ Below w.heap.size w W)
    (fun cx pre W => False)
    (OwnFrom.and (OwnFrom.and (OwnFrom.and (OwnFrom.and (Own.from (boxed_own _ _ _) _) (Own.from (boxed_own _ _ _) _)) (Own.from (cells_own _ _ _) _)) (fun _ X Y row hs hg _ => Nat.le_trans hs hg.size)) (ownFrom_below (Nat.le_refl _) (by omega)))
    (fun cx => fun _ X Y row hs hg _ => hs.elim)
    ⟨⟨⟨⟨b0, b1⟩, b2⟩, Nat.le_refl _⟩, hB0⟩
    (fun j a' W => ∃ B7, (B7 + 1 < W.heap.size ∧ W0.heap.size ≤ B7) ∧ (W.heap[B7]? = some (.cells #[.int .i64 (sdAt l (j % l.length)).1.f0, .int .u32 (sdAt l (j % l.length)).1.f1, .int .u32 (sdAt l (j % l.length)).1.f2, .string (sdAt l (j % l.length)).1.f3] 24 (0, 0)) ∧
        W.heap[B7 + 1]? = some (.cells #[.int .i64 (sdAt l (j % l.length)).2.f0, .int .u32 (sdAt l (j % l.length)).2.f1, .int .u32 (sdAt l (j % l.length)).2.f2, .string (sdAt l (j % l.length)).2.f3] 24 (0, 0))) ∧
      a' = { tmps := #[.slice A l.length c, .int .u32 x, .int .u32 y, undef, undef, .pointer (some ⟨w.heap.size, 0, none⟩), .bool false, .pointer (some ⟨w1.heap.size, 0, none⟩), .pointer (some ⟨w1.heap.size + 1, 0, none⟩),
        .pointer (some ⟨B7, 0, none⟩), .pointer (some ⟨B7 + 1, 0, none⟩), .slice A l.length c, .int .u32 x, .int .u32 y, .bool false, .int .u32 x, .int .u32 y, .agg #[.int .i64 0, .int .u32 x, .int .u32 y, .string ⟨#[]⟩], .slice A l.length c,
        .func (.func 61) #[] #[.pointer (some ⟨w1.heap.size + 1 + 1, 0, none⟩)], pv (sdAt l (j % l.length)).1, pv (sdAt l (j % l.length)).2, undef, undef, undef, undef, undef, undef, undef, undef, undef, undef, undef, undef, undef, undef, undef, undef, undef, undef, undef, undef, undef, undef, undef, undef, undef, undef, undef], defers := [] })
    (fun j a' _ X Y row hs hg hrow => by
      obtain ⟨B7, ⟨hb7, hb0⟩, ⟨h7, h8⟩, rfl⟩ := hs
      exact ⟨B7, ⟨Nat.lt_of_lt_of_le hb7 hg.size, hb0⟩, ⟨cells_own B7 24 _ () X Y row h7 hg (fun r e => (hrow r e).2), cells_own (B7 + 1) 24 _ () X Y row h8 hg (fun r e => (hrow r e).2)⟩, rfl⟩)
    ?assign ?body ?done ?stop
  case assign =>
    rintro lp pre j W K ⟨⟨⟨⟨c0, c1⟩, c2⟩, hge⟩, hB1⟩ hK
    simp only [en]
    gi_wp2
    have hb : Below W.heap.size W ((W.alloc (.cells #[.int .i64 (sdAt l (j % l.length)).1.f0, .int .u32 (sdAt l (j % l.length)).1.f1, .int .u32 (sdAt l (j % l.length)).1.f2, .string (sdAt l (j % l.length)).1.f3] 24)).alloc (.cells #[.int .i64 (sdAt l (j % l.length)).2.f0, .int .u32 (sdAt l (j % l.length)).2.f1, .int .u32 (sdAt l (j % l.length)).2.f2, .string (sdAt l (j % l.length)).2.f3] 24)) := below_alloc (below_alloc (Below.refl _ _) _) _
    refine hK _ _ (keepsFrom_below hb _) (kp_below hb hB1.size (by omega)) ⟨⟨⟨⟨(c0.alloc _).alloc _, (c1.alloc _).alloc _⟩, blk_alloc (blk_alloc c2 _) _⟩, by simp; omega⟩, below_then hB1 hB1.size hb⟩ ⟨W.heap.size, ⟨by simp, hge⟩, ⟨blk_alloc (blk_new W _) _, ?_⟩, rfl⟩
    have z := blk_new (W.alloc (.cells #[.int .i64 (sdAt l (j % l.length)).1.f0, .int .u32 (sdAt l (j % l.length)).1.f1, .int .u32 (sdAt l (j % l.length)).1.f2, .string (sdAt l (j % l.length)).1.f3] 24)) (.cells #[.int .i64 (sdAt l (j % l.length)).2.f0, .int .u32 (sdAt l (j % l.length)).2.f1, .int .u32 (sdAt l (j % l.length)).2.f2, .string (sdAt l (j % l.length)).2.f3] 24)
    rwa [World.size_alloc] at z
  case body =>
    rintro lp pre j a' W hl ⟨r, hr'⟩ ⟨⟨⟨⟨c0, c1⟩, c2⟩, hge⟩, hB1⟩ ⟨B7, ⟨hb7, hb0⟩, ⟨h7, h8⟩, rfl⟩ hlt
    have hmod := crossAt_mod k l x y j
    obtain ⟨t, ht⟩ := Option.isSome_iff_exists.1 (hs (j % l.length) (Nat.mod_lt _ (by omega)))
    rw [hmod] at ht
    have he := par_append k l x y pre j
    rw [ht] at he
    unfold crossAt crossUp crossPQ at ht
    clear hmod hs hr hr'
    generalize (sdAt l (j % l.length)).1 = p at *
    generalize (sdAt l (j % l.length)).2 = q at *
    generalize par k l x y pre = o at *
    have hx := c0.cell
    have ho := c1.cell
    have hof := c1.frozen
    have p0 : W.cell? ⟨B7, 0, none⟩ = some (.int .i64 p.f0) := (blk_cell h7 0).trans rfl
    have fp0 := blk_frozen h7 0
    have p1 : W.cell? ⟨B7, 1, none⟩ = some (.int .u32 p.f1) := (blk_cell h7 1).trans rfl
    have fp1 := blk_frozen h7 1
    have p2 : W.cell? ⟨B7, 2, none⟩ = some (.int .u32 p.f2) := (blk_cell h7 2).trans rfl
    have fp2 := blk_frozen h7 2
    have p3 : W.cell? ⟨B7, 3, none⟩ = some (.string p.f3) := (blk_cell h7 3).trans rfl
    have fp3 := blk_frozen h7 3
    have q0 : W.cell? ⟨B7 + 1, 0, none⟩ = some (.int .i64 q.f0) := (blk_cell h8 0).trans rfl
    have fq0 := blk_frozen h8 0
    have q1 : W.cell? ⟨B7 + 1, 1, none⟩ = some (.int .u32 q.f1) := (blk_cell h8 1).trans rfl
    have fq1 := blk_frozen h8 1
    have q2 : W.cell? ⟨B7 + 1, 2, none⟩ = some (.int .u32 q.f2) := (blk_cell h8 2).trans rfl
    have fq2 := blk_frozen h8 2
    have q3 : W.cell? ⟨B7 + 1, 3, none⟩ = some (.string q.f3) := (blk_cell h8 3).trans rfl
    have fq3 := blk_frozen h8 3
    have r0 : W.cell? ⟨w1.heap.size + 1, 0, none⟩ = some (.int .i64 0) := (blk_cell c2 0).trans rfl
    have r1 : W.cell? ⟨w1.heap.size + 1, 1, none⟩ = some (.int .u32 x) := (blk_cell c2 1).trans rfl
    have r2 : W.cell? ⟨w1.heap.size + 1, 2, none⟩ = some (.int .u32 y) := (blk_cell c2 2).trans rfl
    have r3 : W.cell? ⟨w1.heap.size + 1, 3, none⟩ = some (.string ⟨#[]⟩) := (blk_cell c2 3).trans rfl
    have n0 : w.heap.size ≠ w1.heap.size := by omega
    have n1 : w.heap.size ≠ w1.heap.size + 1 := by omega
    have n2 : w.heap.size ≠ B7 := by omega
    have n3 : w.heap.size ≠ B7 + 1 := by omega
    have n4 : w1.heap.size ≠ w.heap.size := by omega
    have n5 : w1.heap.size ≠ w1.heap.size + 1 := by omega
    have n6 : w1.heap.size ≠ B7 := by omega
    have n7 : w1.heap.size ≠ B7 + 1 := by omega
    have n8 : w1.heap.size + 1 ≠ w.heap.size := by omega
    have n9 : w1.heap.size + 1 ≠ w1.heap.size := by omega
    have n10 : w1.heap.size + 1 ≠ B7 := by omega
    have n11 : w1.heap.size + 1 ≠ B7 + 1 := by omega
    have n12 : B7 ≠ w.heap.size := by omega
    have n13 : B7 ≠ w1.heap.size := by omega
    have n14 : B7 ≠ w1.heap.size + 1 := by omega
    have n15 : B7 ≠ B7 + 1 := by omega
    have n16 : B7 + 1 ≠ w.heap.size := by omega
    have n17 : B7 + 1 ≠ w1.heap.size := by omega
    have n18 : B7 + 1 ≠ w1.heap.size + 1 := by omega
    have n19 : B7 + 1 ≠ B7 := by omega
    have C0 := Aside0.mk c0
    have C1 := Aside0.mk c1
    have C2 := Aside0.mk c2
    have Hb1 := Aside0.mk hB1
    have Hge := Aside0.mk hge
    have He := Aside0.mk he
    have Hsz := Aside0.mk hsz
    clear c0 c1 c2 hB1 hge he
    have h1' : 1 ≤ n - 1 - 1 := by omega
    by_cases hsw : q.f2 < p.f2
    · rw [if_pos hsw] at ht
      have hsw1 : decide (q.f2 < p.f2) = true := decide_eq_true hsw
      obtain ⟨WC, hWC⟩ : ∃ WC, ((((((((W.setCell ⟨B7, 0, none⟩ (.int .i64 q.f0)).setCell ⟨B7, 1, none⟩ (.int .u32 q.f1)).setCell ⟨B7, 2, none⟩ (.int .u32 q.f2)).setCell ⟨B7, 3, none⟩ (.string q.f3)).setCell ⟨B7 + 1, 0, none⟩ (.int .i64 p.f0)).setCell ⟨B7 + 1, 1, none⟩ (.int .u32 p.f1)).setCell ⟨B7 + 1, 2, none⟩ (.int .u32 p.f2)).setCell ⟨B7 + 1, 3, none⟩ (.string p.f3)) = WC := ⟨_, rfl⟩
      have c0_ : W.heap[w.heap.size]? = some (.cells #[.int .u32 y] 22 (0, 0)) := C0.out
      have c1_ : W.heap[w1.heap.size]? = some (.cells #[.bool o] 4 (0, 0)) := C1.out
      have c2_ := C2.out
      have m7 : w.heap.size ≤ B7 := by omega
      have m8 : w.heap.size ≤ B7 + 1 := by omega
      have s7 : w1.heap.size + 1 + 1 ≠ B7 := by omega
      have s8 : w1.heap.size + 1 + 1 ≠ B7 + 1 := by omega
      have CH0 : Aside0 (WC.heap[w.heap.size]? = some (.cells #[.int .u32 y] 22 (0, 0))) := ⟨by rw [← hWC]; exact (blk_far (blk_far (blk_far (blk_far (blk_far (blk_far (blk_far (blk_far c0_ n2 _) n2 _) n2 _) n2 _) n3 _) n3 _) n3 _) n3 _)⟩
      have CH1 : Aside0 (WC.heap[w1.heap.size]? = some (.cells #[.bool o] 4 (0, 0))) := ⟨by rw [← hWC]; exact (blk_far (blk_far (blk_far (blk_far (blk_far (blk_far (blk_far (blk_far c1_ n6 _) n6 _) n6 _) n6 _) n7 _) n7 _) n7 _) n7 _)⟩
      have CH2 : Aside0 (WC.heap[w1.heap.size + 1]? = some (.cells #[.int .i64 0, .int .u32 x, .int .u32 y, .string ⟨#[]⟩] 24 (0, 0))) := ⟨by rw [← hWC]; exact (blk_far (blk_far (blk_far (blk_far (blk_far (blk_far (blk_far (blk_far c2_ n10 _) n10 _) n10 _) n10 _) n11 _) n11 _) n11 _) n11 _)⟩
      have CHB : Aside0 (Below w.heap.size w WC) := ⟨by rw [← hWC]; (iterate 4 (refine Below.setCell ?_ m8 _)); (iterate 4 (refine Below.setCell ?_ m7 _)); exact Hb1.out⟩
      have CHS : Aside0 (WC.heap.size = W.heap.size) := ⟨by rw [← hWC]; simp only [World.size_setCell]⟩
      have KPC : Aside0 (Kp w.heap.size (w1.heap.size + 1 + 1) W WC) := ⟨by rw [← hWC]; (iterate 4 (refine kp_set ?_ _ _ m8 s8)); (iterate 4 (refine kp_set ?_ _ _ m7 s7)); exact kp_below (Below.refl _ _) Hb1.out.size (by omega)⟩
      have KFC : ∀ B, Aside0 (KeepsFrom B W WC) := fun B => ⟨by rw [← hWC]; (iterate 8 (refine kf_set ?_ _ _)); exact keepsFrom_below (Below.refl _ _) _⟩
      have e7 : WC.heap[B7]? = some (.cells #[.int .i64 q.f0, .int .u32 q.f1, .int .u32 q.f2, .string q.f3] 24 (0, 0)) := by rw [← hWC]; exact (blk_far (blk_far (blk_far (blk_far (blk_put (cs' := #[.int .i64 q.f0, .int .u32 q.f1, .int .u32 q.f2, .string q.f3]) (blk_put (cs' := #[.int .i64 q.f0, .int .u32 q.f1, .int .u32 q.f2, .string p.f3]) (blk_put (cs' := #[.int .i64 q.f0, .int .u32 q.f1, .int .u32 p.f2, .string p.f3]) (blk_put (cs' := #[.int .i64 q.f0, .int .u32 p.f1, .int .u32 p.f2, .string p.f3]) h7 0 (.int .i64 q.f0) rfl) 1 (.int .u32 q.f1) rfl) 2 (.int .u32 q.f2) rfl) 3 (.string q.f3) rfl) n15 _) n15 _) n15 _) n15 _)
      have e8 : WC.heap[B7 + 1]? = some (.cells #[.int .i64 p.f0, .int .u32 p.f1, .int .u32 p.f2, .string p.f3] 24 (0, 0)) := by rw [← hWC]; exact (blk_put (cs' := #[.int .i64 p.f0, .int .u32 p.f1, .int .u32 p.f2, .string p.f3]) (blk_put (cs' := #[.int .i64 p.f0, .int .u32 p.f1, .int .u32 p.f2, .string q.f3]) (blk_put (cs' := #[.int .i64 p.f0, .int .u32 p.f1, .int .u32 q.f2, .string q.f3]) (blk_put (cs' := #[.int .i64 p.f0, .int .u32 q.f1, .int .u32 q.f2, .string q.f3]) (blk_far (blk_far (blk_far (blk_far h8 n19 _) n19 _) n19 _) n19 _) 0 (.int .i64 p.f0) rfl) 1 (.int .u32 p.f1) rfl) 2 (.int .u32 p.f2) rfl) 3 (.string p.f3) rfl)
      have wq0 : WC.cell? ⟨B7, 0, none⟩ = some (.int .i64 q.f0) := (blk_cell e7 0).trans rfl
      have wq1 : WC.cell? ⟨B7, 1, none⟩ = some (.int .u32 q.f1) := (blk_cell e7 1).trans rfl
      have wq2 : WC.cell? ⟨B7, 2, none⟩ = some (.int .u32 q.f2) := (blk_cell e7 2).trans rfl
      have wq3 : WC.cell? ⟨B7, 3, none⟩ = some (.string q.f3) := (blk_cell e7 3).trans rfl
      have wp0 : WC.cell? ⟨B7 + 1, 0, none⟩ = some (.int .i64 p.f0) := (blk_cell e8 0).trans rfl
      have wp1 : WC.cell? ⟨B7 + 1, 1, none⟩ = some (.int .u32 p.f1) := (blk_cell e8 1).trans rfl
      have wp2 : WC.cell? ⟨B7 + 1, 2, none⟩ = some (.int .u32 p.f2) := (blk_cell e8 2).trans rfl
      have wp3 : WC.cell? ⟨B7 + 1, 3, none⟩ = some (.string p.f3) := (blk_cell e8 3).trans rfl
      have wr0 : WC.cell? ⟨w1.heap.size + 1, 0, none⟩ = some (.int .i64 0) := (blk_cell CH2.out 0).trans rfl
      have wr1 : WC.cell? ⟨w1.heap.size + 1, 1, none⟩ = some (.int .u32 x) := (blk_cell CH2.out 1).trans rfl
      have wr2 : WC.cell? ⟨w1.heap.size + 1, 2, none⟩ = some (.int .u32 y) := (blk_cell CH2.out 2).trans rfl
      have wr3 : WC.cell? ⟨w1.heap.size + 1, 3, none⟩ = some (.string ⟨#[]⟩) := (blk_cell CH2.out 3).trans rfl
      have wx : WC.cell? ⟨w.heap.size, 0, none⟩ = some (.int .u32 y) := (blk_cell CH0.out 0).trans rfl
      have wo : WC.cell? ⟨w1.heap.size, 0, none⟩ = some (.bool o) := (blk_cell CH1.out 0).trans rfl
      have wf := blk_frozen CH1.out 0
      clear c0_ c1_ c2_ m7 m8 s7 s8
      by_cases g1 : q.f2 ≤ y
      · have g1b : decide (q.f2 ≤ y) = true := decide_eq_true g1
        by_cases g2 : y < p.f2
        · have g2b : decide (y < p.f2) = true := decide_eq_true g2
          rw [if_pos ⟨g1, g2⟩] at ht
          obtain ⟨u, hu, hut⟩ := Option.bind_eq_some_iff.1 ht
          obtain rfl := Option.some.inj hut
          have Hu := Aside0.mk hu
          clear hu ht hut g1 g2 hsw
          by_cases g3 : 0 < u
          · have g3b : decide (0 < u) = true := decide_eq_true g3
            rw [g3b] at He
            gi_wp2_with (refine ⟨trivial, ?_⟩; gi_at_call 14; refine (CallsIn.inRound lp (callsIn_wide.2 (poly_Turn.calls k _ _ _ _ _ _ _ _ _ _ _ _ u _ Hu.out))).mono ?_; rintro e w' ⟨rfl, hb⟩; (try rw [hWC] at hb); have oc : Boxed w' w1.heap.size 4 (.bool o) := (hb.block _ (blk_lt CH1.out)).trans CH1.out; have oc1 := oc.cell; have oc2 := oc.frozen; have OC := Aside0.mk oc; clear oc)
            have hp : par k l x y (pre ++ [j]) = !o := by rw [He.out]; simp
            exact ⟨kf_set (((KFC _).out).trans (keepsFrom_below hb _)) _ _, (kp_set (Kp.trans KPC.out (kp_below hb (by have := CHB.out.size; omega) (by have := Hsz.out; have := Hge.out; have := CHS.out; omega))) _ _ (by show w.heap.size ≤ w1.heap.size; omega) (by show w1.heap.size + 1 + 1 ≠ w1.heap.size; omega)), ⟨⟨⟨(blk_far ((hb.block _ (blk_lt CH0.out)).trans CH0.out) (by show w.heap.size ≠ w1.heap.size; omega) _), (by show Boxed _ _ _ (.bool (par k l x y (pre ++ [j]))); rw [hp]; exact (OC.out.set _))⟩, (blk_far ((hb.block _ (blk_lt CH2.out)).trans CH2.out) (by show w1.heap.size + 1 ≠ w1.heap.size; omega) _)⟩, (by simp; exact (Nat.le_trans (by have := CHS.out; have := Hge.out; omega) hb.size))⟩, ((below_then CHB.out CHB.out.size hb).setCell (p := ⟨w1.heap.size, 0, none⟩) (by simp; omega) _)⟩
          · have g3b : decide (0 < u) = false := decide_eq_false g3
            rw [g3b] at He
            gi_wp2_with (refine ⟨trivial, ?_⟩; gi_at_call 14; refine (CallsIn.inRound lp (callsIn_wide.2 (poly_Turn.calls k _ _ _ _ _ _ _ _ _ _ _ _ u _ Hu.out))).mono ?_; rintro e w' ⟨rfl, hb⟩; (try rw [hWC] at hb); have oc : Boxed w' w1.heap.size 4 (.bool o) := (hb.block _ (blk_lt CH1.out)).trans CH1.out; have oc1 := oc.cell; have oc2 := oc.frozen; have OC := Aside0.mk oc; clear oc)
            have hp : par k l x y (pre ++ [j]) = o := by rw [He.out]; simp
            exact ⟨((KFC _).out).trans (keepsFrom_below hb _), (Kp.trans KPC.out (kp_below hb (by have := CHB.out.size; omega) (by have := Hsz.out; have := Hge.out; have := CHS.out; omega))), ⟨⟨⟨((hb.block _ (blk_lt CH0.out)).trans CH0.out), (by show Boxed _ _ _ (.bool (par k l x y (pre ++ [j]))); rw [hp]; exact OC.out)⟩, ((hb.block _ (blk_lt CH2.out)).trans CH2.out)⟩, (Nat.le_trans (by have := CHS.out; have := Hge.out; omega) hb.size)⟩, (below_then CHB.out CHB.out.size hb)⟩
        · have g2b : decide (y < p.f2) = false := decide_eq_false g2
          rw [if_neg (by omega)] at ht
          obtain rfl := Option.some.inj ht
          clear ht g1 g2 hsw
          gi_wp2_with (refine ⟨trivial, ?_⟩)
          have hp : par k l x y (pre ++ [j]) = o := by rw [He.out]; simp
          exact ⟨(KFC _).out, KPC.out, ⟨⟨⟨CH0.out, (by show Boxed _ _ _ (.bool (par k l x y (pre ++ [j]))); rw [hp]; exact CH1.out)⟩, CH2.out⟩, (by have := CHS.out; have := Hge.out; omega)⟩, CHB.out⟩
      · have g1b : decide (q.f2 ≤ y) = false := decide_eq_false g1
        rw [if_neg (by omega)] at ht
        obtain rfl := Option.some.inj ht
        clear ht g1 hsw
        gi_wp2_with (refine ⟨trivial, ?_⟩)
        have hp : par k l x y (pre ++ [j]) = o := by rw [He.out]; simp
        exact ⟨(KFC _).out, KPC.out, ⟨⟨⟨CH0.out, (by show Boxed _ _ _ (.bool (par k l x y (pre ++ [j]))); rw [hp]; exact CH1.out)⟩, CH2.out⟩, (by have := CHS.out; have := Hge.out; omega)⟩, CHB.out⟩
    · rw [if_neg hsw] at ht
      have hsw1 : decide (q.f2 < p.f2) = false := decide_eq_false hsw
      by_cases g1 : p.f2 ≤ y
      · have g1b : decide (p.f2 ≤ y) = true := decide_eq_true g1
        by_cases g2 : y < q.f2
        · have g2b : decide (y < q.f2) = true := decide_eq_true g2
          rw [if_pos ⟨g1, g2⟩] at ht
          obtain ⟨u, hu, hut⟩ := Option.bind_eq_some_iff.1 ht
          obtain rfl := Option.some.inj hut
          have Hu := Aside0.mk hu
          clear hu ht hut g1 g2 hsw
          by_cases g3 : 0 < u
          · have g3b : decide (0 < u) = true := decide_eq_true g3
            rw [g3b] at He
            gi_wp2_with (refine ⟨trivial, ?_⟩; gi_at_call 14; refine (CallsIn.inRound lp (callsIn_wide.2 (poly_Turn.calls k _ _ _ _ _ _ _ _ _ _ _ _ u _ Hu.out))).mono ?_; rintro e w' ⟨rfl, hb⟩; have oc : Boxed w' w1.heap.size 4 (.bool o) := (hb.block _ (blk_lt C1.out)).trans C1.out; have oc1 := oc.cell; have oc2 := oc.frozen; have OC := Aside0.mk oc; clear oc)
            have hp : par k l x y (pre ++ [j]) = !o := by rw [He.out]; simp
            exact ⟨kf_set ((keepsFrom_below (Below.refl _ _) _).trans (keepsFrom_below hb _)) _ _, (kp_set (Kp.trans (kp_below (Below.refl _ _) Hb1.out.size (by omega)) (kp_below hb (by have := Hb1.out.size; omega) (by have := Hsz.out; have := Hge.out; omega))) _ _ (by show w.heap.size ≤ w1.heap.size; omega) (by show w1.heap.size + 1 + 1 ≠ w1.heap.size; omega)), ⟨⟨⟨(blk_far ((hb.block _ (blk_lt C0.out)).trans C0.out) (by show w.heap.size ≠ w1.heap.size; omega) _), (by show Boxed _ _ _ (.bool (par k l x y (pre ++ [j]))); rw [hp]; exact (OC.out.set _))⟩, (blk_far ((hb.block _ (blk_lt C2.out)).trans C2.out) (by show w1.heap.size + 1 ≠ w1.heap.size; omega) _)⟩, (by simp; exact (Nat.le_trans Hge.out hb.size))⟩, ((below_then Hb1.out Hb1.out.size hb).setCell (p := ⟨w1.heap.size, 0, none⟩) (by simp; omega) _)⟩
          · have g3b : decide (0 < u) = false := decide_eq_false g3
            rw [g3b] at He
            gi_wp2_with (refine ⟨trivial, ?_⟩; gi_at_call 14; refine (CallsIn.inRound lp (callsIn_wide.2 (poly_Turn.calls k _ _ _ _ _ _ _ _ _ _ _ _ u _ Hu.out))).mono ?_; rintro e w' ⟨rfl, hb⟩; have oc : Boxed w' w1.heap.size 4 (.bool o) := (hb.block _ (blk_lt C1.out)).trans C1.out; have oc1 := oc.cell; have oc2 := oc.frozen; have OC := Aside0.mk oc; clear oc)
            have hp : par k l x y (pre ++ [j]) = o := by rw [He.out]; simp
            exact ⟨(keepsFrom_below (Below.refl _ _) _).trans (keepsFrom_below hb _), (Kp.trans (kp_below (Below.refl _ _) Hb1.out.size (by omega)) (kp_below hb (by have := Hb1.out.size; omega) (by have := Hsz.out; have := Hge.out; omega))), ⟨⟨⟨((hb.block _ (blk_lt C0.out)).trans C0.out), (by show Boxed _ _ _ (.bool (par k l x y (pre ++ [j]))); rw [hp]; exact OC.out)⟩, ((hb.block _ (blk_lt C2.out)).trans C2.out)⟩, (Nat.le_trans Hge.out hb.size)⟩, (below_then Hb1.out Hb1.out.size hb)⟩
        · have g2b : decide (y < q.f2) = false := decide_eq_false g2
          rw [if_neg (by omega)] at ht
          obtain rfl := Option.some.inj ht
          clear ht g1 g2 hsw
          gi_wp2_with (refine ⟨trivial, ?_⟩)
          have hp : par k l x y (pre ++ [j]) = o := by rw [He.out]; simp
          exact ⟨keepsFrom_below (Below.refl _ _) _, (kp_below (Below.refl _ _) Hb1.out.size (by omega)), ⟨⟨⟨C0.out, (by show Boxed _ _ _ (.bool (par k l x y (pre ++ [j]))); rw [hp]; exact C1.out)⟩, C2.out⟩, Hge.out⟩, Hb1.out⟩
      · have g1b : decide (p.f2 ≤ y) = false := decide_eq_false g1
        rw [if_neg (by omega)] at ht
        obtain rfl := Option.some.inj ht
        clear ht g1 hsw
        gi_wp2_with (refine ⟨trivial, ?_⟩)
        have hp : par k l x y (pre ++ [j]) = o := by rw [He.out]; simp
        exact ⟨keepsFrom_below (Below.refl _ _) _, (kp_below (Below.refl _ _) Hb1.out.size (by omega)), ⟨⟨⟨C0.out, (by show Boxed _ _ _ (.bool (par k l x y (pre ++ [j]))); rw [hp]; exact C1.out)⟩, C2.out⟩, Hge.out⟩, Hb1.out⟩
  case done =>
    rintro D zs W hD rfl ⟨⟨⟨⟨c0, c1⟩, c2⟩, hge⟩, hB1⟩ hK
    have hcc := c1.cell
    have hff := c1.frozen
    clear c0 c1 c2
    gi_wp2
    refine ⟨by simp, .inl ⟨_, _, rfl, run_takeDeferred hK, ?_⟩⟩
    refine ⟨.bool (par k l x y (List.range l.length)), ?_, rfl, hB1.trans (belowK_b (w := W0) (by omega) _ D _ _ hD hK rfl rfl)⟩
    simp [results, Try.f29, go_sem]
  case stop =>
    rintro D cx pre W hD ⟨m, hm, rfl⟩ hF hK
    exact hF.elim
theorem poly_Within.calls (k : Nat) (A0 : Option Addr) (c0 : Nat) (l0 : List S24) (a1 : Int) (a2 : Int) (r : Bool) (w : World) (hr0 : Kd.C k24 w A0 l0.length l0) (hc0 : l0.length ≤ c0) (h : poly_Within.f k l0 a1 a2 = some r) :
    Calls Try.prog 29 #[.slice A0 l0.length c0, .int .u32 a1, .int .u32 a2] w fun e w' => e = .returned (.bool r) ∧ Below w.heap.size w w' := by
  unfold poly_Within.f at h
  obtain ⟨t, ht, h⟩ := Option.bind_eq_some_iff.1 h
  cases t with
  | true =>
    obtain rfl := Option.some.inj h
    exact callsIn_wide.1 (within_on 4 (by omega) k A0 c0 l0 a1 a2 w hr0 hc0 ht)
  | false =>
    have h : restW k l0 a1 a2 = some r := h
    unfold restW at h
    by_cases hs : ∀ j, j < l0.length → (crossAt k l0 a1 a2 j).isSome = true
    · rw [if_pos hs] at h
      obtain rfl := Option.some.inj h
      exact callsIn_wide.1 (within_off 4 (by omega) k A0 c0 l0 a1 a2 w hr0 hc0 ht hs)
    · rw [if_neg hs] at h
      cases h
end Go.Proofs.Ytgepbfcaimejmaa.PA
