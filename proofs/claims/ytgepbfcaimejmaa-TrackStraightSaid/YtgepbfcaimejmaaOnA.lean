/-
  poly.On, walked by hand over the iterator's contract: whether a place is on one of the sides.
  Conditions: the test of each side answers (else the plain function answers none, and nothing is said).
-/
import Derived.Test.YtgepbfcaimejmaaSides
import Derived.Test.YtgepbfcaimejmaaPAx12
namespace Go.Proofs.Ytgepbfcaimejmaa.PA
open Go.RowKit Go.Shelf Go.Proofs.YtgepbfcaimejmaaW.PrintWords Go.Proofs.YtgepbfcaimejmaaW.PrintLast Go.Proofs.YtgepbfcaimejmaaW.PrintMore
attribute [local go_sem] Oper.semAt_some
set_option linter.unusedVariables false
set_option linter.unusedSimpArgs false

/-- Is a place on side j? -/
def sideAt (k : Nat) (l : List S24) (x y : Int) (j : Nat) : Option Bool :=
  poly_side.f k (sdAt l (j % l.length)).1.f0 (sdAt l (j % l.length)).1.f1 (sdAt l (j % l.length)).1.f2 (sdAt l (j % l.length)).1.f3
    (sdAt l (j % l.length)).2.f0 (sdAt l (j % l.length)).2.f1 (sdAt l (j % l.length)).2.f2 (sdAt l (j % l.length)).2.f3 0 x y ⟨#[]⟩
def poly_On.f (k : Nat) (l0 : List S24) (a1 : Int) (a2 : Int) : Option Bool :=
  if ∀ j, j < l0.length → (sideAt k l0 a1 a2 j).isSome = true then some (decide (∃ j, j < l0.length ∧ sideAt k l0 a1 a2 j = some true)) else none

theorem sideAt_mono (k : Nat) (l : List S24) (x y : Int) (j : Nat) : LeO (sideAt k l x y j) (sideAt (k + 1) l x y j) := poly_side.mono _ _ _ _ _ _ _ _ _ _ _ _ k
theorem poly_On.mono : ∀ a0 a1 a2 k, LeO (poly_On.f k a0 a1 a2) (poly_On.f (k + 1) a0 a1 a2) := by
  intro l x y k r h
  unfold poly_On.f at h ⊢
  split at h
  case isFalse => cases h
  case isTrue hs =>
    have same : ∀ j, j < l.length → sideAt (k + 1) l x y j = sideAt k l x y j := by
      intro j hj
      obtain ⟨b, hb⟩ := Option.isSome_iff_exists.1 (hs j hj)
      rw [hb]
      exact sideAt_mono k l x y j b hb
    rw [if_pos (fun j hj => by rw [same j hj]; exact hs j hj), ← h]
    congr 1
    rw [decide_eq_decide]
    constructor
    · rintro ⟨j, hj, e⟩
      exact ⟨j, hj, by rw [← same j hj]; exact e⟩
    · rintro ⟨j, hj, e⟩
      exact ⟨j, hj, by rw [same j hj]; exact e⟩

theorem Kp_putObj {n₀ Bs : Nat} {W0 : World} (h0 : n₀ ≤ W0.heap.size) (hb : Bs < W0.heap.size) (W : World) (l : Nat) (o o' : Obj) (hl : W0.heap.size ≤ l) (hW : W.heap[l]? = some o) (hc : o.isCells = false) (hw : o.isWalk = false) : Kp n₀ Bs W (W.putObj l o') :=
  ⟨belowK_b (w := W0) h0 W l o o' hl hW hc hw, World.putObj_heap_other (by omega)⟩

theorem cells_own {β : Type} (g : Nat) (t : TypeId) (cs : Array Value) : Own (fun (_ : β) W => W.heap[g]? = some (.cells cs t (0, 0))) := fun s X Y row hs hg hrow =>
  (hg.block g (blk_lt hs) (fun e => by obtain ⟨o, ho, hc⟩ := hrow g e.symm; rw [hs] at ho; cases ho; cases hc)).trans hs
theorem keepsFrom_below {W W' : World} (h : Below W.heap.size W W') (B : Nat) : KeepsFrom B W W' := ⟨h.size, fun k o _ hk _ => (h.block k (blk_lt hk)).trans hk⟩
theorem kp_below {n₀ Bs : Nat} {W W' : World} (h : Below W.heap.size W W') (h0 : n₀ ≤ W.heap.size) (hb : Bs < W.heap.size) : Kp n₀ Bs W W' := ⟨h.mono h0, h.block Bs hb⟩

set_option maxRecDepth 100000 in
set_option maxHeartbeats 4000000 in
theorem on_in (n : Nat) (hn : 3 ≤ n) (k : Nat) (A : Option Addr) (c : Nat) (l : List S24) (x y : Int) (w : World) (hr : Kd.C k24 w A l.length l)
    (hs : ∀ j, j < l.length → (sideAt k l x y j).isSome = true) :
    CallsIn Fence.wide n Try.prog 28 #[.slice A l.length c, .int .u32 x, .int .u32 y] w fun e w' => e = .returned (.bool (decide (∃ j, j < l.length ∧ sideAt k l x y j = some true))) ∧ Below w.heap.size w w' := by
  have h1 : 1 ≤ n := by omega
  have hu24 := Try.underlying24
  refine callsIn_of_wp_marks Try.func28 rfl trivial ?_ rfl
  simp only [Try.ntmps28, List.size_toArray, List.length_cons, List.length_nil, Nat.reduceAdd, Nat.reduceSub, Array.replicate_succ, Array.replicate_zero, List.push_toArray, List.append_toArray, List.nil_append, List.cons_append]
  gi_wp2_with (refine ⟨trivial, ?_⟩; gi_at_call 51; refine (sides_in (n - 1) _ _ _ _).mono ?_; rintro e w' ⟨rfl, rfl⟩)
  have b0 := ((Boxed.new w 22 (.int .u32 x)).alloc (.cells #[.int .u32 y] 22)).alloc (.cells #[.bool false] 4) |>.alloc (.cells #[.slice A l.length c] 27)
  have b1 := ((Boxed.new (w.alloc (.cells #[.int .u32 x] 22)) 22 (.int .u32 y)).alloc (.cells #[.bool false] 4)).alloc (.cells #[.slice A l.length c] 27)
  have b2 := (Boxed.new ((w.alloc (.cells #[.int .u32 x] 22)).alloc (.cells #[.int .u32 y] 22)) 4 (.bool false)).alloc (.cells #[.slice A l.length c] 27)
  have b3 := Boxed.new (((w.alloc (.cells #[.int .u32 x] 22)).alloc (.cells #[.int .u32 y] 22)).alloc (.cells #[.bool false] 4)) 27 (.slice A l.length c)
  simp only [World.size_alloc] at b1 b2 b3
  have hB0 : Below w.heap.size w ((((w.alloc (.cells #[.int .u32 x] 22)).alloc (.cells #[.int .u32 y] 22)).alloc (.cells #[.bool false] 4)).alloc (.cells #[.slice A l.length c] 27)) :=
    below_alloc (below_alloc (below_alloc (below_alloc (Below.refl _ _) _) _) _) _
  have hsz : ((((w.alloc (.cells #[.int .u32 x] 22)).alloc (.cells #[.int .u32 y] 22)).alloc (.cells #[.bool false] 4)).alloc (.cells #[.slice A l.length c] 27)).heap.size = w.heap.size + 4 := by simp
  obtain ⟨W0, hW0⟩ : ∃ W0, (((w.alloc (.cells #[.int .u32 x] 22)).alloc (.cells #[.int .u32 y] 22)).alloc (.cells #[.bool false] 4)).alloc (.cells #[.slice A l.length c] 27) = W0 := ⟨_, rfl⟩
  rw [hW0] at b0 b1 b2 b3 hB0 hsz ⊢
  clear hW0
  refine wpIn_rangeFunc_ownH rfl h1 (gf := 61) (lb := #[.pointer (some ⟨w.heap.size + 1 + 1 + 1, 0, none⟩)]) rfl trivial (enters_of Try.func61 (by kernel_rfl) rfl)
    (sides_stops (n - 1) (by omega) (w.heap.size + 1 + 1 + 1) A c l w W0 hr hB0 b3) (fun h h' => h.trans h') (Kp_putObj (by omega) (by omega)) (Below.refl _ _) (fun _ => rfl)
    (fun pre W => (((Boxed W w.heap.size 22 (.int .u32 x) ∧ Boxed W (w.heap.size + 1) 22 (.int .u32 y)) ∧ Boxed W (w.heap.size + 1 + 1) 4 (.bool false)) ∧ W0.heap.size ≤ W.heap.size ∧ ∀ j, j ∈ pre → sideAt k l x y j = some false) ∧ Below w.heap.size w W)
    (fun cx pre W => (Boxed W (w.heap.size + 1 + 1) 4 (.bool true) ∧ cx = .ret ∧ ∃ j, j ∈ pre ∧ sideAt k l x y j = some true) ∧ Below w.heap.size w W)
    (OwnFrom.and (OwnFrom.and (OwnFrom.and (OwnFrom.and (Own.from (boxed_own _ _ _) _) (Own.from (boxed_own _ _ _) _)) (Own.from (boxed_own _ _ _) _)) (fun _ X Y row hs hg _ => ⟨Nat.le_trans hs.1 hg.size, hs.2⟩)) (ownFrom_below (Nat.le_refl _) (by omega)))
    (fun cx => OwnFrom.and (OwnFrom.and (Own.from (boxed_own _ _ _) _) (ownFrom_pure _ _)) (ownFrom_below (Nat.le_refl _) (by omega)))
    ⟨⟨⟨⟨b0, b1⟩, b2⟩, Nat.le_refl _, by simp⟩, hB0⟩
    (fun j a' W => ∃ B7 B8, (W.heap[B7]? = some (.cells #[.int .i64 (sdAt l (j % l.length)).1.f0, .int .u32 (sdAt l (j % l.length)).1.f1, .int .u32 (sdAt l (j % l.length)).1.f2, .string (sdAt l (j % l.length)).1.f3] 24 (0, 0)) ∧
        W.heap[B8]? = some (.cells #[.int .i64 (sdAt l (j % l.length)).2.f0, .int .u32 (sdAt l (j % l.length)).2.f1, .int .u32 (sdAt l (j % l.length)).2.f2, .string (sdAt l (j % l.length)).2.f3] 24 (0, 0))) ∧
      a' = { tmps := #[.slice A l.length c, .int .u32 x, .int .u32 y, undef, .pointer (some ⟨w.heap.size, 0, none⟩), .pointer (some ⟨w.heap.size + 1, 0, none⟩), .pointer (some ⟨w.heap.size + 1 + 1, 0, none⟩),
        .pointer (some ⟨B7, 0, none⟩), .pointer (some ⟨B8, 0, none⟩), .slice A l.length c, .func (.func 61) #[] #[.pointer (some ⟨w.heap.size + 1 + 1 + 1, 0, none⟩)], pv (sdAt l (j % l.length)).1, pv (sdAt l (j % l.length)).2, undef, undef, undef, undef, undef, undef], defers := [] })
    (fun j a' _ X Y row hs hg hrow => by
      obtain ⟨B7, B8, ⟨h7, h8⟩, rfl⟩ := hs
      exact ⟨B7, B8, ⟨cells_own B7 24 _ () X Y row h7 hg (fun r e => (hrow r e).2), cells_own B8 24 _ () X Y row h8 hg (fun r e => (hrow r e).2)⟩, rfl⟩)
    ?assign ?body ?done ?stop
  case assign =>
    rintro lp pre j W K ⟨⟨⟨⟨c0, c1⟩, c2⟩, hge, hp⟩, hB1⟩ hK
    simp only [en]
    gi_wp2
    have hb : Below W.heap.size W ((W.alloc (.cells #[.int .i64 (sdAt l (j % l.length)).1.f0, .int .u32 (sdAt l (j % l.length)).1.f1, .int .u32 (sdAt l (j % l.length)).1.f2, .string (sdAt l (j % l.length)).1.f3] 24)).alloc (.cells #[.int .i64 (sdAt l (j % l.length)).2.f0, .int .u32 (sdAt l (j % l.length)).2.f1, .int .u32 (sdAt l (j % l.length)).2.f2, .string (sdAt l (j % l.length)).2.f3] 24)) := below_alloc (below_alloc (Below.refl _ _) _) _
    refine hK _ _ (keepsFrom_below hb _) (kp_below hb hB1.size (by omega)) ⟨⟨⟨⟨(c0.alloc _).alloc _, (c1.alloc _).alloc _⟩, (c2.alloc _).alloc _⟩, by simp; omega, hp⟩, below_then hB1 hB1.size hb⟩ ⟨W.heap.size, W.heap.size + 1, ⟨blk_alloc (blk_new W _) _, ?_⟩, rfl⟩
    have z := blk_new (W.alloc (.cells #[.int .i64 (sdAt l (j % l.length)).1.f0, .int .u32 (sdAt l (j % l.length)).1.f1, .int .u32 (sdAt l (j % l.length)).1.f2, .string (sdAt l (j % l.length)).1.f3] 24)) (.cells #[.int .i64 (sdAt l (j % l.length)).2.f0, .int .u32 (sdAt l (j % l.length)).2.f1, .int .u32 (sdAt l (j % l.length)).2.f2, .string (sdAt l (j % l.length)).2.f3] 24)
    rwa [World.size_alloc] at z
  case body =>
    rintro lp pre j a' W hl ⟨r, hr'⟩ ⟨⟨⟨⟨c0, c1⟩, c2⟩, hge, hp⟩, hB1⟩ ⟨B7, B8, ⟨h7, h8⟩, rfl⟩ hlt
    have hmod : sideAt k l x y (j % l.length) = sideAt k l x y j := by unfold sideAt; rw [Nat.mod_mod]
    obtain ⟨t, ht⟩ := Option.isSome_iff_exists.1 (hs (j % l.length) (Nat.mod_lt _ (by omega)))
    rw [hmod] at ht
    clear hmod
    have ht0 := Aside0.mk ht
    unfold sideAt at ht
    have Ht := Aside0.mk ht
    have Hp := Aside0.mk hp
    clear ht hp hs
    generalize (sdAt l (j % l.length)).1 = p at *
    generalize (sdAt l (j % l.length)).2 = q at *
    have hx := c0.cell
    have hy := c1.cell
    have p0 : W.cell? ⟨B7, 0, none⟩ = some (.int .i64 p.f0) := (blk_cell h7 0).trans rfl
    have p1 : W.cell? ⟨B7, 1, none⟩ = some (.int .u32 p.f1) := (blk_cell h7 1).trans rfl
    have p2 : W.cell? ⟨B7, 2, none⟩ = some (.int .u32 p.f2) := (blk_cell h7 2).trans rfl
    have p3 : W.cell? ⟨B7, 3, none⟩ = some (.string p.f3) := (blk_cell h7 3).trans rfl
    have q0 : W.cell? ⟨B8, 0, none⟩ = some (.int .i64 q.f0) := (blk_cell h8 0).trans rfl
    have q1 : W.cell? ⟨B8, 1, none⟩ = some (.int .u32 q.f1) := (blk_cell h8 1).trans rfl
    have q2 : W.cell? ⟨B8, 2, none⟩ = some (.int .u32 q.f2) := (blk_cell h8 2).trans rfl
    have q3 : W.cell? ⟨B8, 3, none⟩ = some (.string q.f3) := (blk_cell h8 3).trans rfl
    have H7 := Aside0.mk h7
    have H8 := Aside0.mk h8
    have C0 := Aside0.mk c0
    have C1 := Aside0.mk c1
    have C2 := Aside0.mk c2
    have Hr := Aside0.mk hr'
    clear h7 h8 c0 c1 c2 hr'
    have h1' : 1 ≤ n - 1 - 1 := by omega
    cases t with
    | true =>
      gi_wp2_with (refine ⟨trivial, ?_⟩; gi_at_call 41; refine (CallsIn.inRound lp (callsIn_wide.2 (poly_side.calls k _ _ _ _ _ _ _ _ _ _ _ _ true _ Ht.out))).mono ?_; rintro e w' ⟨rfl, hb⟩; have c2' : Boxed w' (w.heap.size + 1 + 1) 4 (.bool false) := (hb.block _ C2.out.lt).trans C2.out; have hcc := c2'.cell; have hff := c2'.frozen; have C2' := Aside0.mk c2'; clear c2')
      exact ⟨(keepsFrom_below hb _).trans ((KeepsOthers.setCell _ _ _).from _), ⟨C2'.out.set _, rfl, j, by simp, ht0.out⟩, (below_then hB1 hB1.size hb).setCell (p := ⟨w.heap.size + 1 + 1, 0, none⟩) (by simp; omega) _⟩
    | false =>
      gi_wp2_with (refine ⟨trivial, ?_⟩; gi_at_call 41; refine (CallsIn.inRound lp (callsIn_wide.2 (poly_side.calls k _ _ _ _ _ _ _ _ _ _ _ _ false _ Ht.out))).mono ?_; rintro e w' ⟨rfl, hb⟩)
      refine ⟨keepsFrom_below hb _, kp_below hb hB1.size (by omega), ⟨⟨⟨(hb.block _ C0.out.lt).trans C0.out, (hb.block _ C1.out.lt).trans C1.out⟩, (hb.block _ C2.out.lt).trans C2.out⟩, Nat.le_trans hge hb.size, fun j' hj' => ?_⟩, below_then hB1 hB1.size hb⟩
      rcases List.mem_append.1 hj' with h | h
      · exact Hp.out j' h
      · rw [List.mem_singleton] at h
        rw [h]
        exact ht0.out
  case done =>
    rintro D zs W hD rfl ⟨⟨⟨⟨c0, c1⟩, c2⟩, hge, hp⟩, hB1⟩ hK
    have hcc := c2.cell
    have hff := c2.frozen
    have Hp := Aside0.mk hp
    have C2 := Aside0.mk c2
    clear hp c0 c1 c2
    gi_wp2
    have hK' := (KeepsOthers.setCell W ⟨w.heap.size + 1 + 1, 0, none⟩ (.bool false)).same D _ hK rfl
    refine ⟨by simp, .inl ⟨_, _, rfl, run_takeDeferred hK', ?_⟩⟩
    have hc5 := cell_kept (Boxed.cell (C2.out.set (.bool false))) (grownBy_putObj' _ D (.deferred none)) (fun r e => by cases e; exact ⟨_, hK', rfl⟩)
    refine ⟨.bool false, ?_, ?_, ?_⟩
    · simp [results, Try.f28, go_sem, hc5]
    · have : decide (∃ j, j < l.length ∧ sideAt k l x y j = some true) = false := by
        rw [decide_eq_false_iff_not]
        rintro ⟨j, hj, e⟩
        have := Hp.out j (List.mem_range.2 hj)
        rw [this] at e
        cases e
      rw [this]
    · have hB2 := hB1.setCell (p := ⟨w.heap.size + 1 + 1, 0, none⟩) (by simp; omega) (.bool false)
      exact hB2.trans (belowK_b (w := W0) (by omega) _ D _ _ hD hK' rfl rfl)
  case stop =>
    rintro D cx pre W hD ⟨m, hm, rfl⟩ ⟨⟨c2, rfl, j, hj, ht⟩, hB1⟩ hK
    have hcc := c2.cell
    have Ht := Aside0.mk ht
    have C2 := Aside0.mk c2
    clear ht c2
    gi_wp2
    refine ⟨by simp, .inl ⟨_, _, rfl, run_takeDeferred hK, ?_⟩⟩
    have hc5 := cell_kept hcc (grownBy_putObj' _ D (.deferred none)) (fun r e => by cases e; exact ⟨_, hK, rfl⟩)
    refine ⟨.bool true, ?_, ?_, ?_⟩
    · simp [results, Try.f28, go_sem, hc5]
    · have : decide (∃ j, j < l.length ∧ sideAt k l x y j = some true) = true := by
        rw [decide_eq_true_eq]
        exact ⟨j, by have := List.mem_range.1 hj; omega, Ht.out⟩
      rw [this]
    · exact hB1.trans (belowK_b (w := W0) (by omega) _ D _ _ hD hK rfl rfl)

theorem poly_On.calls (k : Nat) (A0 : Option Addr) (c0 : Nat) (l0 : List S24) (a1 : Int) (a2 : Int) (r : Bool) (w : World) (hr0 : Kd.C k24 w A0 l0.length l0) (hc0 : l0.length ≤ c0) (h : poly_On.f k l0 a1 a2 = some r) :
    Calls Try.prog 28 #[.slice A0 l0.length c0, .int .u32 a1, .int .u32 a2] w fun e w' => e = .returned (.bool r) ∧ Below w.heap.size w w' := by
  unfold poly_On.f at h
  split at h
  case isFalse => cases h
  case isTrue hs =>
    obtain rfl := Option.some.inj h
    exact callsIn_wide.1 (on_in 3 (by omega) k A0 c0 l0 a1 a2 w hr0 hs)
end Go.Proofs.Ytgepbfcaimejmaa.PA
