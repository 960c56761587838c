/-
  What the printed functions of track (and what they call) answer, in plain words.
  Conditions: coordinates are of Go's uint32.
-/
import Derived.Test.YtgepbfcaimejmaaPlainA
import Derived.Test.YtgepbfcaimejmaaPAx24
import Derived.Test.YtgepbfcaimejmaaPAx25
import Derived.Test.YtgepbfcaimejmaaPAx19
namespace Go.Proofs.Ytgepbfcaimejmaa.TrackA
open Go.RowKit Go.Proofs.Ytgepbfcaimejmaa.PA Go.Proofs.YtgepbfcaimejmaaW.PrintWords Go.Proofs.YtgepbfcaimejmaaW.PrintLast Nums MulA WideA PolyA

theorem refgap_eq (a b : Int) (h0 : 0 ≤ a) (h1 : a < 4294967296) (h2 : 0 ≤ b) (h3 : b < 4294967296) :
    ∃ g, croftref03_gap.f a b = some g ∧ 0 ≤ g ∧ g ≤ 4294967295 ∧ g * g = (a - b) * (a - b) := by
  unfold croftref03_gap.f
  by_cases h : a > b
  · refine ⟨a - b, ?_, by omega, by omega, rfl⟩
    rw [if_pos h]
    congr 1
    omega
  · refine ⟨b - a, ?_, by omega, by omega, by grind⟩
    rw [if_neg h]
    congr 1
    omega
theorem refbetween_eq (x0 y0 x1 y1 : Int) (a0 : 0 ≤ x0) (a1 : x0 < 4294967296) (b0 : 0 ≤ y0) (b1 : y0 < 4294967296) (c0 : 0 ≤ x1) (c1 : x1 < 4294967296) (e0 : 0 ≤ y1) (e1 : y1 < 4294967296) :
    croftref03_Between.f x0 y0 x1 y1 = some (d2 x0 y0 x1 y1 / 18446744073709551616, d2 x0 y0 x1 y1 % 18446744073709551616) := by
  obtain ⟨g, hg, g0, g1, g2⟩ := refgap_eq x0 x1 a0 a1 c0 c1
  obtain ⟨g', hg', g0', g1', g2'⟩ := refgap_eq y0 y1 b0 b1 e0 e1
  unfold croftref03_Between.f d2
  simp only [hg, hg', Option.bind_some]
  have b := le_mul g g _ _ g0 g1 g0 g1
  have b' := le_mul g' g' _ _ g0' g1' g0' g1'
  rw [← g2, ← g2']
  generalize g * g = q at *
  generalize g' * g' = r at *
  rw [u64_in q (by omega) (by omega), u64_in r (by omega) (by omega), u64_wrap]
  by_cases h : (q + r) % 18446744073709551616 < q
  · rw [if_pos h, show (q + r) / 18446744073709551616 = 1 from by omega]
  · rw [if_neg h, show (q + r) / 18446744073709551616 = 0 from by omega]
theorem less_eq (a b c d : Int) : croftref03_Less.f a b c d = some (decide (a < c ∨ a = c ∧ b < d)) := by
  unfold croftref03_Less.f
  by_cases h : a < c
  · simp [h]
  · by_cases h' : a = c
    · simp [h']
    · simp [h, h']

/-- A point's coordinates are of uint32. -/
def ok (p : S24) : Prop := (0 ≤ p.f1 ∧ p.f1 < 4294967296) ∧ 0 ≤ p.f2 ∧ p.f2 < 4294967296
/-- The squared distance of two points. -/
def dd (p q : S24) : Int := d2 p.f1 p.f2 q.f1 q.f2
def w2 (D : Int) : S43 := ⟨D / 18446744073709551616, D % 18446744073709551616⟩
theorem dd_bound (p q : S24) (hp : ok p) (hq : ok q) : 0 ≤ dd p q ∧ dd p q < 36893488147419103232 :=
  d2_bound _ _ _ _ hp.1.1 hp.1.2 hp.2.1 hp.2.2 hq.1.1 hq.1.2 hq.2.1 hq.2.2
theorem z24_ok : ok z24 := by unfold ok z24; simp
theorem getD_ok (l : List S24) (hl : ∀ p ∈ l, ok p) (i : Nat) : ok (l.getD i z24) := by
  by_cases h : i < l.length
  · rw [List.getD_eq_getElem?_getD, List.getElem?_eq_getElem h]
    exact hl _ (List.getElem_mem h)
  · rw [List.getD_eq_getElem?_getD, List.getElem?_eq_none (by omega)]
    exact z24_ok
theorem far_eq (k : Nat) (p q : S24) (hp : ok p) (hq : ok q) : track_far.f (k + 3) p.f0 p.f1 p.f2 p.f3 q.f0 q.f1 q.f2 q.f3 = some (dd p q / 18446744073709551616, dd p q % 18446744073709551616) := by
  unfold track_far.f
  rw [between_eq k _ _ _ _ hp.1.1 hp.1.2 hp.2.1 hp.2.2 hq.1.1 hq.1.2 hq.2.1 hq.2.2]
  rfl
theorem refdd_eq (p q : S24) (hp : ok p) (hq : ok q) : croftref03_Between.f p.f1 p.f2 q.f1 q.f2 = some (dd p q / 18446744073709551616, dd p q % 18446744073709551616) :=
  refbetween_eq _ _ _ _ hp.1.1 hp.1.2 hp.2.1 hp.2.2 hq.1.1 hq.1.2 hq.2.1 hq.2.2

/-- Which way it goes, of three points. -/
def tn (a b c : S24) : Int := cr a.f1 a.f2 b.f1 b.f2 c.f1 c.f2
theorem turn3_eq (k : Nat) (a b c : S24) (ha : ok a) (hb : ok b) (hc : ok c) : poly_Turn.f (k + 3) a.f0 a.f1 a.f2 a.f3 b.f0 b.f1 b.f2 b.f3 c.f0 c.f1 c.f2 c.f3 = some (sgn (tn a b c)) :=
  turn_eq k _ _ _ _ _ _ _ _ _ _ _ _ ha.1.1 ha.1.2 ha.2.1 ha.2.2 hb.1.1 hb.1.2 hb.2.1 hb.2.2 hc.1.1 hc.1.2 hc.2.1 hc.2.2
/-- Is a point on the side of two others? -/
def onseg (a b p : S24) : Prop := tn a b p = 0 ∧ (mn a.f1 b.f1 ≤ p.f1 ∧ p.f1 ≤ mx a.f1 b.f1) ∧ mn a.f2 b.f2 ≤ p.f2 ∧ p.f2 ≤ mx a.f2 b.f2
instance (a b p : S24) : Decidable (onseg a b p) := by unfold onseg; infer_instance
theorem pbetween_eq (n a b : Int) : poly_between.f n a b = some (decide (mn a b ≤ n ∧ n ≤ mx a b)) := by
  unfold poly_between.f
  by_cases h : n ≥ mn a b
  · rw [if_pos h]
    simp [show mn a b ≤ n from h]
  · rw [if_neg h]
    simp [show ¬ mn a b ≤ n from h]
theorem side_eq (k : Nat) (a b p : S24) (ha : ok a) (hb : ok b) (hp : ok p) : poly_side.f (k + 3) a.f0 a.f1 a.f2 a.f3 b.f0 b.f1 b.f2 b.f3 p.f0 p.f1 p.f2 p.f3 = some (decide (onseg a b p)) := by
  unfold poly_side.f
  rw [turn3_eq k a b p ha hb hp]
  simp only [Option.bind_some, pbetween_eq]
  unfold onseg
  by_cases h : tn a b p = 0
  · have e : sgn (tn a b p) = 0 := by rw [h]; rfl
    rw [if_pos e]
    by_cases h1 : mn a.f1 b.f1 ≤ p.f1 ∧ p.f1 ≤ mx a.f1 b.f1
    · simp [h, h1]
    · simp [h1]
  · rw [if_neg (by rcases sgn_cases (tn a b p) with h' | h' | h' <;> omega)]
    simp [h]
theorem sideAt_eq (k : Nat) (l : List S24) (hl : ∀ p ∈ l, ok p) (x y : Int) (hx : 0 ≤ x ∧ x < 4294967296) (hy : 0 ≤ y ∧ y < 4294967296) (j : Nat) :
    sideAt (k + 3) l x y j = some (decide (onseg (sdAt l (j % l.length)).1 (sdAt l (j % l.length)).2 ⟨0, x, y, ⟨#[]⟩⟩)) :=
  side_eq k _ _ ⟨0, x, y, ⟨#[]⟩⟩ (getD_ok l hl _) (getD_ok l hl _) ⟨hx, hy⟩
theorem on_eq (k : Nat) (l : List S24) (hl : ∀ p ∈ l, ok p) (x y : Int) (hx : 0 ≤ x ∧ x < 4294967296) (hy : 0 ≤ y ∧ y < 4294967296) :
    poly_On.f (k + 3) l x y = some (decide (∃ j, j < l.length ∧ onseg (sdAt l (j % l.length)).1 (sdAt l (j % l.length)).2 ⟨0, x, y, ⟨#[]⟩⟩)) := by
  unfold poly_On.f
  simp only [sideAt_eq k l hl x y hx hy, Option.isSome_some, implies_true, if_true, Option.some.injEq, decide_eq_true_eq]
theorem tn_swap (a b p : S24) : tn b a p = -tn a b p := by unfold tn cr; grind
theorem mn_comm (a b : Int) : mn a b = mn b a := by unfold mn; split <;> split <;> omega
theorem mx_comm (a b : Int) : mx a b = mx b a := by unfold mx; split <;> split <;> omega
theorem onseg_swap (a b p : S24) : onseg b a p ↔ onseg a b p := by
  unfold onseg
  rw [tn_swap a b p, mn_comm b.f1, mx_comm b.f1, mn_comm b.f2, mx_comm b.f2]
  have : -tn a b p = 0 ↔ tn a b p = 0 := by omega
  rw [this]
theorem onseg_at (a b p q : S24) (h1 : p.f1 = q.f1) (h2 : p.f2 = q.f2) : onseg a b p ↔ onseg a b q := by
  unfold onseg tn
  rw [h1, h2]
theorem on2_eq (k : Nat) (a b p : S24) (ha : ok a) (hb : ok b) (hp : ok p) : poly_On.f (k + 3) [a, b] p.f1 p.f2 = some (decide (onseg a b p)) := by
  rw [on_eq k [a, b] (by intro q hq; simp at hq; rcases hq with rfl | rfl <;> assumption) p.f1 p.f2 hp.1 hp.2]
  congr 1
  rw [decide_eq_decide]
  constructor
  · rintro ⟨j, hj, h⟩
    simp at hj
    rcases (show j = 0 ∨ j = 1 by omega) with rfl | rfl
    · have e : sdAt [a, b] (0 % [a, b].length) = (a, b) := by simp [sdAt]
      rw [e] at h
      exact (onseg_at a b _ p rfl rfl).1 h
    · have e : sdAt [a, b] (1 % [a, b].length) = (b, a) := by simp [sdAt]
      rw [e] at h
      exact (onseg_swap a b p).1 ((onseg_at b a _ p rfl rfl).1 h)
  · intro h
    have e : sdAt [a, b] (0 % [a, b].length) = (a, b) := by simp [sdAt]
    refine ⟨0, by simp, ?_⟩
    rw [e]
    exact (onseg_at a b _ p rfl rfl).2 h

/-- The last of a list. -/
def lst (l : List S24) (n : Nat) : S24 := l.getD (l.length - n) z24
def same (a b : S24) : Prop := a.f1 = b.f1 ∧ a.f2 = b.f2
instance (a b : S24) : Decidable (same a b) := by unfold same; infer_instance
/-- One step of Straight. -/
def sstep (out : List S24) (p : S24) : List S24 :=
  if 1 ≤ out.length ∧ same (lst out 1) p then out
  else if 2 ≤ out.length ∧ onseg (lst out 2) p (lst out 1) then out.take (out.length - 1) ++ [p] else out ++ [p]
theorem same_eq (a b : S24) : track_Straight_1.f a.f0 a.f1 a.f2 a.f3 b.f0 b.f1 b.f2 b.f3 = some (decide (same a b)) := by
  unfold track_Straight_1.f same
  by_cases h : a.f1 = b.f1
  · by_cases h' : a.f2 = b.f2 <;> simp [h, h']
  · simp [h]
theorem rd_lst (l : List S24) (n : Nat) (h : n ≤ l.length) : rd_T24 l ((l.length : Int) - n) = lst l n := by
  unfold rd_T24 lst
  rw [show ((l.length : Int) - n).toNat = l.length - n by omega]
theorem sstep_ok (out : List S24) (p : S24) (ho : ∀ q ∈ out, ok q) (hp : ok p) : ∀ q ∈ sstep out p, ok q := by
  intro q hq
  unfold sstep at hq
  split at hq
  · exact ho q hq
  · split at hq
    · rcases List.mem_append.1 hq with h | h
      · exact ho q (List.mem_of_mem_take h)
      · rw [List.mem_singleton.1 h]; exact hp
    · rcases List.mem_append.1 hq with h | h
      · exact ho q h
      · rw [List.mem_singleton.1 h]; exact hp
theorem sstep_length (out : List S24) (p : S24) : (sstep out p).length ≤ out.length + 1 := by
  unfold sstep
  split
  · omega
  · split <;> simp <;> omega
theorem straight_j1 (k : Nat) (out l : List S24) (p : S24) (i : Int) (ho : ∀ q ∈ out, ok q) (hp : ok p) (hn : out.length < 4398046511104) (hi : 0 ≤ i) (hi2 : i < 4398046511104) :
    track_Straight.j1 (k + 4) out ((out.length : Int) - 1) l l.length i (decide (1 ≤ out.length ∧ same (lst out 1) p)) p.f0 p.f1 p.f2 p.f3 = track_Straight.l0 (k + 3) (sstep out p) l l.length (i + 1) := by
  simp only [track_Straight.j1]
  rw [w64_in (i + 1) (by omega) (by omega)]
  unfold sstep
  by_cases hs : 1 ≤ out.length ∧ same (lst out 1) p
  · rw [if_pos (by simp [hs]), if_pos hs]
  · rw [if_neg (by simpa using hs), if_neg hs]
    by_cases h2 : 2 ≤ out.length
    · rw [if_pos (by omega), w64_in ((out.length : Int) - 1 - 1) (by omega) (by omega), if_pos (by omega), if_pos (by omega), if_pos (by omega), if_pos (by omega)]
      rw [show (out.length : Int) - 1 - 1 = (out.length : Int) - (2 : Nat) by omega, rd_lst out 2 h2]
      rw [show (out.length : Int) - 1 = (out.length : Int) - (1 : Nat) by omega, rd_lst out 1 (by omega)]
      have e := on2_eq k (lst out 2) p (lst out 1) (getD_ok out ho _) hp (getD_ok out ho _)
      rw [show ([(⟨(lst out 2).f0, (lst out 2).f1, (lst out 2).f2, (lst out 2).f3⟩ : S24), (⟨p.f0, p.f1, p.f2, p.f3⟩ : S24)] : List S24) = [lst out 2, p] from rfl, e]
      simp only [Option.bind_some]
      by_cases h3 : onseg (lst out 2) p (lst out 1)
      · rw [if_pos (by simp [h3]), if_pos (by omega), if_pos (by simp; omega), if_pos ⟨h2, h3⟩, show ((out.length : Int) - (1 : Nat)).toNat = out.length - 1 by omega]
      · rw [if_neg (by simp [h3]), if_pos hn, if_neg (by simp [h3])]
    · rw [if_neg (by omega), if_pos hn, if_neg (by omega)]
theorem straight_loop (l : List S24) (hl : ∀ p ∈ l, ok p) (hn : l.length < 4398046511104) (d : Nat) : ∀ (k i : Nat) (out : List S24), l.length - i = d → i ≤ l.length → out.length ≤ i → (∀ p ∈ out, ok p) →
    track_Straight.l0 (2 * d + k + 4) out l l.length i = some ((l.drop i).foldl sstep out) := by
  induction d with
  | zero =>
    intro k i out h1 h2 h3 ho
    simp only [track_Straight.l0]
    rw [if_neg (by omega), List.drop_of_length_le (by omega)]
    rfl
  | succ d ih =>
    intro k i out h1 h2 h3 ho
    have hi : i < l.length := by omega
    have hp := hl _ (List.getElem_mem hi)
    have hrd : rd_T24 l (i : Int) = l[i] := by simp [rd_T24, hi]
    rw [List.drop_eq_getElem_cons hi, List.foldl_cons]
    rw [show 2 * (d + 1) + k + 4 = (2 * d + k + 1 + 4) + 1 by omega]
    simp only [track_Straight.l0]
    rw [if_pos (by omega), if_pos (by omega), if_pos (by omega), hrd, w64_in ((out.length : Int) - 1) (by omega) (by omega)]
    have fin : track_Straight.l0 (2 * d + k + 4) (sstep out l[i]) l l.length ((i : Int) + 1) = some ((l.drop (i + 1)).foldl sstep (sstep out l[i])) := by
      have := ih k (i + 1) (sstep out l[i]) (by omega) (by omega) (by have := sstep_length out l[i]; omega) (sstep_ok _ _ ho hp)
      rw [← this]
      rfl
    by_cases h0 : 1 ≤ out.length
    · rw [if_pos (by omega), if_pos (by omega), if_pos (by omega), show (out.length : Int) - 1 = (out.length : Int) - (1 : Nat) by omega, rd_lst out 1 h0, same_eq]
      simp only [Option.bind_some]
      have := straight_j1 (2 * d + k + 1) out l l[i] i ho hp (by omega) (by omega) (by omega)
      rw [show decide (same (lst out 1) l[i]) = decide (1 ≤ out.length ∧ same (lst out 1) l[i]) by simp [h0]]
      exact this.trans fin
    · rw [if_neg (by omega)]
      have := straight_j1 (2 * d + k + 1) out l l[i] i ho hp (by omega) (by omega) (by omega)
      rw [show decide (1 ≤ out.length ∧ same (lst out 1) l[i]) = false by simp [h0]] at this
      exact this.trans fin
theorem straight_eq (k : Nat) (l : List S24) (hl : ∀ p ∈ l, ok p) (hn : l.length < 4398046511104) : track_Straight.f (2 * l.length + k + 4) l = some (l.foldl sstep []) := by
  unfold track_Straight.f
  exact straight_loop l hl hn l.length k 0 [] (by omega) (by omega) (by simp) (by simp)

/-- The leg that ends at place i + 1. -/
def leg (l : List S24) (i : Nat) : S43 := w2 (dd (l.getD i z24) (l.getD (i + 1) z24))
def legsTo (l : List S24) (i : Nat) : List S43 := (List.range i).map (leg l)
theorem legs_loop (l : List S24) (hl : ∀ p ∈ l, ok p) (hn : l.length < 4398046511104) (d : Nat) : ∀ (k i : Nat), l.length - (i + 1) = d → (i = 0 ∨ i < l.length) →
    track_Legs.l0 (d + k + 4) l (legsTo l i) (i + 1 : Nat) = some (legsTo l (l.length - 1)) := by
  induction d with
  | zero =>
    intro k i h1 h2
    simp only [track_Legs.l0]
    rw [if_neg (by omega), show l.length - 1 = i by omega]
  | succ d ih =>
    intro k i h1 h2
    have hi : i + 1 < l.length := by omega
    rw [show d + 1 + k + 4 = (d + k + 4) + 1 by omega]
    simp only [track_Legs.l0]
    rw [w64_in (((i + 1 : Nat) : Int) - 1) (by omega) (by omega), w64_in (((i + 1 : Nat) : Int) + 1) (by omega) (by omega), if_pos (by omega), if_pos (by omega), if_pos (by omega), if_pos (by omega)]
    rw [show rd_T24 l (((i + 1 : Nat) : Int) - 1) = l.getD i z24 by unfold rd_T24; congr 1; omega, show rd_T24 l ((i + 1 : Nat) : Int) = l.getD (i + 1) z24 from rfl]
    rw [show d + k + 4 = (d + k + 1) + 3 by omega, far_eq _ _ _ (getD_ok l hl _) (getD_ok l hl _)]
    simp only [Option.bind_some]
    rw [if_pos (by simp [legsTo]; omega)]
    have e : legsTo l i ++ [(⟨dd (l.getD i z24) (l.getD (i + 1) z24) / 18446744073709551616, dd (l.getD i z24) (l.getD (i + 1) z24) % 18446744073709551616⟩ : S43)] = legsTo l (i + 1) := by
      unfold legsTo
      rw [List.range_succ, List.map_append]
      rfl
    rw [e]
    have := ih k (i + 1) (by omega) (by omega)
    rw [← this]
    rfl
theorem legs_eq (k : Nat) (l : List S24) (hl : ∀ p ∈ l, ok p) (hn : l.length < 4398046511104) : track_Legs.f (l.length + k + 4) l = some (legsTo l (l.length - 1)) := by
  unfold track_Legs.f
  have := legs_loop l hl hn (l.length - 1) (if l.length = 0 then k else k + 1) 0 (by omega) (by omega)
  rw [← this]
  by_cases h : l.length = 0
  · rw [if_pos h, h]; rfl
  · rw [if_neg h, show l.length - 1 + (k + 1) + 4 = l.length + k + 4 by omega]
    rfl
def add2 (s : Int × Int) (d : S43) : Int × Int := ((s.1 + d.f0 + (s.2 + d.f1) / 18446744073709551616) % 18446744073709551616, (s.2 + d.f1) % 18446744073709551616)
def in2 (s : Int × Int) : Prop := 0 ≤ s.1 ∧ 0 ≤ s.2 ∧ s.2 < 18446744073709551616
theorem add2_in (s : Int × Int) (d : S43) : in2 (add2 s d) := by unfold in2 add2; simp only; omega
theorem add2_eq (s : Int × Int) (D : Int) (hs : in2 s) (hD : 0 ≤ D) : Ext.wide_Add.f s.1 s.2 (w2 D).f0 (w2 D).f1 = some (add2 s (w2 D)) := by
  obtain ⟨h0, h1, h2⟩ := hs
  unfold w2
  rw [add_eq s.1 s.2 _ _ h0 h1 (by simp only; omega) (by simp only; omega) h2 (by simp only; omega)]
  rfl
/-- The sum of the first i legs. -/
def sumTo (l : List S24) : Nat → Int × Int
  | 0 => (0, 0)
  | i + 1 => add2 (sumTo l i) (leg l i)
theorem sumTo_in (l : List S24) (i : Nat) : in2 (sumTo l i) := by
  cases i with
  | zero => unfold in2 sumTo; simp
  | succ i => exact add2_in _ _
theorem rd_legs (l : List S24) (n i : Nat) (h : i < n) : rd_T43 (legsTo l n) (i : Int) = leg l i := by
  unfold rd_T43 legsTo
  simp [h]
theorem length_loop (l : List S24) (hl : ∀ p ∈ l, ok p) (hn : l.length < 4398046511104) (n : Nat) (hnl : n ≤ l.length) (d : Nat) : ∀ (k i : Nat), n - i = d → i ≤ n →
    track_Length.l0 (d + k + 1) (legsTo l n) n i (sumTo l i).1 (sumTo l i).2 = some (sumTo l n) := by
  induction d with
  | zero =>
    intro k i h1 h2
    obtain rfl : i = n := by omega
    simp only [track_Length.l0]
    rw [if_neg (by omega)]
  | succ d ih =>
    intro k i h1 h2
    have hlen : (legsTo l n).length = n := by simp [legsTo]
    rw [show d + 1 + k + 1 = (d + k + 1) + 1 by omega]
    simp only [track_Length.l0]
    rw [if_pos (by omega), if_pos (by omega), if_pos (by rw [hlen]; omega), rd_legs l n i (by omega), w64_in ((i : Int) + 1) (by omega) (by omega)]
    rw [show leg l i = w2 (dd (l.getD i z24) (l.getD (i + 1) z24)) from rfl, add2_eq _ _ (sumTo_in l i) (dd_bound _ _ (getD_ok l hl _) (getD_ok l hl _)).1]
    simp only [Option.bind_some]
    exact ih k (i + 1) (by omega) (by omega)
theorem length_eq (k : Nat) (l : List S24) (hl : ∀ p ∈ l, ok p) (hn : l.length < 4398046511104) : track_Length.f (l.length + k + 4) l = some (sumTo l (l.length - 1)) := by
  unfold track_Length.f
  rw [legs_eq k l hl hn]
  simp only [Option.bind_some]
  have := length_loop l hl hn (l.length - 1) (by omega) (l.length - 1) (l.length + k + 3 - (l.length - 1)) 0 (by omega) (by omega)
  rw [show l.length - 1 + (l.length + k + 3 - (l.length - 1)) + 1 = l.length + k + 4 by omega] at this
  rw [← this, show ((legsTo l (l.length - 1)).length : Int) = ((l.length - 1 : Nat) : Int) by simp [legsTo]]
  rfl
theorem alive46 (k : Nat) : croftlaw46_alive.f (k + 10) = some true := by
  unfold croftlaw46_alive.f
  have hl : ∀ p ∈ [(⟨0, 0, 0, (⟨#[]⟩ : ByteArray)⟩ : S24), (⟨0, 3, 0, (⟨#[]⟩ : ByteArray)⟩ : S24), (⟨0, 5, 0, (⟨#[]⟩ : ByteArray)⟩ : S24)], ok p := by
    intro p hp
    simp at hp
    rcases hp with rfl | rfl | rfl <;> simp [ok]
  have e1 := legs_eq (k + 3) _ hl (by simp)
  have e2 := length_eq (k + 3) _ hl (by simp)
  have e3 := straight_eq k _ hl (by simp)
  simp only [List.length_cons, List.length_nil, Nat.zero_add, Nat.reduceAdd, Nat.reduceMul, Nat.reduceSub] at e1 e2 e3
  rw [show 3 + (k + 3) + 4 = k + 10 by omega] at e1 e2
  rw [show 6 + k + 4 = k + 10 by omega] at e3
  simp only [Option.bind_some, e1, e2, e3]
  decide
theorem points_loop (l : List S24) (hn : l.length < 4398046511104) (d : Nat) : ∀ (k i : Nat), l.length - i = d → i ≤ l.length → croftplain_Points.l0 (d + k + 1) l l i = some true := by
  induction d with
  | zero =>
    intro k i h1 h2
    simp only [croftplain_Points.l0]
    rw [if_neg (by omega)]
  | succ d ih =>
    intro k i h1 h2
    rw [show d + 1 + k + 1 = (d + k + 1) + 1 by omega]
    simp only [croftplain_Points.l0]
    rw [if_pos (by omega), if_pos (by omega), if_pos (by omega), if_neg (by simp), w64_in ((i : Int) + 1) (by omega) (by omega)]
    exact ih k (i + 1) (by omega) (by omega)
theorem points_eq (k : Nat) (l : List S24) (hn : l.length < 4398046511104) : croftplain_Points.f (l.length + k + 1) l l = some true := by
  unfold croftplain_Points.f
  rw [if_pos rfl]
  exact points_loop l hn l.length k 0 (by omega) (by omega)
end Go.Proofs.Ytgepbfcaimejmaa.TrackA
