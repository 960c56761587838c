/-
  pairs.Joined, walked by hand: which groups it answers.
  Conditions: none but that the slice can be read and the coordinates are of Go's uint32 (else the plain function answers none, and nothing is said).
-/
import Derived.Test.YtgepbfcaimejmaaJoinP
import Derived.Maps.OwnOps
import Derived.Maps.Views
namespace Go.Proofs.Ytgepbfcaimejmaa.PP
open Go.RowKit Go.Maps Go.Proofs.YtgepbfcaimejmaaW.PrintWords Go.Proofs.YtgepbfcaimejmaaW.PrintLast Go.Proofs.YtgepbfcaimejmaaW.PrintMore
set_option linter.unusedVariables false
set_option linter.unusedSimpArgs false
namespace Join

def upTo (n : Nat) : List Int := (List.range n).map (fun i : Nat => (i : Int))
theorem upTo_length (n : Nat) : (upTo n).length = n := by simp [upTo]
theorem upTo_succ (n : Nat) : upTo (n + 1) = upTo n ++ [(n : Int)] := by simp [upTo, List.range_succ]
theorem upTo_inv (n : Nat) : inv (upTo n) := by
  intro i hi
  rw [upTo_length] at hi
  simp [upTo, hi]

theorem half_next (up : List Int) (h : inv up) (i : Nat) (hi : i < up.length) : ((half up i).getD i 0).toNat ≤ i := by
  have := half_inv up h i hi i (by rw [half_length]; exact hi)
  omega
theorem top_le (f : Nat) : ∀ (up : List Int) (i : Nat), inv up → i < up.length → (top f up i).2 ≤ i ∧ inv (top f up i).1 := by
  induction f with
  | zero => intro up i h hi; exact ⟨Nat.le_refl _, h⟩
  | succ f ih =>
    intro up i h hi
    simp only [top]
    split
    · exact ⟨Nat.le_refl _, h⟩
    · have hn := half_next up h i hi
      have h2 := ih (half up i) ((half up i).getD i 0).toNat (half_inv up h i hi) (by rw [half_length]; omega)
      exact ⟨Nat.le_trans h2.1 hn, h2.2⟩
theorem join_inv (up : List Int) (a b : Nat) (h : inv up) (ha : a < up.length) (hb : b < up.length) : inv (join up a b) := by
  have h1 := top_le (a + 1) up a h ha
  have h2 := top_le (b + 1) (top (a + 1) up a).1 b h1.2 (by rw [top_length]; exact hb)
  unfold join
  exact set_inv _ h2.2 _ _ (by omega)
theorem getD_app (a : List Nat) (x t : Nat) : (a ++ [x]).getD t 0 = if t < a.length then a.getD t 0 else if t = a.length then x else 0 := by
  rw [List.getD_eq_getElem?_getD, List.getD_eq_getElem?_getD, List.getElem?_append]
  by_cases h : t < a.length
  · rw [if_pos h, if_pos h]
  · rw [if_neg h, if_neg h]
    by_cases h2 : t = a.length
    · subst h2; simp
    · rw [if_neg h2, List.getElem?_eq_none (by simp; omega)]; rfl
/-- The joiner's list, whether it has a block or not. -/
def UpV (w : World) (base j : Nat) (v : Value) (xs : List Int) : Prop :=
  w.heap[j]? = some (.cells #[v] 66 (0, 0)) ∧ (Kd.int .i64).R 3 w base (fun _ => True) v xs
theorem UpV_ne {w : World} {base j : Nat} {v : Value} {xs : List Int} (h : UpV w base j v xs) : some j ≠ v.ownBlock := by
  intro e
  obtain ⟨cells, hc⟩ := Kd.R_typed h.2 j e.symm
  rw [h.1] at hc
  cases hc
/-- Behind the append, and behind the store of what it answered. -/
theorem UpV_next {w w1 : World} {base j : Nat} {v v1 : Value} {xs ys : List Int} (h : UpV w base j v xs) (hr : (Kd.int .i64).R 3 w1 base (fun _ => True) v1 ys) (hg : w.grownBy w1 v.ownBlock) :
    w1.heap[j]? = some (.cells #[v] 66 (0, 0)) ∧ UpV (w1.setCell ⟨j, 0, none⟩ v1) base j v1 ys := by
  have hj : w1.heap[j]? = some (.cells #[v] 66 (0, 0)) := (hg.block j (blk_lt h.1) (UpV_ne h)).trans h.1
  exact ⟨hj, blk_put hj 0 v1 rfl, Kd.R_set hr hj (by decide) 0 v1⟩
section
variable (hi lo : Int) (l : List S24)
/-- Are two places near enough? -/
def near (p q : S24) : Option Bool := (pairs_far.f 3 p.f0 p.f1 p.f2 p.f3 q.f0 q.f1 q.f2 q.f3).bind fun r => (wide_Cmp.f 3 r.1 r.2 hi lo).bind fun t => some (decide (t ≤ 0))
def stepJ (i : Nat) (u : List Int) (k : Nat) : List Int := if near hi lo (l.getD i z24) (l.getD k z24) = some true then join u i k else u
def rowJ (i : Nat) (u : List Int) : Nat → List Int
  | 0 => u
  | m + 1 => stepJ hi lo l i (rowJ i u m) m
def allJ : Nat → List Int
  | 0 => upTo l.length
  | m + 1 => rowJ hi lo l m (allJ m) m
/-- The groups: the joiner's list, where each first one's group lies, the groups, behind i places. -/
def gJ : Nat → List Int × List Nat × List (List Int)
  | 0 => (allJ hi lo l l.length, [], [])
  | i + 1 => ((top (i + 1) (gJ i).1 i).1,
      (gJ i).2.1 ++ [if (top (i + 1) (gJ i).1 i).2 = i then (gJ i).2.2.length else 0],
      (if (top (i + 1) (gJ i).1 i).2 = i then (gJ i).2.2 ++ [[]] else (gJ i).2.2).set
        (((gJ i).2.1 ++ [if (top (i + 1) (gJ i).1 i).2 = i then (gJ i).2.2.length else 0]).getD (top (i + 1) (gJ i).1 i).2 0)
        ((if (top (i + 1) (gJ i).1 i).2 = i then (gJ i).2.2 ++ [[]] else (gJ i).2.2).getD (((gJ i).2.1 ++ [if (top (i + 1) (gJ i).1 i).2 = i then (gJ i).2.2.length else 0]).getD (top (i + 1) (gJ i).1 i).2 0) [] ++ [(i : Int)]))
theorem rowJ_inv (i : Nat) (hil : i < l.length) (u : List Int) (hu : inv u) (hl : u.length = l.length) (m : Nat) (hm : m ≤ i) : inv (rowJ hi lo l i u m) ∧ (rowJ hi lo l i u m).length = l.length := by
  induction m with
  | zero => exact ⟨hu, hl⟩
  | succ m ih =>
    have ih := ih (by omega)
    simp only [rowJ, stepJ]
    split
    · exact ⟨join_inv _ i m ih.1 (by omega) (by omega), by rw [join_length]; exact ih.2⟩
    · exact ih
theorem allJ_inv (m : Nat) (hm : m ≤ l.length) : inv (allJ hi lo l m) ∧ (allJ hi lo l m).length = l.length := by
  induction m with
  | zero => exact ⟨upTo_inv _, upTo_length _⟩
  | succ m ih =>
    have ih := ih (by omega)
    exact rowJ_inv hi lo l m (by omega) _ ih.1 ih.2 m (Nat.le_refl _)
theorem gJ_inv (i : Nat) (hil : i ≤ l.length) : inv (gJ hi lo l i).1 ∧ (gJ hi lo l i).1.length = l.length ∧ (gJ hi lo l i).2.1.length = i ∧ (∀ t, t < i → (gJ hi lo l i).2.1.getD t 0 < (gJ hi lo l i).2.2.length) ∧ (gJ hi lo l i).2.2.length ≤ i := by
  induction i with
  | zero =>
    have := allJ_inv hi lo l l.length (Nat.le_refl _)
    exact ⟨this.1, this.2, rfl, fun t ht => by omega, Nat.le_refl _⟩
  | succ i ih =>
    obtain ⟨h1, h2, h3, h4, h5⟩ := ih (by omega)
    simp only [gJ]
    obtain ⟨s, hs⟩ : ∃ s, gJ hi lo l i = s := ⟨_, rfl⟩
    rw [hs] at h1 h2 h3 h4 h5 ⊢
    obtain ⟨u, a, o⟩ := s
    simp only at h1 h2 h3 h4 h5 ⊢
    have ht := top_le (i + 1) u i h1 (by omega)
    refine ⟨ht.2, by rw [top_length]; exact h2, by simp [h3], ?_, ?_⟩
    · intro t htl
      rw [List.length_set]
      by_cases e : (top (i + 1) u i).2 = i
      · simp only [e, if_true, List.length_append, List.length_singleton]
        by_cases e2 : t < i
        · have : (a ++ [o.length]).getD t 0 = a.getD t 0 := by rw [getD_app, if_pos (by omega)]
          rw [this]
          have := h4 t e2
          omega
        · have : (a ++ [o.length]).getD t 0 = o.length := by
            rw [getD_app, if_neg (by omega), if_pos (by omega)]
          omega
      · simp only [e, if_false]
        have h40 := h4 0 (by omega)
        by_cases e2 : t < i
        · have : (a ++ [0]).getD t 0 = a.getD t 0 := by rw [getD_app, if_pos (by omega)]
          rw [this]
          exact h4 t e2
        · have : (a ++ [0]).getD t 0 = 0 := by
            rw [getD_app, if_neg (by omega), if_pos (by omega)]
          omega
    · rw [List.length_set]
      split
      · simp; omega
      · omega
end
theorem UpAt_below {w w1 : World} {base j b n c : Nat} {xs : List Int} (h : UpAt w base j b n c xs) (hb : Below w.heap.size w w1) : UpAt w1 base j b n c xs := ⟨blk_below h.1 hb, Kd.R_below h.2 hb⟩
theorem UpAt_alloc {w : World} {base j b n c : Nat} {xs : List Int} (h : UpAt w base j b n c xs) (o : Obj) : UpAt (w.alloc o) base j b n c xs := ⟨blk_alloc h.1 o, Kd.R_alloc h.2 o⟩
/-- The map of the groups' places. -/
def AtMap (w : World) (B m : Nat) (a : List Nat) : Prop :=
  ∃ D : DataW Unit, w.ownsMap Try.prog 3 (plainElem Try.prog 3) B m D ∧ IsMap D ∧ ∀ t : Nat, D.atKey (.int .i64 t) (.lit (.int .i64 0)) = .lit (.int .i64 (a.getD t 0 : Nat))
theorem law3 : Keyed Try.prog 3 := int_keyed Try.underlying3
theorem zero3 (w : World) : (zeroValue 3).run Try.prog w = .ok (.int .i64 0) w := by kernel_rfl
theorem AtMap_made (w : World) : AtMap (w.alloc (.map #[] 0)) w.heap.size 0 [] :=
  ⟨.map [], World.ownsMap_made _ _ _ _, isMap_empty, fun t => by simp [DataW.atKey]⟩
theorem AtMap_grown {w w1 : World} {B m : Nat} {a : List Nat} (h : AtMap w B m a) {row : Option Nat} (hg : w.grownBy w1 row) (hne : some B ≠ row) : AtMap w1 B m a := by
  obtain ⟨D, h1, h2, h3⟩ := h
  exact ⟨D, h1.kept hg hne, h2, h3⟩
theorem AtMap_alloc {w : World} {B m : Nat} {a : List Nat} (h : AtMap w B m a) (o : Obj) : AtMap (w.alloc o) B m a := AtMap_grown h (World.grownBy_alloc w o none) (by simp)
theorem AtMap_drew {w : World} {B m : Nat} {a : List Nat} (h : AtMap w B m a) : AtMap w.drew B m a := h
theorem AtMap_blk {w : World} {B m : Nat} {a : List Nat} (h : AtMap w B m a) : ∃ es clock, w.heap[B]? = some (.map es clock) := by
  obtain ⟨D, ⟨es, clock, hb, _⟩, _⟩ := h
  exact ⟨es, clock, hb⟩
theorem wf_nat (n : Nat) (h : n ≤ 9223372036854775807) : (Lit.int .i64 (n : Int)).wf = true := WalkArith.wf_i64 (by omega)
theorem AtMap_look {w : World} {B m : Nat} {a : List Nat} (h : AtMap w B m a) (t : Nat) (ht : t ≤ 9223372036854775807) : (Instr.lookup 68 (.map (some B)) (.int .i64 t) false).run Try.prog w = .ok (.int .i64 (a.getD t 0 : Nat)) w := by
  obtain ⟨D, h1, h2, h3⟩ := h
  obtain ⟨c, hrun, hat, _⟩ := h1.lookup_int law3 Try.underlying68 Try.underlying3 (zero3 w) (keyOf_int_mk Try.underlying3 (wf_nat t ht))
  rw [hrun]
  rw [h3 t] at hat
  simp only [DataW.lit.injEq, Lit.int.injEq, true_and] at hat
  rw [hat]
theorem AtMap_pad {w : World} {B m : Nat} {a : List Nat} (h : AtMap w B m a) : AtMap w B (m + 1) (a ++ [0]) := by
  obtain ⟨D, h1, h2, h3⟩ := h
  refine ⟨D, h1.mono (by omega), h2, fun t => ?_⟩
  rw [h3 t]
  congr 3
  rw [getD_app]
  split
  · rfl
  · rename_i e
    rw [List.getD_eq_getElem?_getD, List.getElem?_eq_none (by omega)]
    split <;> rfl
theorem UpAt_other {w : World} {base j b n c : Nat} {xs : List Int} (h : UpAt w base j b n c xs) {g t : Nat} {cs : Array Value} (hg : w.heap[g]? = some (.cells cs t (0, 0))) (ht : t ≠ 3) : g ≠ b := by
  rintro rfl
  obtain ⟨cells, hc⟩ := Kd.R_typed h.2 g rfl
  rw [hg] at hc
  cases hc
  exact ht rfl
theorem blk_grown {w w1 : World} {g t b : Nat} {cs : Array Value} (h : w.heap[g]? = some (.cells cs t (0, 0))) (hg : w.grownBy w1 (some b)) (hne : g ≠ b) : w1.heap[g]? = some (.cells cs t (0, 0)) :=
  (hg.block g (blk_lt h) (by simpa using hne)).trans h
theorem UpAt_row {w w1 : World} {base j b n c : Nat} {xs : List Int} (h : UpAt w base j b n c xs) {row : Option Nat} (hg : w.grownBy w1 row) (h1 : some j ≠ row) (h2 : some b ≠ row) : UpAt w1 base j b n c xs :=
  ⟨(hg.block j (blk_lt h.1) h1).trans h.1, Kd.R_grown1 h.2 rfl hg (fun e => h2 e.symm)⟩
theorem AtMap_put {w : World} {B m x : Nat} {a : List Nat} {D : DataW Unit} (h1 : w.ownsMap Try.prog 3 (plainElem Try.prog 3) B m (D.put (.int .i64 a.length) (.lit (.int .i64 (x : Nat))))) (h2 : IsMap D)
    (h3 : ∀ t : Nat, D.atKey (.int .i64 t) (.lit (.int .i64 0)) = .lit (.int .i64 (a.getD t 0 : Nat))) : AtMap w B m (a ++ [x]) := by
  refine ⟨_, h1, h2.put _ _, fun t => ?_⟩
  rw [getD_app]
  by_cases e : t = a.length
  · subst e
    rw [atKey_put_same h2 (show WideAt.IsKeyLit (.int .i64 (a.length : Int)) from trivial), if_neg (by omega), if_pos rfl]
  · rw [atKey_put_other (by intro e2; cases e2; exact e rfl), h3 t]
    split
    · rfl
    · rename_i hh
      rw [List.getD_eq_getElem?_getD, List.getElem?_eq_none (by omega)]
      rfl
theorem AtMap_ne_cells {w : World} {B m : Nat} {a : List Nat} (h : AtMap w B m a) {g t : Nat} {cs : Array Value} (hg : w.heap[g]? = some (.cells cs t (0, 0))) : g ≠ B := by
  rintro rfl
  obtain ⟨es, cl, hb⟩ := AtMap_blk h
  rw [hb] at hg
  cases hg
theorem own_ok_ {α : Type} {d : Kd α} {e : Nat} {w : World} {base : Nat} {ok : Nat → Prop} {v : Value} {xs : List α} (h : Kd.S d e w base ok v xs) {k : Nat} (hk : some k = v.ownBlock) : ok k := (Kd.S_R h).1 k hk.symm
theorem getD_nil (o : List (List Int)) (q : Nat) : (o ++ [[]]).getD q [] = o.getD q [] := by
  rw [List.getD_eq_getElem?_getD, List.getD_eq_getElem?_getD, List.getElem?_append]
  by_cases h : q < o.length
  · rw [if_pos h]
  · rw [if_neg h, List.getElem?_eq_none (by omega : o.length ≤ q)]
    by_cases h2 : q = o.length
    · subst h2; simp
    · rw [List.getElem?_eq_none (by simp; omega)]
theorem getD_set (o : List (List Int)) (k : Nat) (x : List Int) (q : Nat) : (o.set k x).getD q [] = if q = k ∧ k < o.length then x else o.getD q [] := by
  rw [List.getD_eq_getElem?_getD, List.getD_eq_getElem?_getD, List.getElem?_set]
  by_cases h : k = q
  · subst h
    by_cases h2 : k < o.length
    · simp [h2]
    · simp [h2]
  · rw [if_neg h, if_neg (fun e => h e.1.symm)]
theorem gJ_len (hi lo : Int) (l : List S24) (i : Nat) : ∀ q, ((gJ hi lo l i).2.2.getD q []).length ≤ i := by
  induction i with
  | zero => intro q; simp [gJ]
  | succ i ih =>
    intro q
    simp only [gJ]
    obtain ⟨s, hs⟩ : ∃ s, gJ hi lo l i = s := ⟨_, rfl⟩
    rw [hs] at ih ⊢
    obtain ⟨u, a, o⟩ := s
    simp only at ih ⊢
    have h2 : ∀ q, ((if (top (i + 1) u i).2 = i then o ++ [[]] else o).getD q []).length ≤ i := by
      intro q
      split
      · rw [getD_nil]; exact ih q
      · exact ih q
    generalize (if (top (i + 1) u i).2 = i then o ++ [[]] else o) = O at h2 ⊢
    generalize (a ++ [if (top (i + 1) u i).2 = i then o.length else 0]).getD (top (i + 1) u i).2 0 = K
    rw [getD_set]
    have h3 := h2 K
    have h4 := h2 q
    split
    · rw [List.length_append, List.length_singleton]
      omega
    · omega
/-- One group of the groups, lent. -/
theorem elem_open {w : World} {base go n cap : Nat} {ok : Nat → Prop} {o : List (List Int)} (h : Kd.S (Kd.slice 3 (Kd.int .i64)) 32 w base ok (.slice (some ⟨go, 0, none⟩) n cap) o) (k : Nat) (hk : k < n) :
    ∃ (A0 : Option Addr) (c0 : Nat) (oki : Nat → Prop), w.cell? ⟨go, k, none⟩ = some (.slice A0 (o.getD k []).length c0) ∧ (∀ q, oki q → ok q ∧ q ≠ go) ∧
      (Kd.int .i64).R 3 w base oki (.slice A0 (o.getD k []).length c0) (o.getD k []) ∧ Kd.H (Kd.slice 3 (Kd.int .i64)) 32 w base ok (.slice (some ⟨go, 0, none⟩) n cap) o (k : Int) oki [.slice A0 (o.getD k []).length c0] := by
  obtain ⟨oki, ce, _, hM, hcc, _, hoki, hH⟩ := Kd.S_elem h [] (k : Int) (by omega) (by omega)
  rw [Int.toNat_natCast] at hM hcc
  obtain ⟨ve, rfl, ge⟩ := hM
  obtain ⟨A0, c0, rfl⟩ := Kd.R_slice ge
  have hv := hcc 0 _ rfl
  rw [show (Kd.slice 3 (Kd.int .i64)).sz = 1 from rfl, Nat.mul_one, Nat.add_zero] at hv
  exact ⟨A0, c0, oki, hv, hoki, ge, hH⟩
/-- .. and given back. -/
theorem elem_shut {w : World} {base go n cap : Nat} {ok oki : Nat → Prop} {o : List (List Int)} {k : Nat} {u : Value} (h : Kd.H (Kd.slice 3 (Kd.int .i64)) 32 w base ok (.slice (some ⟨go, 0, none⟩) n cap) o (k : Int) oki [u]) (hk : k < n) {v1 : Value} {ys : List Int}
    (hr : (Kd.int .i64).R 3 w base oki v1 ys) : w.cell? ⟨go, k, none⟩ = some u ∧ w.frozen? ⟨go, k, none⟩ = false ∧
      Kd.S (Kd.slice 3 (Kd.int .i64)) 32 (w.setCell ⟨go, k, none⟩ v1) base ok (.slice (some ⟨go, 0, none⟩) n cap) (o.set k ys) ∧ w.grownBy (w.setCell ⟨go, k, none⟩ v1) (some go) := by
  obtain ⟨hcc, hfr⟩ := Kd.H_at h (by omega) (by omega)
  have h1 := hcc 0 _ rfl
  have h2 := hfr 0
  rw [Int.toNat_natCast, show (Kd.slice 3 (Kd.int .i64)).sz = 1 from rfl, Nat.mul_one, Nat.add_zero] at h1 h2
  have h3 := Kd.S_seg0 h (by omega) (by omega) (seg := [v1]) (j := 0) (show 1 ≤ 1 from by decide) (x' := ys) (Kd.M_row hr) (fun _ hk => hk)
  rw [Int.toNat_natCast, show (Kd.slice 3 (Kd.int .i64)).sz = 1 from rfl, Nat.mul_one, Nat.add_zero] at h3
  exact ⟨h1, h2, h3.1, h3.2⟩
/-- A point's cells. -/
abbrev pc (p : S24) : Array Value := #[.int .i64 p.f0, .int .u32 p.f1, .int .u32 p.f2, .string p.f3]
theorem info3_ : (Try.prog.info? 3).map (fun i => (i.zero, i.size, i.bytes)) = some (some (.int .i64 0), 1, 8) := by kernel_rfl

set_option maxRecDepth 100000 in
set_option maxHeartbeats 4000000 in
theorem joined_calls (A : Option Addr) (c : Nat) (l : List S24) (hi lo : Int) (w : World) (hr : Kd.C k24 w A l.length l) (hc : l.length ≤ c) (hcap : l.length < 1000000) (hnear : ∀ i k, i < l.length → k < l.length → (near hi lo (l.getD i z24) (l.getD k z24)).isSome = true) :
    Calls Try.prog 25 #[.slice A l.length c, .agg #[.int .u64 hi, .int .u64 lo]] w fun e w' => ∃ v, e = .returned v ∧ Kd.S (Kd.slice 3 (Kd.int .i64)) 32 w' w.heap.size (fun _ => True) v (gJ hi lo l l.length).2.2 ∧ Below w.heap.size w w' := by
  have hu24 := Try.underlying24
  have hu43 := Try.underlying43
  have HR := Aside0.mk hr
  have HC := Aside0.mk hc
  have HNR := Aside0.mk hnear
  clear hr hc hnear
  have hmm := @run_makeMap Try.prog
  go_enter Try.func25, Try.ntmps25
  go_wp2
  have BD := Aside0.mk (blk_alloc (blk_new w (.cells #[.int .u64 hi, .int .u64 lo] 43)) (.cells #[.slice none 0 0] 66))
  have BJ := Aside0.mk (show ((w.alloc (.cells #[.int .u64 hi, .int .u64 lo] 43)).alloc (.cells #[.slice none 0 0] 66)).heap[w.heap.size + 1]? = some (.cells #[.slice none 0 0] 66 (0, 0)) from by
    have := blk_new (w.alloc (.cells #[.int .u64 hi, .int .u64 lo] 43)) (.cells #[.slice none 0 0] 66)
    simpa using this)
  have HB := Aside0.mk (below_alloc (below_alloc (Below.refl w.heap.size w) (.cells #[.int .u64 hi, .int .u64 lo] 43)) (.cells #[.slice none 0 0] 66))
  obtain ⟨gd, hgd⟩ : ∃ gd, gd = w.heap.size := ⟨_, rfl⟩
  obtain ⟨gj, hgj⟩ : ∃ gj, gj = w.heap.size + 1 := ⟨_, rfl⟩
  rw [← hgj] at BJ ⊢
  have HGD := Aside0.mk (show w.heap.size ≤ gd ∧ w.heap.size ≤ gj ∧ gd ≠ gj by omega)
  have HGE := Aside0.mk hgd
  have BD := Aside0.mk (show ((w.alloc (.cells #[.int .u64 hi, .int .u64 lo] 43)).alloc (.cells #[.slice none 0 0] 66)).heap[gd]? = some (.cells #[.int .u64 hi, .int .u64 lo] 43 (0, 0)) from by rw [hgd]; exact BD.out)
  have BU := Aside0.mk (show UpV ((w.alloc (.cells #[.int .u64 hi, .int .u64 lo] 43)).alloc (.cells #[.slice none 0 0] 66)) w.heap.size gj (.slice none 0 0) [] from ⟨BJ.out, Kd.R_nil _ _ _ _ _⟩)
  clear BJ
  clear hgj hgd
  go_loopg [19] l.length (fun kq v19 w' => ∃ (m : Nat) (v : Value), v19 = .int .i64 m ∧ m ≤ l.length ∧ l.length ≤ kq + m ∧ Aside0 (UpV w' w.heap.size gj v (upTo m)) ∧ Aside0 (w'.heap[gd]? = some (.cells #[.int .u64 hi, .int .u64 lo] 43 (0, 0))) ∧ Aside0 (Below w.heap.size w w'))
  case atStart => exact ⟨0, .slice none 0 0, rfl, by omega, by omega, BU, BD, HB⟩
  case round =>
    clear BU BD HB
    obtain ⟨m, v, rfl, hm, hk, BU, BD, HB⟩ := hrel
    by_cases hlt : m < l.length
    · have hcj : wr.cell? ⟨gj, 0, none⟩ = some v := (blk_cell BU.out.1 0).trans rfl
      go_wp2_with (first | (at_builtin; refine Kd.R_append (Kd.int .i64) (w0 := w) w.heap.size rfl (.tmp 26) (.tmp 28) 32 3 (.int .i64 0) 8 rfl Try.underlying32 info3_ rfl (by decide) (by omega) v (upTo m) (m : Int) [.int .i64 m] (fun _ => True) (fun _ => False) rfl rfl ?aP (fun _ hk => hk.elim) ?aF ?aO ?aB ?aS ?aL ?_; (case aP => exact rfl); (case aB => exact HB.out); (case aF => exact (fun _ _ => trivial)); (case aO => exact BU.out.2); (case aS => exact (by have := HB.out.size; simp; omega)); (case aL => rw [upTo_length]; omega); intro v1 w1 ho1 hb1 hg1 hat1; rw [← upTo_succ] at ho1; obtain ⟨A1, c1, rfl⟩ := Kd.R_slice ho1; have HN0 := UpV_next BU.out ho1 hg1; have hcj1 : w1.cell? ⟨gj, 0, none⟩ = some v := (blk_cell HN0.1 0).trans rfl; have hfj1 := blk_frozen HN0.1 0; have HN := Aside0.mk HN0; clear HN0; have HG1 := Aside0.mk hg1; have HB1 := Aside0.mk hb1; have BD1 := Aside0.mk ((hg1.block gd (blk_lt BD.out) (by intro e; obtain ⟨cells, hc⟩ := Kd.R_typed BU.out.2 gd e.symm; rw [BD.out] at hc; cases hc)).trans BD.out); clear ho1 hb1 hg1 hat1))
      go_roundg (gk - 1)
      case measure => omega
      case rel =>
        exact ⟨m + 1, _, rfl, by omega, by omega, ⟨HN.out.2⟩, ⟨blk_far BD1.out HGD.out.2.2 _⟩, ⟨below_set HB1.out HGD.out.2.1⟩⟩
    · obtain rfl : m = l.length := by omega
      by_cases hn0 : l.length = 0
      · have h0 : (l.length : Int) = 0 := by omega
        have HZ := Aside0.mk (show (gJ hi lo l l.length).2.2 = [] from by rw [hn0]; rfl)
        clear hm hk hlt hn0
        go_wp2
        refine wp_loop_once ?_
        go_wp2
        refine wp_loop_once ?_
        go_wp2
        go_ret
        refine ⟨_, rfl, ?_, below_alloc HB.out _⟩
        rw [HZ.out]
        exact Kd.S_nil _ _ _ _ _
      · obtain ⟨b, cb, rfl, hb1, hb2, hb3⟩ := Kd.R_form BU.out.2 (by rw [upTo_length]; omega)
        rw [upTo_length] at BU
        have BU := Aside0.mk (show UpAt wr w.heap.size gj b l.length cb (allJ hi lo l 0) from BU.out)
        have HV := Aside0.mk (show inv (allJ hi lo l 0) from upTo_inv _)
        have HGB := Aside0.mk (show w.heap.size ≤ b from hb1)
        clear hb1 hb2 hb3
        go_wp2
        go_loopg [35] l.length (fun kq v35 w' => ∃ (m : Nat), v35 = .int .i64 m ∧ m ≤ l.length ∧ l.length ≤ kq + m ∧ Aside0 (inv (allJ hi lo l m)) ∧ Aside0 (UpAt w' w.heap.size gj b l.length cb (allJ hi lo l m)) ∧ Aside0 (w'.heap[gd]? = some (.cells #[.int .u64 hi, .int .u64 lo] 43 (0, 0))) ∧ Aside0 (Below w.heap.size w w'))
        case atStart => exact ⟨0, rfl, by omega, by omega, HV, BU, BD, HB⟩
        case round =>
          clear HV BU BD HB
          obtain ⟨m, rfl, hm, hk, HV, BU, BD, HB⟩ := hrel
          by_cases hlt : m < l.length
          · have hlt' : (m : Int) < (l.length : Int) := by omega
            obtain ⟨ad, ead, hx0, hx1, hx2, hx3⟩ := at_T24 HR.out (m : Int) (by omega) hlt'
            cases ead
            rw [Int.toNat_natCast] at hx0 hx1 hx2 hx3
            obtain ⟨p, hp⟩ : ∃ p, rd_T24 l (m : Int) = p := ⟨_, rfl⟩
            rw [hp] at hx0 hx1 hx2 hx3
            have HP := Aside0.mk (show l.getD m z24 = p from hp)
            clear hp
            replace hx0 := (HB.out.cell (World.block_lt_of_cell? w _ hx0)).trans hx0
            replace hx1 := (HB.out.cell (World.block_lt_of_cell? w _ hx1)).trans hx1
            replace hx2 := (HB.out.cell (World.block_lt_of_cell? w _ hx2)).trans hx2
            replace hx3 := (HB.out.cell (World.block_lt_of_cell? w _ hx3)).trans hx3
            obtain ⟨i0, hi0, _, hsz0, _⟩ := info_parts info24
            have hcut := cut_to (P := Try.prog) 27 24 .i64 Try.underlying27 hi0 (some ad) l.length c m (by omega) (by omega) HC.out
            rw [Int.toNat_natCast] at hcut
            clear hi0 hsz0
            go_wp2
            obtain ⟨gp, hgp⟩ : ∃ gp, wr.heap.size = gp := ⟨_, rfl⟩
            have BP := blk_new wr (.cells (pc p) 24)
            rw [hgp] at BP ⊢
            have BU1 := Aside0.mk (UpAt_alloc BU.out (.cells (pc p) 24))
            have BD1 := Aside0.mk (blk_alloc BD.out (.cells (pc p) 24))
            have HB1 := Aside0.mk (below_alloc HB.out (.cells (pc p) 24))
            have HGP := Aside0.mk (show w.heap.size ≤ gp by have := HB.out.size; omega)
            have BP := Aside0.mk BP
            clear BU BD HB hgp hx0 hx1 hx2 hx3 hcut
            show Code.wp _ _ _ _ (wr.alloc (.cells (pc p) 24))
            generalize wr.alloc (.cells (pc p) 24) = wp at *
            go_loopg [44] m (fun kq v44 w' => ∃ (q : Nat), v44 = .int .i64 q ∧ q ≤ m ∧ m ≤ kq + q ∧ Aside0 (inv (rowJ hi lo l m (allJ hi lo l m) q)) ∧ Aside0 (UpAt w' w.heap.size gj b l.length cb (rowJ hi lo l m (allJ hi lo l m) q)) ∧ Aside0 (w'.heap[gd]? = some (.cells #[.int .u64 hi, .int .u64 lo] 43 (0, 0))) ∧ Aside0 (w'.heap[gp]? = some (.cells (pc p) 24 (0, 0))) ∧ Aside0 (Below w.heap.size w w'))
            case atStart => exact ⟨0, rfl, by omega, by omega, HV, BU1, BD1, BP, HB1⟩
            case round =>
              clear HV BU1 BD1 HB1 BP
              obtain ⟨q, rfl, hq, hk2, HV, BU, BD, BP, HB⟩ := hrel
              by_cases hlt2 : q < m
              · have hlt2' : (q : Int) < (m : Int) := by omega
                have hql : q < l.length := by omega
                obtain ⟨ad2, ead, hx0, hx1, hx2, hx3⟩ := at_T24 HR.out (q : Int) (by omega) (by omega)
                obtain rfl : ad = ad2 := (by injection ead)
                rw [Int.toNat_natCast] at hx0 hx1 hx2 hx3
                obtain ⟨r, hp⟩ : ∃ p, rd_T24 l (q : Int) = p := ⟨_, rfl⟩
                rw [hp] at hx0 hx1 hx2 hx3
                have HQ := Aside0.mk (show l.getD q z24 = r from hp)
                clear hp ead
                replace hx0 := (HB.out.cell (World.block_lt_of_cell? w _ hx0)).trans hx0
                replace hx1 := (HB.out.cell (World.block_lt_of_cell? w _ hx1)).trans hx1
                replace hx2 := (HB.out.cell (World.block_lt_of_cell? w _ hx2)).trans hx2
                replace hx3 := (HB.out.cell (World.block_lt_of_cell? w _ hx3)).trans hx3
                go_wp2
                obtain ⟨gq, hgq⟩ : ∃ gq, wr.heap.size = gq := ⟨_, rfl⟩
                have BQ := blk_new wr (.cells (pc r) 24)
                rw [hgq] at BQ ⊢
                have BU1 := Aside0.mk (UpAt_drew (UpAt_alloc BU.out (.cells (pc r) 24)))
                have BD1 := Aside0.mk (blk_drew (blk_alloc BD.out (.cells (pc r) 24)))
                have BP1 := Aside0.mk (blk_drew (blk_alloc BP.out (.cells (pc r) 24)))
                have HB1 := Aside0.mk (below_drew1 (below_alloc HB.out (.cells (pc r) 24)))
                have BQ := Aside0.mk (blk_drew BQ)
                clear BU BD BP HB hgq hx0 hx1 hx2 hx3
                have hsm := HNR.out m q hlt hql
                rw [HP.out, HQ.out] at hsm
                obtain ⟨bn, hbn⟩ := Option.isSome_iff_exists.1 hsm
                have HBN := Aside0.mk hbn
                unfold near at hbn
                obtain ⟨⟨t1, t2⟩, hfar, hbn⟩ := Option.bind_eq_some_iff.1 hbn
                obtain ⟨tc, hcmp, hbn⟩ := Option.bind_eq_some_iff.1 hbn
                have A1 := Aside0.mk hfar
                have A2 := Aside0.mk hcmp
                have HTC := Aside0.mk (Option.some.inj hbn)
                clear hfar hcmp hbn hsm
                refine start_ (n := 6) (S := fun w' => w'.cell? ⟨gp, 0, none⟩ = some (.int .i64 p.f0) ∧ w'.cell? ⟨gp, 1, none⟩ = some (.int .u32 p.f1) ∧ w'.cell? ⟨gp, 2, none⟩ = some (.int .u32 p.f2) ∧ w'.cell? ⟨gp, 3, none⟩ = some (.string p.f3) ∧ w'.cell? ⟨gq, 0, none⟩ = some (.int .i64 r.f0) ∧ w'.cell? ⟨gq, 1, none⟩ = some (.int .u32 r.f1) ∧ w'.cell? ⟨gq, 2, none⟩ = some (.int .u32 r.f2) ∧ w'.cell? ⟨gq, 3, none⟩ = some (.string r.f3) ∧ w'.cell? ⟨w.heap.size, 0, none⟩ = some (.int .u64 hi) ∧ w'.cell? ⟨w.heap.size, 1, none⟩ = some (.int .u64 lo)) (ds := []) #[false, false, false, false, false, false] (by kernel_rfl) rfl rfl ⟨(blk_cell BP1.out 0).trans rfl, (blk_cell BP1.out 1).trans rfl, (blk_cell BP1.out 2).trans rfl, (blk_cell BP1.out 3).trans rfl, (blk_cell BQ.out 0).trans rfl, (blk_cell BQ.out 1).trans rfl, (blk_cell BQ.out 2).trans rfl, (blk_cell BQ.out 3).trans rfl, (HGE.out ▸ (blk_cell BD1.out 0).trans rfl), (HGE.out ▸ (blk_cell BD1.out 1).trans rfl)⟩ (fun hHeld => ?_)
                show wpAnyLast _ _ _ _ _ _ _ _ _ ((wr.alloc (.cells (pc r) 24)).drew)
                generalize (wr.alloc (.cells (pc r) 24)).drew = wq at BU1 BD1 BP1 HB1 BQ hHeld ⊢
                refine take_ (i := 0) (N := some 49) (v := ?_) (a' := ?_) #[true, false, false, false, false, false] rfl rfl (by kernel_rfl) (fun _ _ _ h => h) (Or.inl ⟨by rfl, ?_⟩) hHeld ?_ ?_
                rotate_left
                · rintro w' ⟨s0, s1, s2, s3, s4, s5, s6, s7, s8, s9⟩
                  go_simp
                  with_reducible rfl
                rotate_left
                · simp only [Act.put, List.setIfInBounds_toArray, List.set_cons_zero, List.set_cons_succ, i64_w, i32_w]
                  rfl
                refine take_ (i := 1) (N := some 50) (v := ?_) (a' := ?_) #[true, true, false, false, false, false] rfl rfl (by kernel_rfl) (fun _ _ _ h => h) (Or.inl ⟨by rfl, ?_⟩) hHeld ?_ ?_
                rotate_left
                · rintro w' ⟨s0, s1, s2, s3, s4, s5, s6, s7, s8, s9⟩
                  go_simp
                  with_reducible rfl
                rotate_left
                · simp only [Act.put, List.setIfInBounds_toArray, List.set_cons_zero, List.set_cons_succ, i64_w, i32_w]
                  rfl
                refine take_ (i := 3) (N := some 52) (v := ?_) (a' := ?_) #[true, true, false, true, false, false] rfl rfl (by kernel_rfl) (fun _ _ _ h => h) (Or.inl ⟨by rfl, ?_⟩) hHeld ?_ ?_
                rotate_left
                · rintro w' ⟨s0, s1, s2, s3, s4, s5, s6, s7, s8, s9⟩
                  go_simp
                  with_reducible rfl
                rotate_left
                · simp only [Act.put, List.setIfInBounds_toArray, List.set_cons_zero, List.set_cons_succ, i64_w, i32_w]
                  rfl
                refine one_ (i := 2) (N := some 51) #[true, true, true, true, false, false] rfl rfl (by kernel_rfl) (by decide) (fun K hK => ?_)
                refine goes_ Try.func43 (by kernel_rfl) rfl #[.agg (pc p), .agg (pc r)] (by rfl) rfl rfl (by (try simp only [List.map_toArray, List.map_cons, List.map_nil]); first | done | rfl) ?_
                with_reducible refine (pairs_far.calls 3 p.f0 p.f1 p.f2 p.f3 r.f0 r.f1 r.f2 r.f3 t1 t2 _ A1.out).mono ?_
                rintro e wf ⟨rfl, hb⟩
                refine ⟨_, rfl, ?_⟩
                have BU := Aside0.mk (UpAt_below BU1.out hb)
                have BD := Aside0.mk (blk_below BD1.out hb)
                have BP := Aside0.mk (blk_below BP1.out hb)
                have BQ2 := Aside0.mk (blk_below BQ.out hb)
                have HB := Aside0.mk (below_step HB1.out hb)
                clear BU1 BD1 BP1 HB1 hb
                refine hK.out _ _ ⟨(blk_cell BP.out 0).trans rfl, (blk_cell BP.out 1).trans rfl, (blk_cell BP.out 2).trans rfl, (blk_cell BP.out 3).trans rfl, (blk_cell BQ2.out 0).trans rfl, (blk_cell BQ2.out 1).trans rfl, (blk_cell BQ2.out 2).trans rfl, (blk_cell BQ2.out 3).trans rfl, (HGE.out ▸ (blk_cell BD.out 0).trans rfl), (HGE.out ▸ (blk_cell BD.out 1).trans rfl)⟩ (fun hHeld => ?_)
                clear hK K
                refine norm_ (a' := ?_) ?_ ?_
                rotate_left
                · show Act.put _ (some 51) _ = _
                  simp only [Act.put, List.setIfInBounds_toArray, List.set_cons_zero, List.set_cons_succ, i64_w, i32_w]
                  rfl
                refine one_ (i := 4) (N := some 53) #[true, true, true, true, true, false] rfl rfl (by kernel_rfl) (by decide) (fun K hK => ?_)
                refine goes_ Try.func27 (by kernel_rfl) rfl #[.agg #[.int .u64 t1, .int .u64 t2], .agg #[.int .u64 hi, .int .u64 lo]] (by rfl) rfl rfl (by (try simp only [List.map_toArray, List.map_cons, List.map_nil]); first | done | rfl) ?_
                with_reducible refine (wide_Cmp.calls 3 t1 t2 hi lo tc _ A2.out).mono ?_
                rintro e wc ⟨rfl, hb⟩
                refine ⟨_, rfl, ?_⟩
                have BU1 := Aside0.mk (UpAt_below BU.out hb)
                have BD1 := Aside0.mk (blk_below BD.out hb)
                have BP1 := Aside0.mk (blk_below BP.out hb)
                have BQ := Aside0.mk (blk_below BQ2.out hb)
                have HB1 := Aside0.mk (below_step HB.out hb)
                clear BU BD BP HB BQ2 hb
                refine hK.out _ _ ⟨(blk_cell BP1.out 0).trans rfl, (blk_cell BP1.out 1).trans rfl, (blk_cell BP1.out 2).trans rfl, (blk_cell BP1.out 3).trans rfl, (blk_cell BQ.out 0).trans rfl, (blk_cell BQ.out 1).trans rfl, (blk_cell BQ.out 2).trans rfl, (blk_cell BQ.out 3).trans rfl, (HGE.out ▸ (blk_cell BD1.out 0).trans rfl), (HGE.out ▸ (blk_cell BD1.out 1).trans rfl)⟩ (fun hHeld => ?_)
                clear hK K
                refine norm_ (a' := ?_) ?_ ?_
                rotate_left
                · show Act.put _ (some 53) _ = _
                  simp only [Act.put, List.setIfInBounds_toArray, List.set_cons_zero, List.set_cons_succ, i64_w, i32_w]
                  rfl
                refine pure_ (i := 5) (N := some 54) (v := ?_) (a' := ?_) #[true, true, true, true, true, true] rfl rfl (by kernel_rfl) (fun _ _ _ h => h) (Or.inl ⟨by rfl, ?_⟩) ?_ ?_
                rotate_left
                · intro w'
                  go_simp
                  with_reducible rfl
                rotate_left
                · simp only [Act.put, List.setIfInBounds_toArray, List.set_cons_zero, List.set_cons_succ, i64_w, i32_w]
                  rfl
                refine done_ (by kernel_rfl) ?_
                clear hHeld
                by_cases ht : tc ≤ 0
                · have htb : decide (tc ≤ 0) = true := decide_eq_true ht
                  have HS := Aside0.mk (show rowJ hi lo l m (allJ hi lo l m) (q + 1) = join (rowJ hi lo l m (allJ hi lo l m) q) m q by
                    simp only [rowJ, stepJ]
                    rw [HP.out, HQ.out, HBN.out, if_pos (by rw [← HTC.out, htb])])
                  clear ht
                  rw [htb]
                  go_wp2_with (go_at_call 44; (with_reducible refine (join_calls gj b l.length cb w.heap.size _ m q hlt hql (by omega) _ HV.out BU1.out).mono ?_))

                  rintro e wj rfl hu hv hg
                  have BU := Aside0.mk hu
                  have HV2 := Aside0.mk hv
                  have BD := Aside0.mk (blk_grown BD1.out hg (UpAt_other BU1.out BD1.out (by decide)))
                  have BP := Aside0.mk (blk_grown BP1.out hg (UpAt_other BU1.out BP1.out (by decide)))
                  have HB := Aside0.mk (HB1.out.grown hg HB1.out.size (fun k_ e_ => by cases e_; exact HGB.out))
                  clear hu hv hg BU1 BD1 BP1 HB1 BQ
                  go_wp2
                  go_roundg (m - (q + 1))
                  case measure => omega
                  case rel => exact ⟨q + 1, by go_num, by omega, by omega, ⟨by rw [HS.out]; exact HV2.out⟩, ⟨by rw [HS.out]; exact BU.out⟩, BD, BP, HB⟩
                · have htb : decide (tc ≤ 0) = false := decide_eq_false ht
                  have HS := Aside0.mk (show rowJ hi lo l m (allJ hi lo l m) (q + 1) = rowJ hi lo l m (allJ hi lo l m) q by
                    simp only [rowJ, stepJ]
                    rw [HP.out, HQ.out, HBN.out, if_neg (by rw [← HTC.out, htb]; simp)])
                  clear ht
                  rw [htb]
                  go_wp2
                  go_roundg (m - (q + 1))
                  case measure => omega
                  case rel => exact ⟨q + 1, by go_num, by omega, by omega, ⟨by rw [HS.out]; exact HV.out⟩, ⟨by rw [HS.out]; exact BU1.out⟩, BD1, BP1, HB1⟩
              · obtain rfl : q = m := by omega
                go_wp2
                go_roundg (l.length - (q + 1))
                case measure => omega
                case rel => exact ⟨q + 1, by go_num, by omega, by omega, HV, BU, BD, HB⟩
          · obtain rfl : m = l.length := by omega
            go_wp2
            obtain ⟨B, hB⟩ : ∃ B, wr.heap.size = B := ⟨_, rfl⟩
            have AM := AtMap_made wr
            have BU1 := Aside0.mk (UpAt_alloc BU.out (.map #[] 0))
            have HB1 := Aside0.mk (below_alloc HB.out (.map #[] 0))
            have HBB := Aside0.mk (show w.heap.size ≤ B by have := HB.out.size; omega)
            rw [hB] at AM ⊢
            have AM := Aside0.mk AM
            clear BU HB BD HV hB
            have HV := Aside0.mk (gJ_inv hi lo l 0 (by omega)).1
            generalize wr.alloc (.map #[] 0) = wm at AM BU1 HB1 ⊢
            go_loopg [11, 64] l.length (fun kq v11 v64 w' => ∃ (i : Nat), v64 = .int .i64 i ∧ i ≤ l.length ∧ l.length ≤ kq + i ∧ Aside0 (UpAt w' w.heap.size gj b l.length cb (gJ hi lo l i).1) ∧ Aside0 (Kd.S (Kd.slice 3 (Kd.int .i64)) 32 w' w.heap.size (fun k_ => k_ ≠ b ∧ k_ ≠ B) v11 (gJ hi lo l i).2.2) ∧ Aside0 (AtMap w' B i (gJ hi lo l i).2.1) ∧ Aside0 (Below w.heap.size w w'))
            case atStart => exact ⟨0, rfl, by omega, by omega, BU1, ⟨Kd.S_nil _ _ _ _ _⟩, AM, HB1⟩
            case round =>
              clear HV BU1 AM HB1
              obtain ⟨i, rfl, hil, hk, BU, HS, AM, HB⟩ := hrel
              by_cases hlt : i < l.length
              · obtain ⟨g1, g2, g3, g4, g5⟩ := gJ_inv hi lo l i hil
                obtain ⟨s, hs⟩ : ∃ s, gJ hi lo l i = s := ⟨_, rfl⟩
                rw [hs] at g1 g2 g3 g4 g5 BU HS AM
                obtain ⟨u, a, o⟩ := s
                simp only at g1 g2 g3 g4 g5 BU HS AM
                obtain ⟨T, hT⟩ : ∃ T, top (i + 1) u i = T := ⟨_, rfl⟩
                obtain ⟨u2, r⟩ := T
                have htl := top_le (i + 1) u i g1 (by omega)
                have TC := Aside0.mk (fun W hu => top_calls gj b l.length cb w.heap.size u i hlt (by omega) W g1 hu)
                rw [hT] at htl TC
                obtain ⟨hri, hv2⟩ := htl
                obtain ⟨a2, ha2⟩ : ∃ a2, a ++ [if r = i then o.length else 0] = a2 := ⟨_, rfl⟩
                obtain ⟨o2, ho2⟩ : ∃ o2, (if r = i then o ++ [[]] else o) = o2 := ⟨_, rfl⟩
                have HG2 := Aside0.mk (show gJ hi lo l (i + 1) = (u2, a2, o2.set (a2.getD r 0) (o2.getD (a2.getD r 0) [] ++ [(i : Int)])) by simp only [gJ]; rw [hs]; simp only [hT]; rw [ha2, ho2])
                have hgl := gJ_len hi lo l i
                rw [hs] at hgl
                simp only at hgl
                have HLL := Aside0.mk (show ∀ q, (o2.getD q []).length ≤ i from by
                  intro q
                  rw [← ho2]
                  split
                  · rw [getD_nil]; exact hgl q
                  · exact hgl q)
                clear hgl
                have HK := (gJ_inv hi lo l (i + 1) (by omega)).2.2.2.1 r (by omega)
                rw [HG2.out] at HK
                simp only [List.length_set] at HK
                have HK := Aside0.mk HK
                have HA2 := Aside0.mk ha2
                have HO2 := Aside0.mk ho2
                have G3 := Aside0.mk g3
                have G2 := Aside0.mk g2
                have G4 := Aside0.mk g4
                have HV2 := Aside0.mk hv2
                clear g1 g2 g3 g4 hs hT ha2 ho2 hv2
                go_upto_if 72 with (go_at_call 45; (with_reducible refine (TC.out _ BU.out).mono ?_); rintro e wt ⟨rfl, hu, hv, hlt3, hg⟩; have BU1 := Aside0.mk hu; have HS1 := Aside0.mk (Kd.S_grown HS.out hg (fun k_ hk_ => by intro e_; cases e_; exact hk_.1 rfl)); have AM1 := Aside0.mk (AtMap_grown AM.out hg (by intro e_; cases e_; obtain ⟨es_, cl_, hb_⟩ := AtMap_blk AM.out; obtain ⟨cells_, hc_⟩ := Kd.R_typed BU.out.2 _ rfl; rw [hb_] at hc_; cases hc_)); have HB1 := Aside0.mk (HB.out.grown hg HB.out.size (fun k_ e_ => by cases e_; exact HGB.out)); clear BU HS AM HB TC hu hv hg)
                go_cut [11] (fun v11 wc => Aside0 (UpAt wc w.heap.size gj b l.length cb u2) ∧ Aside0 (Kd.S (Kd.slice 3 (Kd.int .i64)) 32 wc w.heap.size (fun k_ => k_ ≠ b ∧ k_ ≠ B) v11 o2) ∧ Aside0 (AtMap wc B (i + 1) a2) ∧ Aside0 (Below w.heap.size w wc))
                case first =>
                  by_cases e : r = i
                  · have e1 : o2 = o ++ [[]] := by rw [← HO2.out, if_pos e]
                    have e2 : a2 = a ++ [o.length] := by rw [← HA2.out, if_pos e]
                    have t1 : ((r : Int) == (i : Int)) = true := by simp [e]
                    have E1 := Aside0.mk e1
                    have E2 := Aside0.mk e2
                    clear e1 e2 e
                    obtain ⟨Ao, co, eo⟩ := Kd.S_slice HS1.out
                    subst eo
                    obtain ⟨D, hown, him, hat⟩ := AM1.out
                    have HIM := Aside0.mk him
                    have HAT := Aside0.mk hat
                    have HOWN := Aside0.mk hown
                    clear him hat hown
                    have BB := Aside0.mk (AtMap_blk AM1.out)
                    go_wp2_with (first
                      | (at_mapUpdate; refine wpList_mapUpdate_own _ rfl _ _ _ 68 rfl 3 3 law3 Try.underlying68 _ B i D rfl HOWN.out (by unfold maxLen; omega) _ _ _ rfl rfl (keyOf_int_mk Try.underlying3 (wf_nat i (by omega))) _ [] (plainElem_int Try.underlying3 (wf_nat o.length (by omega))) ?_; intro wu hown1 hg1; have AM2 := Aside0.mk (show AtMap wu B (i + 1) a2 from (by rw [E2.out]; refine AtMap_put (D := D) ?_ HIM.out HAT.out; rw [G3.out]; exact hown1)); have BU2 := Aside0.mk (UpAt_row BU1.out hg1 (fun e_ => AtMap_ne_cells AM1.out BU1.out.1 (Option.some.inj e_)) (fun e_ => by obtain ⟨cells_, hc_⟩ := Kd.R_typed BU1.out.2 _ rfl; exact AtMap_ne_cells AM1.out hc_ (Option.some.inj e_))); have HS2 := Aside0.mk (Kd.S_grown HS1.out hg1 (fun k_ hk_ e_ => hk_.2 (Option.some.inj e_))); have HB2 := Aside0.mk (HB1.out.grown hg1 HB1.out.size (fun k_ e_ => by cases e_; exact HBB.out)); clear hown1 hg1 BU1 HS1 AM1 HB1)
                      | (at_builtin; refine Kd.S_append (Kd.slice 3 (Kd.int .i64)) (w0 := w) w.heap.size rfl (.tmp 77) (.tmp 78) 44 32 (.slice none 0 0) 24 rfl Try.underlying44 info32 rfl (by decide) (by omega) (.slice Ao o.length co) o [] [.slice none 0 0] (fun k_ => k_ ≠ b ∧ k_ ≠ B) (fun _ => False) rfl rfl ?aP (fun _ hk => hk.elim) ?aF ?aO ?aB ?aS ?aL ?_; (case aP => exact Kd.M_row (Kd.R_nil (Kd.int .i64) 3 _ _ _)); (case aB => exact HB2.out); (case aF => exact (fun k_ hk => ⟨by obtain ⟨cells_, hc_⟩ := Kd.R_typed BU2.out.2 b rfl; have := blk_lt hc_; omega, by obtain ⟨es_, cl_, hb_⟩ := AtMap_blk AM2.out; have := (Array.getElem?_eq_some_iff.1 hb_).1; omega⟩)); (case aO => exact Kd.S_mono HS2.out (fun k_ hk => ⟨hk, fun e_ => e_⟩)); (case aS => exact HB2.out.size); (case aL => omega); intro v3 w3 ho hb hg hat3; have HS3 := Aside0.mk (show Kd.S (Kd.slice 3 (Kd.int .i64)) 32 w3 w.heap.size (fun k_ => k_ ≠ b ∧ k_ ≠ B) v3 o2 from (by rw [E1.out]; exact ho)); have BU3 := Aside0.mk (UpAt_row BU2.out hg (fun e_ => by obtain ⟨cells_, hc_⟩ := Kd.S_typed HS2.out _ e_.symm; rw [BU2.out.1] at hc_; cases hc_) (fun e_ => (own_ok_ HS2.out e_).1 rfl)); have AM3 := Aside0.mk (AtMap_grown AM2.out hg (fun e_ => (own_ok_ HS2.out e_).2 rfl)); have HB3 := Aside0.mk hb; clear ho hb hg hat3 BU2 HS2 AM2 HB2))
                    go_meet
                    case rel => exact ⟨BU3, HS3, AM3, HB3⟩
                  · have e1 : o2 = o := by rw [← HO2.out, if_neg e]
                    have e2 : a2 = a ++ [0] := by rw [← HA2.out, if_neg e]
                    have t1 : ((r : Int) == (i : Int)) = false := by simp; omega
                    have AM2 := Aside0.mk (show AtMap wt B (i + 1) a2 by rw [e2]; exact AtMap_pad AM1.out)
                    have HS2 := Aside0.mk (show Kd.S (Kd.slice 3 (Kd.int .i64)) 32 wt w.heap.size (fun k_ => k_ ≠ b ∧ k_ ≠ B) u11 o2 by rw [e1]; exact HS1.out)
                    clear e1 e2 e
                    go_wp2
                    go_meet
                    case rel => exact ⟨BU1, HS2, AM2, HB1⟩
                case rest =>
                  clear BU1 HS1 AM1 HB1
                  obtain ⟨BU, HS, AM, HB⟩ := hcut
                  obtain ⟨k, hk3⟩ : ∃ k, a2.getD r 0 = k := ⟨_, rfl⟩
                  have HKE := Aside0.mk hk3
                  have hkl : k < o2.length := by have := HK.out; omega
                  clear hk3
                  obtain ⟨go, cg, eg, hg1, hg2, hg3⟩ := Kd.S_form HS.out (by omega)
                  subst eg
                  have HGO := Aside0.mk hg1
                  have BO := Aside0.mk hg3
                  have BU1 := Aside0.mk (UpAt_drew BU.out)
                  have HS1 := Kd.S_drew HS.out
                  have AM1 := Aside0.mk (AtMap_drew AM.out)
                  have HB1 := Aside0.mk (below_drew1 HB.out)
                  have BO1 := Aside0.mk (show ∃ cells, wc.drew.heap[go]? = some (.cells cells 32 (0, 0)) from BO.out)
                  obtain ⟨A0, c0, oki, hcell, hoki, hR, hH⟩ := elem_open HS1 k hkl
                  obtain ⟨xs, hxs⟩ : ∃ xs, o2.getD k [] = xs := ⟨_, rfl⟩
                  rw [hxs] at hcell hR hH
                  have HXS := Aside0.mk hxs
                  have HOKI := Aside0.mk hoki
                  have HRI := Aside0.mk hR
                  have HH := Aside0.mk hH
                  have HXL := Aside0.mk (show xs.length < 17592186044416 from by have := HLL.out k; rw [hxs] at this; omega)
                  clear BU HS AM HB HS1 hxs hoki hR hH BO
                  go_wp2
                  refine start_ (n := 15) (S := fun w' => AtMap w' B (i + 1) a2 ∧ w'.cell? ⟨go, k, none⟩ = some (.slice A0 xs.length c0)) (ds := [14]) #[false, false, false, false, false, false, false, false, false, false, false, false, false, false, false] (by kernel_rfl) rfl rfl ⟨AM1.out, hcell⟩ (fun hHeld => ?_)
                  generalize wc.drew = wd at BU1 AM1 HB1 BO1 HRI HH hHeld ⊢
                  clear hcell
                  refine pure_ (i := 0) (N := some 80) (v := ?_) (a' := ?_) #[true, false, false, false, false, false, false, false, false, false, false, false, false, false, false] rfl rfl (by kernel_rfl) (fun _ _ _ h => h) (Or.inl ⟨by rfl, ?_⟩) ?_ ?_
                  rotate_left
                  · intro w'
                    go_simp
                    with_reducible rfl
                  rotate_left
                  · simp only [Act.put, List.setIfInBounds_toArray, List.set_cons_zero, List.set_cons_succ, i64_w, i32_w]
                    rfl
                  refine pure_ (i := 1) (N := some 81) (v := ?_) (a' := ?_) #[true, true, false, false, false, false, false, false, false, false, false, false, false, false, false] rfl rfl (by kernel_rfl) (fun _ _ _ h => h) (Or.inl ⟨by rfl, ?_⟩) ?_ ?_
                  rotate_left
                  · intro w'
                    go_simp
                    with_reducible rfl
                  rotate_left
                  · simp only [Act.put, List.setIfInBounds_toArray, List.set_cons_zero, List.set_cons_succ, i64_w, i32_w]
                    rfl
                  refine pure_ (i := 2) (N := some 82) (v := ?_) (a' := ?_) #[true, true, true, false, false, false, false, false, false, false, false, false, false, false, false] rfl rfl (by kernel_rfl) (fun _ _ _ h => h) (Or.inl ⟨by rfl, ?_⟩) ?_ ?_
                  rotate_left
                  · intro w'
                    go_simp
                    with_reducible rfl
                  rotate_left
                  · simp only [Act.put, List.setIfInBounds_toArray, List.set_cons_zero, List.set_cons_succ, i64_w, i32_w]
                    rfl
                  refine pure_ (i := 4) (N := some 84) (v := ?_) (a' := ?_) #[true, true, true, false, true, false, false, false, false, false, false, false, false, false, false] rfl rfl (by kernel_rfl) (fun _ _ _ h => h) (Or.inl ⟨by rfl, ?_⟩) ?_ ?_
                  rotate_left
                  · intro w'
                    go_simp
                    with_reducible rfl
                  rotate_left
                  · simp only [Act.put, List.setIfInBounds_toArray, List.set_cons_zero, List.set_cons_succ, i64_w, i32_w]
                    rfl
                  refine pure_ (i := 5) (N := some 85) (v := ?_) (a' := ?_) #[true, true, true, false, true, true, false, false, false, false, false, false, false, false, false] rfl rfl (by kernel_rfl) (fun _ _ _ h => h) (Or.inl ⟨by rfl, ?_⟩) ?_ ?_
                  rotate_left
                  · intro w'
                    go_simp
                    with_reducible rfl
                  rotate_left
                  · simp only [Act.put, List.setIfInBounds_toArray, List.set_cons_zero, List.set_cons_succ, i64_w, i32_w]
                    rfl
                  refine pure_ (i := 6) (N := some 86) (v := ?_) (a' := ?_) #[true, true, true, false, true, true, true, false, false, false, false, false, false, false, false] rfl rfl (by kernel_rfl) (fun _ _ _ h => h) (Or.inl ⟨by rfl, ?_⟩) ?_ ?_
                  rotate_left
                  · intro w'
                    go_simp
                    with_reducible rfl
                  rotate_left
                  · simp only [Act.put, List.setIfInBounds_toArray, List.set_cons_zero, List.set_cons_succ, i64_w, i32_w]
                    rfl
                  refine pure_ (i := 10) (N := some 90) (v := ?_) (a' := ?_) #[true, true, true, false, true, true, true, false, false, false, true, false, false, false, false] rfl rfl (by kernel_rfl) (fun _ _ _ h => h) (Or.inl ⟨by rfl, ?_⟩) ?_ ?_
                  rotate_left
                  · intro w'
                    go_simp
                    with_reducible rfl
                  rotate_left
                  · simp only [Act.put, List.setIfInBounds_toArray, List.set_cons_zero, List.set_cons_succ, i64_w, i32_w]
                    rfl
                  refine take_ (i := 3) (N := some 83) (v := ?_) (a' := ?_) #[true, true, true, true, true, true, true, false, false, false, true, false, false, false, false] rfl rfl (by kernel_rfl) (fun _ _ _ h => h) (Or.inl ⟨by rfl, ?_⟩) hHeld ?_ ?_
                  rotate_left
                  · rintro w' ⟨s0, s1⟩
                    have hl := AtMap_look s0 r (by omega)
                    rw [HKE.out] at hl
                    go_simp
                    with_reducible rfl
                  rotate_left
                  · simp only [Act.put, List.setIfInBounds_toArray, List.set_cons_zero, List.set_cons_succ, i64_w, i32_w]
                    rfl
                  refine take_ (i := 7) (N := some 87) (v := ?_) (a' := ?_) #[true, true, true, true, true, true, true, true, false, false, true, false, false, false, false] rfl rfl (by kernel_rfl) (fun _ _ _ h => h) (Or.inl ⟨by rfl, ?_⟩) hHeld ?_ ?_
                  rotate_left
                  · rintro w' ⟨s0, s1⟩
                    have hl := AtMap_look s0 r (by omega)
                    rw [HKE.out] at hl
                    go_simp
                    with_reducible rfl
                  rotate_left
                  · simp only [Act.put, List.setIfInBounds_toArray, List.set_cons_zero, List.set_cons_succ, i64_w, i32_w]
                    rfl
                  refine pure_ (i := 8) (N := some 88) (v := ?_) (a' := ?_) #[true, true, true, true, true, true, true, true, true, false, true, false, false, false, false] rfl rfl (by kernel_rfl) (fun _ _ _ h => h) (Or.inl ⟨by rfl, ?_⟩) ?_ ?_
                  rotate_left
                  · intro w'
                    go_simp
                    with_reducible rfl
                  rotate_left
                  · simp only [Act.put, List.setIfInBounds_toArray, List.set_cons_zero, List.set_cons_succ, i64_w, i32_w]
                    rfl
                  refine take_ (i := 9) (N := some 89) (v := ?_) (a' := ?_) #[true, true, true, true, true, true, true, true, true, true, true, false, false, false, false] rfl rfl (by kernel_rfl) (fun _ _ _ h => h) (Or.inl ⟨by rfl, ?_⟩) hHeld ?_ ?_
                  rotate_left
                  · rintro w' ⟨s0, s1⟩
                    go_simp
                    with_reducible rfl
                  rotate_left
                  · simp only [Act.put, List.setIfInBounds_toArray, List.set_cons_zero, List.set_cons_succ, i64_w, i32_w]
                    rfl
                  refine one_ (i := 11) (N := some 91) #[true, true, true, true, true, true, true, true, true, true, true, true, false, false, false] rfl rfl (by kernel_rfl) (by decide) (fun K hK => ?_)
                  refine value_ (w1 := ?_) (v := ?_) (by rfl) rfl ?_ ?_
                  rotate_left 2
                  · go_simp
                    constructor
                    · rfl
                    · rfl
                  refine hK.out _ _ ⟨AtMap_alloc hHeld.1 _, (World.cell?_alloc_lt _ _ _ (World.block_lt_of_cell? _ _ hHeld.2)).trans hHeld.2⟩ (fun hHeld => ?_)
                  clear hK K
                  refine norm_ (a' := ?_) ?_ ?_
                  rotate_left
                  · show Act.put _ (some 91) _ = _
                    simp only [Act.put, List.setIfInBounds_toArray, List.set_cons_zero, List.set_cons_succ, i64_w, i32_w]
                    rfl
                  refine one_ (i := 12) (N := some 92) #[true, true, true, true, true, true, true, true, true, true, true, true, true, false, false] rfl rfl (by kernel_rfl) (by decide) (fun K hK => ?_)
                  refine Kd.R_append_step (Kd.int .i64) (w0 := w) w.heap.size (by rfl) (.tmp 89) (.tmp 91) 32 3 (.int .i64 0) 8 rfl Try.underlying32 info3_ rfl (by decide) (by omega) (.slice A0 xs.length c0) xs (i : Int) [.int .i64 i] (fun k_ => oki k_ ∨ (k_ ≠ b ∧ k_ ≠ B) ∧ wd.heap.size ≤ k_) (fun _ => False) rfl rfl ?aP (fun _ hk => hk.elim) ?aF ?aO ?aB ?aS ?aL ?_
                  case aP => exact rfl
                  case aB => exact HB1.out
                  case aF => exact (fun k_ hk => .inr ⟨⟨by obtain ⟨cells_, hc_⟩ := Kd.R_typed BU1.out.2 b rfl; have := blk_lt hc_; omega, by obtain ⟨es_, cl_, hb_⟩ := AtMap_blk AM1.out; have := (Array.getElem?_eq_some_iff.1 hb_).1; omega⟩, hk⟩)
                  case aO => exact Kd.R_mono HRI.out (fun _ hk => .inl hk)
                  case aS => exact HB1.out.size
                  case aL => have := HXL.out; omega
                  intro v5 w5 ho hb hg hat5
                  have HH2 := Kd.H_grown (Kd.H_widen HH.out) hg (fun k_ e_ => .inl (HRI.out.1 k_ e_))
                  have hrow : ∀ q, (Value.slice A0 xs.length c0).ownBlock = some q → (q ≠ b ∧ q ≠ B) ∧ q ≠ go := fun q e_ => HOKI.out q (HRI.out.1 q e_)
                  have BU2 := Aside0.mk (UpAt_row BU1.out hg (fun e_ => by obtain ⟨cells_, hc_⟩ := Kd.R_typed HRI.out gj e_.symm; rw [BU1.out.1] at hc_; cases hc_) (fun e_ => (hrow b e_.symm).1.1 rfl))
                  have AM2 := Aside0.mk (AtMap_grown AM1.out hg (fun e_ => (hrow B e_.symm).1.2 rfl))
                  have BO2 := Aside0.mk (show ∃ cells, w5.heap[go]? = some (.cells cells 32 (0, 0)) from by obtain ⟨cells_, hc_⟩ := BO1.out; exact ⟨cells_, (hg.block go (blk_lt hc_) (fun e_ => (hrow go e_.symm).2 rfl)).trans hc_⟩)
                  obtain ⟨A5, c5, rfl⟩ := Kd.R_slice ho
                  obtain ⟨hc1, hf1, hS1, hG1⟩ := elem_shut HH2 hkl ho
                  rw [List.length_append, List.length_singleton] at hS1 hG1
                  have HS2 := Aside0.mk hS1
                  have HG1 := Aside0.mk hG1
                  have HB2 := Aside0.mk hb
                  refine hK.out _ _ ⟨AM2.out, hc1⟩ (fun hHeld => ?_)
                  clear hK K hHeld ho hb hg hat5 HH2 hrow hS1 hG1 BU1 AM1 HB1 BO1 HH HRI
                  refine norm_ (a' := ?_) ?_ ?_
                  rotate_left
                  · show Act.put _ (some 92) _ = _
                    simp only [Act.put, List.setIfInBounds_toArray, List.set_cons_zero, List.set_cons_succ, i64_w, i32_w]
                    rfl
                  refine pure_ (i := 13) (N := some 93) (v := ?_) (a' := ?_) #[true, true, true, true, true, true, true, true, true, true, true, true, true, true, false] rfl rfl (by kernel_rfl) (fun _ _ _ h => h) (Or.inl ⟨by rfl, ?_⟩) ?_ ?_
                  rotate_left
                  · intro w'
                    go_simp
                    with_reducible rfl
                  rotate_left
                  · simp only [Act.put, List.setIfInBounds_toArray, List.set_cons_zero, List.set_cons_succ, i64_w, i32_w]
                    rfl
                  refine last_ (i := 14) (N := none) #[true, true, true, true, true, true, true, true, true, true, true, true, true, true, true] rfl rfl (by kernel_rfl) (by decide) (fun K hK => ?_)
                  refine skip_ (w1 := ?_) (by rfl) rfl ?_ ?_
                  rotate_left
                  · go_simp
                    rfl
                  refine hK.out _ _ ?_
                  clear hK K
                  refine done_ (by kernel_rfl) ?_
                  go_wp2
                  go_roundg (l.length - (i + 1))
                  case measure => omega
                  case rel =>
                    have hgo1 : gj ≠ go := by rintro rfl; obtain ⟨cells_, hc_⟩ := BO2.out; rw [BU2.out.1] at hc_; cases hc_
                    have hgo2 : b ≠ go := by rintro rfl; obtain ⟨cells_, hc_⟩ := BO2.out; exact UpAt_other BU2.out hc_ (by decide) rfl
                    have hgo3 : go ≠ B := by obtain ⟨cells_, hc_⟩ := BO2.out; exact AtMap_ne_cells AM2.out hc_
                    refine ⟨i + 1, by go_num, by omega, by omega, ⟨?_⟩, ⟨?_⟩, ⟨?_⟩, ⟨below_set HB2.out HGO.out⟩⟩
                    · rw [HG2.out]; exact UpAt_row BU2.out HG1.out (fun e_ => hgo1 (Option.some.inj e_)) (fun e_ => hgo2 (Option.some.inj e_))
                    · rw [HG2.out, HKE.out, HXS.out]; exact HS2.out
                    · rw [HG2.out]; exact AtMap_grown AM2.out HG1.out (fun e_ => hgo3 (Option.some.inj e_).symm)
              · obtain rfl : i = l.length := by omega
                go_wp2
                go_ret
                exact ⟨_, rfl, Kd.S_mono HS.out (fun _ _ => trivial), HB.out⟩

def joined.f (_k : Nat) (l : List S24) (a1_0 : Int) (a1_1 : Int) : Option (List (List Int)) :=
  if l.length < 1000000 ∧ ∀ i, i < l.length → ∀ k, k < l.length → (near a1_0 a1_1 (l.getD i z24) (l.getD k z24)).isSome = true then some (gJ a1_0 a1_1 l l.length).2.2 else none
theorem joined.mono : ∀ l a b k, LeO (joined.f k l a b) (joined.f (k + 1) l a b) := fun _ _ _ _ => LeO.refl _
theorem joined.calls (k : Nat) (A0 : Option Addr) (c0 : Nat) (l0 : List S24) (a1_0 : Int) (a1_1 : Int) (r : List (List Int)) (w : World) (hr0 : Kd.C k24 w A0 l0.length l0) (hc0 : l0.length ≤ c0) (h : joined.f k l0 a1_0 a1_1 = some r) :
    Calls Try.prog 25 #[.slice A0 l0.length c0, .agg #[.int .u64 a1_0, .int .u64 a1_1]] w fun e w' => ∃ v0_ : Value, e = .returned (v0_) ∧ Kd.S (Kd.slice 3 (Kd.int .i64)) 32 w' w.heap.size (fun _ => True) v0_ r ∧ Below w.heap.size w w' := by
  unfold joined.f at h
  split at h
  case isFalse => cases h
  case isTrue hc =>
    obtain rfl := Option.some.inj h
    exact joined_calls A0 c0 l0 a1_0 a1_1 w hr0 hc0 hc.1 (fun i k hi hk => hc.2 i hi k hk)
end Join
end Go.Proofs.Ytgepbfcaimejmaa.PP
