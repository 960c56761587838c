/-
  pairs.Joined and the joiner that it uses, walked by hand: which groups it answers.
  Conditions: none but that the slice can be read and the coordinates are of Go's uint32 (else the plain function answers none, and nothing is said).
-/
import Derived.Test.YtgepbfcaimejmaaPPx2
import Derived.Test.YtgepbfcaimejmaaPPx3
import Derived.StillTailTactics
import Derived.Deep.LoopGhost
namespace Go.Proofs.Ytgepbfcaimejmaa.PP
open Go.RowKit Go.Proofs.YtgepbfcaimejmaaW.PrintWords Go.Proofs.YtgepbfcaimejmaaW.PrintLast Go.Proofs.YtgepbfcaimejmaaW.PrintMore
set_option linter.unusedVariables false
set_option linter.unusedSimpArgs false
namespace Join

/-- Each place's next one up is no later one. -/
def inv (up : List Int) : Prop := ∀ i : Nat, i < up.length → 0 ≤ up.getD i 0 ∧ up.getD i 0 ≤ i
/-- One step of halving a path. -/
def half (up : List Int) (i : Nat) : List Int := up.set i (up.getD (up.getD i 0).toNat 0)
/-- The first of a group, and what becomes of the list on the way. -/
def top : Nat → List Int → Nat → List Int × Nat
  | 0, up, i => (up, i)
  | f + 1, up, i => if up.getD i 0 = i then (up, i) else top f (half up i) ((half up i).getD i 0).toNat

theorem half_length (up : List Int) (i : Nat) : (half up i).length = up.length := by simp [half]
theorem half_at (up : List Int) (i : Nat) (hi : i < up.length) : (half up i).getD i 0 = up.getD (up.getD i 0).toNat 0 := by simp [half, hi]
theorem half_inv (up : List Int) (h : inv up) (i : Nat) (hi : i < up.length) : inv (half up i) := by
  intro j hj
  rw [half_length] at hj
  have hi' := h i hi
  have hp := h (up.getD i 0).toNat (by omega)
  by_cases e : j = i
  · subst e
    rw [half_at up j hi]
    omega
  · have : (half up i).getD j 0 = up.getD j 0 := by simp [half, List.getElem?_set, Ne.symm e]
    rw [this]
    exact h j hj
theorem top_length (f : Nat) : ∀ (up : List Int) (i : Nat), (top f up i).1.length = up.length := by
  induction f with
  | zero => intro up i; rfl
  | succ f ih =>
    intro up i
    simp only [top]
    split
    · rfl
    · rw [ih, half_length]

theorem grown_trans {w w1 w2 : World} {b : Nat} (h : w.grownBy w1 (some b)) (h2 : w1.grownBy w2 (some b)) : w.grownBy w2 (some b) :=
  ⟨h2.os.trans h.os, h2.tape.trans h.tape, h2.output.trans h.output, Nat.le_trans h.size h2.size, fun k hk hne => (h2.block k (Nat.lt_of_lt_of_le hk h.size) hne).trans (h.block k hk hne)⟩
theorem grown_drew (w : World) (b : Nat) : w.grownBy w.drew (some b) := ⟨rfl, rfl, rfl, Nat.le_refl _, fun _ _ _ => rfl⟩
/-- The joiner at block j has its list, xs, in block b. -/
def UpAt (w : World) (base j b n c : Nat) (xs : List Int) : Prop :=
  w.heap[j]? = some (.cells #[.slice (some ⟨b, 0, none⟩) n c] 66 (0, 0)) ∧ (Kd.int .i64).R 3 w base (fun _ => True) (.slice (some ⟨b, 0, none⟩) n c) xs

theorem UpAt_ne {w : World} {base j b n c : Nat} {xs : List Int} (h : UpAt w base j b n c xs) : j ≠ b := by
  rintro rfl
  obtain ⟨h1, h2⟩ := h
  obtain ⟨cells, hc⟩ := Kd.R_typed h2 j rfl
  rw [h1] at hc
  cases hc
theorem UpAt_len {w : World} {base j b n c : Nat} {xs : List Int} (h : UpAt w base j b n c xs) : n = xs.length := (Kd.R_reads' h.2).1
theorem UpAt_cell {w : World} {base j b n c : Nat} {xs : List Int} (h : UpAt w base j b n c xs) (i : Nat) (hi : i < n) : w.cell? ⟨b, i, none⟩ = some (.int .i64 (xs.getD i 0)) ∧ w.frozen? ⟨b, i, none⟩ = false := by
  have := Kd.R_celln 0 h.2 (i : Int) (by omega) (by omega)
  simpa [rdOf] using this
theorem UpAt_drew {w : World} {base j b n c : Nat} {xs : List Int} (h : UpAt w base j b n c xs) : UpAt w.drew base j b n c xs := ⟨h.1, Kd.R_drew h.2⟩
theorem UpAt_put {w : World} {base j b n c : Nat} {xs : List Int} (h : UpAt w base j b n c xs) (i : Nat) (x : Int) : UpAt (w.setCell ⟨b, i, none⟩ (.int .i64 x)) base j b n c (xs.set i x) ∧ w.grownBy (w.setCell ⟨b, i, none⟩ (.int .i64 x)) (some b) := by
  have := Kd.R_putg h.2 (i : Int) x
  have hne := UpAt_ne h
  exact ⟨⟨(this.2.block j (blk_lt h.1) (by simpa using hne)).trans h.1, this.1⟩, this.2⟩

set_option maxHeartbeats 1000000 in
theorem top_calls (j b n c base : Nat) (xs : List Int) (i : Nat) (hi : i < n) (hn : n ≤ 9223372036854775807) (w : World) (hv : inv xs) (hu : UpAt w base j b n c xs) :
    Calls Try.prog 45 #[.pointer (some ⟨j, 0, none⟩), .int .i64 i] w fun e w' => e = .returned (.int .i64 (top (i + 1) xs i).2) ∧ UpAt w' base j b n c (top (i + 1) xs i).1 ∧ inv (top (i + 1) xs i).1 ∧ (top (i + 1) xs i).2 < n ∧ w.grownBy w' (some b) := by
  have HV := Aside0.mk hv
  have HU := Aside0.mk hu
  clear hv hu
  go_enter Try.func45, Try.ntmps45
  go_wp2
  go_loopg [1] (i + 1) (fun kq v1 w' => ∃ (ys : List Int) (m : Nat), v1 = .int .i64 m ∧ m < n ∧ m < kq ∧ Aside0 (top kq ys m = top (i + 1) xs i) ∧ Aside0 (inv ys) ∧ Aside0 (UpAt w' base j b n c ys) ∧ Aside0 (w.grownBy w' (some b)))
  case atStart => exact ⟨xs, i, rfl, hi, by omega, ⟨rfl⟩, HV, HU, ⟨World.grownBy.refl _ _⟩⟩
  case round =>
    clear HV HU
    obtain ⟨ys, m, rfl, hm, hk, HT, HV, HU, HG⟩ := hrel
    obtain ⟨kq, rfl⟩ : ∃ q, gk = q + 1 := ⟨gk - 1, by omega⟩
    have hlen := UpAt_len HU.out
    have hvm := HV.out m (by omega)
    obtain ⟨p, hp⟩ : ∃ p : Nat, (p : Int) = ys.getD m 0 := ⟨(ys.getD m 0).toNat, by omega⟩
    rw [← hp] at hvm
    have hvp := HV.out p (by omega)
    obtain ⟨q, hq⟩ : ∃ q : Nat, (q : Int) = ys.getD p 0 := ⟨(ys.getD p 0).toNat, by omega⟩
    have hj : wr.cell? ⟨j, 0, none⟩ = some (.slice (some ⟨b, 0, none⟩) n c) := (blk_cell HU.out.1 0).trans rfl
    obtain ⟨cm, fm⟩ := UpAt_cell HU.out m hm
    obtain ⟨cp, fp⟩ := UpAt_cell HU.out p (by omega)
    rw [← hp] at cm
    rw [← hq] at cp hvp
    have hne := UpAt_ne HU.out
    have hpn : p < n := by omega
    have HL := Aside0.mk hlen
    clear hlen
    by_cases e : p = m
    · have HF := Aside0.mk (show top (kq + 1) ys m = (ys, m) by simp only [top]; rw [← hp, e, if_pos rfl])
      have HP := Aside0.mk hp
      have HQ := Aside0.mk hq
      clear hp hq cp fp hvp
      subst e
      have t1 : ((p : Int) != (p : Int)) = false := by simp
      go_wp2
      go_ret
      rw [← HT.out, HF.out]
      exact ⟨rfl, HU.out, HV.out, hm, HG.out⟩
    · have hh : half ys m = ys.set m (q : Int) := by unfold half; rw [← hp, Int.toNat_natCast, ← hq]
      have hha := half_at ys m (by have := HL.out; omega)
      rw [← hp, Int.toNat_natCast, ← hq] at hha
      have HF := Aside0.mk (show top (kq + 1) ys m = top kq (half ys m) q by simp only [top]; rw [← hp, if_neg (by omega), hha, Int.toNat_natCast])
      have HI := Aside0.mk (half_inv ys HV.out m (by have := HL.out; omega))
      have HH := Aside0.mk hh
      clear hha hh hp hq
      have t1 : ((p : Int) != (m : Int)) = true := by simp; omega
      have HPUT := Aside0.mk (UpAt_put (UpAt_drew HU.out) m (q : Int))
      have HUD := Aside0.mk (UpAt_drew HU.out)
      go_wp2
      go_still_tail 19, (by kernel_rfl)
      change wpList _ _ _ _ _ wr.drew
      have fm' := (UpAt_cell HUD.out m hm).2
      have cm' : wr.drew.cell? ⟨b, m, none⟩ = some (.int .i64 p) := cm
      go_wp2_with (fail)
      have hput := UpAt_put HU.out m (q : Int)
      go_roundg kq
      case measure => omega
      case rel =>
        exact ⟨half ys m, q, rfl, by omega, by omega, ⟨by rw [← HT.out, HF.out]⟩, HI, ⟨by rw [HH.out]; exact UpAt_drew hput.1⟩, ⟨grown_trans HG.out (grown_trans hput.2 (grown_drew _ _))⟩⟩

set_option maxHeartbeats 1000000 in
/-- Two groups are one. -/
def join (up : List Int) (a b : Nat) : List Int :=
  (top (b + 1) (top (a + 1) up a).1 b).1.set (max (top (a + 1) up a).2 (top (b + 1) (top (a + 1) up a).1 b).2) (min (top (a + 1) up a).2 (top (b + 1) (top (a + 1) up a).1 b).2 : Nat)
theorem join_length (up : List Int) (a b : Nat) : (join up a b).length = up.length := by simp [join, top_length]
theorem set_inv (up : List Int) (h : inv up) (m v : Nat) (hv : v ≤ m) : inv (up.set m (v : Int)) := by
  intro j hj
  rw [List.length_set] at hj
  by_cases e : j = m
  · subst e
    have : (up.set j (v : Int)).getD j 0 = v := by simp [hj]
    rw [this]
    omega
  · have : (up.set m (v : Int)).getD j 0 = up.getD j 0 := by simp [List.getElem?_set, Ne.symm e]
    rw [this]
    exact h j hj
attribute [local go_sem] max2_int min2_int max_two min_two max_three min_three max_four min_four
set_option maxHeartbeats 1000000 in
theorem join_calls (j b n c base : Nat) (xs : List Int) (x y : Nat) (hx : x < n) (hy : y < n) (hn : n ≤ 9223372036854775807) (w : World) (hv : inv xs) (hu : UpAt w base j b n c xs) :
    Calls Try.prog 44 #[.pointer (some ⟨j, 0, none⟩), .int .i64 x, .int .i64 y] w fun e w' => e = .returned (.tuple #[]) ∧ UpAt w' base j b n c (join xs x y) ∧ inv (join xs x y) ∧ w.grownBy w' (some b) := by
  have HV := Aside0.mk hv
  have HU := Aside0.mk hu
  clear hv hu
  unfold join
  obtain ⟨P, hP⟩ : ∃ P, top (x + 1) xs x = P := ⟨_, rfl⟩
  obtain ⟨R, hR⟩ : ∃ R, top (y + 1) P.1 y = R := ⟨_, rfl⟩
  obtain ⟨X, p⟩ := P
  obtain ⟨Y, q⟩ := R
  rw [hP]
  simp only at hR ⊢
  rw [hR]
  have T1 := Aside0.mk (fun w hv hu => top_calls j b n c base xs x hx hn w hv hu)
  have T2 := Aside0.mk (fun w hv hu => top_calls j b n c base X y hy hn w hv hu)
  rw [hP] at T1
  rw [hR] at T2
  clear hP hR
  go_enter Try.func44, Try.ntmps44
  go_wp2_with (first | (go_at_call 45; (with_reducible refine (T1.out _ HV.out HU.out).mono ?_); rintro e w1 ⟨rfl, hu1, hv1, hlt1, hg1⟩; have HU1 := Aside0.mk hu1; have HV1 := Aside0.mk hv1; have HG1 := Aside0.mk hg1; clear hu1 hv1 hg1) | (go_at_call 45; (with_reducible refine (T2.out _ HV1.out HU1.out).mono ?_); rintro e w2 ⟨rfl, hu2, hv2, hlt2, hg2⟩; have hj2 : w2.cell? ⟨j, 0, none⟩ = some (.slice (some ⟨b, 0, none⟩) n c) := (blk_cell hu2.1 0).trans rfl; obtain ⟨hcm, hfm⟩ := UpAt_cell hu2 p hlt1; obtain ⟨hcn, hfn⟩ := UpAt_cell hu2 q hlt2; have HU2 := Aside0.mk hu2; have HV2 := Aside0.mk hv2; have HG2 := Aside0.mk hg2; clear hu2 hv2 hg2))
  all_goals
    go_end0
    first
      | (have e1 : max p q = q := by omega
         have e2 : min p q = p := by omega
         rw [e1, e2]
         have hput := UpAt_put HU2.out q (p : Int)
         exact ⟨rfl, hput.1, set_inv Y HV2.out q p (by omega), grown_trans HG1.out (grown_trans HG2.out hput.2)⟩)
      | (have e1 : max p q = p := by omega
         have e2 : min p q = q := by omega
         rw [e1, e2]
         have hput := UpAt_put HU2.out p (q : Int)
         exact ⟨rfl, hput.1, set_inv Y HV2.out p q (by omega), grown_trans HG1.out (grown_trans HG2.out hput.2)⟩)
      | (obtain rfl : p = q := by omega
         have hput := UpAt_put HU2.out p (p : Int)
         rw [Nat.max_self, Nat.min_self]
         exact ⟨rfl, hput.1, set_inv Y HV2.out p p (Nat.le_refl _), grown_trans HG1.out (grown_trans HG2.out hput.2)⟩)
end Join
end Go.Proofs.Ytgepbfcaimejmaa.PP
