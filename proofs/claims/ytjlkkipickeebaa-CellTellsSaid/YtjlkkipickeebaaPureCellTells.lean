/-
  The plain half of the law CellTells: what its code computes is true, at all numbers of the kinds that come in.
  Conditions: none but the kinds' own bounds.
-/
import Derived.Test.YtjlkkipickeebaaCellA
import Derived.Test.YtjlkkipickeebaaPAx14
namespace Go.Proofs.Ytjlkkipickeebaa.Pure
open Go.RowKit Go.Proofs.Ytjlkkipickeebaa.PA Go.Proofs.YtjlkkipickeebaaW.PrintWords Go.Proofs.YtjlkkipickeebaaW.PrintLast Go.Proofs.YtjlkkipickeebaaW.PrintMore Nums CellA

theorem side_loop (d : Nat) : ∀ (k : Nat) (x i : Int), i = 32 - d → d ≤ 32 → 0 < x → x * 2 ^ d ≤ 4294967296 → croftlaw04_side.l0 (k + d + 1) x i = some (x * 2 ^ d - 1) := by
  induction d with
  | zero =>
    intro k x i hi _ h0 h1
    simp only [croftlaw04_side.l0]
    simp only [Int.pow_zero, Int.mul_one] at *
    rw [if_neg (by omega), u64_in _ (by omega) (by omega)]
  | succ d ih =>
    intro k x i hi hd h0 h1
    have e : x * 2 ^ (d + 1) = 2 * x * 2 ^ d := by rw [Int.pow_succ]; grind
    have hp : (1 : Int) ≤ 2 ^ d := Int.pow_pos (by omega)
    have hx : 2 * x ≤ 2 * x * 2 ^ d := by
      have := Int.mul_le_mul_of_nonneg_left hp (show 0 ≤ 2 * x by omega)
      simpa using this
    have ih' := ih k (2 * x) (i + 1) (by omega) (by omega) (by omega) (by omega)
    rw [show k + (d + 1) + 1 = (k + d + 1) + 1 from by omega]
    generalize k + d + 1 = m at *
    simp only [croftlaw04_side.l0]
    rw [if_pos (by omega), u64_in _ (by omega) (by omega), w64_in _ (by omega) (by omega), ih', e]
theorem lawside_eq (k : Nat) (n : Int) (h0 : 0 ≤ n) (h1 : n ≤ 32) : croftlaw04_side.f (k + 33) n = some (pw n - 1) := by
  unfold croftlaw04_side.f
  have h := side_loop (32 - n.toNat) (k + n.toNat) 1 n (by omega) (by omega) (by omega) (by have := pw_le n; unfold pw at this; omega)
  rw [show k + n.toNat + (32 - n.toNat) + 1 = k + 33 from by omega] at h
  rw [h]
  unfold pw
  simp
theorem or_join (x n : Int) (h0 : 0 ≤ x) (h1 : x < 4294967296) : Go.bits .or .u32 (x / pw n * pw n) (pw n - 1) = x / pw n * pw n + (pw n - 1) := by
  have f := fl_bd x n h0
  have p := pw_pos n
  have q := pw_le n
  exact bits_join .u32 32 (by decide) wraps_u32 (32 - n.toNat) _ _ f.1 (by show x / pw n * pw n % pw n = 0; exact Int.mul_emod_left _ _) (by omega) (by omega) (by show pw n - 1 < pw n; omega) (by omega)

theorem CellTells : croftlaw04_CellTells.Pure := by
  intro cx cy n x y level w0 w1 _ w3 w4 _
  have w0 := wf_u32 w0
  have w1 := wf_u32 w1
  have w3 := wf_u32 w3
  have w4 := wf_u32 w4
  refine ⟨40, ?_⟩
  have hL := lv_bd n
  have hdef : mn (mx n 0) 32 = lv n := rfl
  have p := pw_pos (lv n)
  have q := pw_le (lv n)
  have fx := fl_bd cx (lv n) w0.1
  have fy := fl_bd cy (lv n) w1.1
  -- the last part
  have hj3 : ∀ z, z = (if lv n = 32 then 0 else x / pw (lv n + 1) % 2 + 2 * (y / pw (lv n + 1) % 2)) → croftlaw04_CellTells.j3 37 x y level z cx cy n = some true := by
    intro z hz
    have hl := lv_bd level
    have gx := fl_bd x (lv level) w3.1
    have gy := fl_bd y (lv level) w4.1
    simp only [croftlaw04_CellTells.j3]
    rw [at_eq x y level w3.1 w3.2 w4.1 w4.2, quarter_eq cx cy n x y w0.1 w0.2 w1.1 w1.2 w3.1 w3.2 w4.1 w4.2, ← hz]
    simp only [Option.bind_some, if_true]
    rw [has_eq _ _ (lv level) x y gx.1 (by omega) gy.1 (by omega) w3.1 w3.2 w4.1 w4.2, check_eq _ _ (lv level) gx.1 (by omega) gy.1 (by omega), lv_id _ hl.1 hl.2, fl_div, fl_div]
    simp only [and_self, decide_true, Option.bind_some, if_true]
    rw [if_pos (by rfl)]
    rfl
  have hj2 : croftlaw04_CellTells.j2 38 x y level (lv n) false cx cy n = some true := by
    simp only [croftlaw04_CellTells.j2, Bool.false_eq_true, if_false]
    by_cases h : lv n < 32
    · rw [if_pos h, w64_in _ (by omega) (by omega), lawside_eq 4 _ (by omega) (by omega)]
      have p' := pw_pos (lv n + 1)
      have q' := pw_le (lv n + 1)
      have bd : ∀ z : Int, 0 ≤ z → z < 4294967296 → 0 ≤ z / pw (lv n + 1) ∧ z / pw (lv n + 1) < 4294967296 := fun z z0 z1 =>
        ⟨Int.ediv_nonneg z0 (Int.le_of_lt p'), Int.lt_of_le_of_lt (Int.ediv_le_self _ z0) z1⟩
      have bx := bd x w3.1 w3.2
      have by_ := bd y w4.1 w4.2
      simp only [Option.bind_some]
      rw [u64_in (pw (lv n + 1) - 1 + 1) (by omega) (by omega), if_neg (by omega), show pw (lv n + 1) - 1 + 1 = pw (lv n + 1) from by omega]
      rw [u64_in x w3.1 (by omega), u64_in y w4.1 (by omega), tdiv_pos _ _ w3.1, tdiv_pos _ _ w4.1, u64_in _ bx.1 (by omega), u64_in _ by_.1 (by omega), tmod_pos _ _ bx.1, tmod_pos _ _ by_.1]
      apply hj3
      rw [if_neg (by omega), u64_in (2 * _) (by omega) (by omega), u64_in _ (by omega) (by omega), w64_in _ (by omega) (by omega)]
    · rw [if_neg h]
      apply hj3
      rw [if_pos (by omega)]
  have hj1 : croftlaw04_CellTells.j1 39 x y level (lv n) (cx / pw (lv n) * pw (lv n)) (cy / pw (lv n) * pw (lv n)) false cx cy n = some true := by
    simp only [croftlaw04_CellTells.j1, Bool.false_eq_true, if_false]
    rw [check_eq cx cy n w0.1 w0.2 w1.1 w1.2, u64_in cx w0.1 (by omega), u64_in cy w1.1 (by omega)]
    simp only [Option.bind_some]
    by_cases h1 : lv n = n
    · rw [if_pos h1]
      by_cases h2 : cx = cx / pw (lv n) * pw (lv n)
      · rw [if_pos h2]
        by_cases h3 : cy = cy / pw (lv n) * pw (lv n)
        · rw [if_pos ⟨h2.symm, h3.symm, h1⟩, show (cy == cy / pw (lv n) * pw (lv n)) = true from by simpa using h3]
          exact hj2
        · rw [if_neg (fun h => h3 h.2.1.symm), show (cy == cy / pw (lv n) * pw (lv n)) = false from by simpa using h3]
          exact hj2
      · rw [if_neg h2, if_neg (fun h => h2 h.1.symm)]
        exact hj2
    · rw [if_neg h1, if_neg (fun h => h1 h.2.2)]
      exact hj2
  have hj0 : ∀ z, z = decide (x / pw (lv n) = cx / pw (lv n) ∧ y / pw (lv n) = cy / pw (lv n)) →
      croftlaw04_CellTells.j0 40 x y level (lv n) (pw (lv n) - 1) (cx / pw (lv n) * pw (lv n)) (cy / pw (lv n) * pw (lv n)) z cx cy n = some true := by
    intro z hz
    simp only [croftlaw04_CellTells.j0]
    unfold cell_Rect.f
    rw [fix_eq cx cy n w0.1 w0.2 w1.1 w1.2]
    simp only [Option.bind_some]
    rw [side_eq _ hL.1 hL.2]
    simp only [Option.bind_some]
    rw [has_eq cx cy n x y w0.1 w0.2 w1.1 w1.2 w3.1 w3.2 w4.1 w4.2, ← hz]
    simp only [Option.bind_some, bne_self_eq_false, Bool.false_eq_true, if_false]
    rw [or_join cx _ w0.1 w0.2, or_join cy _ w1.1 w1.2]
    rw [u64_in (cx / pw (lv n) * pw (lv n)) fx.1 (by omega), u64_in (cy / pw (lv n) * pw (lv n)) fy.1 (by omega)]
    simp only [if_true, bne_self_eq_false]
    exact hj1
  unfold croftlaw04_CellTells.f
  rw [alive04, hdef, lawside_eq 7 _ hL.1 hL.2]
  have bd : ∀ z : Int, 0 ≤ z → z < 4294967296 → 0 ≤ z / pw (lv n) ∧ z / pw (lv n) < 4294967296 := fun z z0 z1 =>
    ⟨Int.ediv_nonneg z0 (Int.le_of_lt p), Int.lt_of_le_of_lt (Int.ediv_le_self _ z0) z1⟩
  have bx := bd cx w0.1 w0.2
  have by_ := bd cy w1.1 w1.2
  simp only [Option.bind_some, if_true]
  rw [u64_in (pw (lv n) - 1 + 1) (by omega) (by omega), if_neg (by omega), show pw (lv n) - 1 + 1 = pw (lv n) from by omega]
  rw [u64_in cx w0.1 (by omega), u64_in cy w1.1 (by omega), u64_in x w3.1 (by omega), u64_in y w4.1 (by omega), tdiv_pos _ _ w0.1, tdiv_pos _ _ w1.1, u64_in _ bx.1 (by omega), u64_in _ by_.1 (by omega)]
  rw [u64_in (cx / pw (lv n) * pw (lv n)) fx.1 (by omega), u64_in (cy / pw (lv n) * pw (lv n)) fy.1 (by omega)]
  rw [u64_in (cx / pw (lv n) * pw (lv n) + (pw (lv n) - 1)) (by omega) (by omega), u64_in (cy / pw (lv n) * pw (lv n) + (pw (lv n) - 1)) (by omega) (by omega)]
  have ix := in_iff x cx (lv n)
  have iy := in_iff y cy (lv n)
  by_cases c1 : x ≥ cx / pw (lv n) * pw (lv n)
  · rw [if_pos c1]
    by_cases c2 : x ≤ cx / pw (lv n) * pw (lv n) + (pw (lv n) - 1)
    · rw [if_pos c2]
      have hx := ix.1 ⟨c1, c2⟩
      by_cases c3 : y ≥ cy / pw (lv n) * pw (lv n)
      · rw [if_pos c3]
        apply hj0
        by_cases c4 : y ≤ cy / pw (lv n) * pw (lv n) + (pw (lv n) - 1)
        · have hy := iy.1 ⟨c3, c4⟩
          simp [c4, hx, hy]
        · have hy : ¬ y / pw (lv n) = cy / pw (lv n) := fun h => c4 (iy.2 h).2
          simp [c4, hy]
      · rw [if_neg c3]
        apply hj0
        have hy : ¬ y / pw (lv n) = cy / pw (lv n) := fun h => c3 (iy.2 h).1
        simp [hy]
    · rw [if_neg c2]
      apply hj0
      have hx : ¬ x / pw (lv n) = cx / pw (lv n) := fun h => c2 (ix.2 h).2
      simp [hx]
  · rw [if_neg c1]
    apply hj0
    have hx : ¬ x / pw (lv n) = cx / pw (lv n) := fun h => c1 (ix.2 h).1
    simp [hx]
end Go.Proofs.Ytjlkkipickeebaa.Pure
