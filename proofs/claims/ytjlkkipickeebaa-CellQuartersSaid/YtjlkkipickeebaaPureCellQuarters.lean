/-
  The plain half of the law CellQuarters: what its code computes is true, at all numbers of the kinds that come in.
  Conditions: none but the kinds' own bounds.
-/
import Derived.Test.YtjlkkipickeebaaCellQ
import Derived.Test.YtjlkkipickeebaaPQx4
namespace Go.Proofs.Ytjlkkipickeebaa.Pure
open Go.RowKit Go.Proofs.Ytjlkkipickeebaa.PQ Go.Proofs.YtjlkkipickeebaaW.PrintWords Go.Proofs.YtjlkkipickeebaaW.PrintLast Go.Proofs.YtjlkkipickeebaaW.PrintMore Nums CellQ

/-! ### bits of a number with a sign -/
theorem and64_nat (a : Int) (b : Nat) (hb : b < 4) : Go.bits .and .i64 a b = (((a % 18446744073709551616).toNat &&& b : Nat) : Int) := by
  have e : BitVec.ofInt 64 a = BitVec.ofNat 64 (a % 18446744073709551616).toNat := by
    apply BitVec.eq_of_toNat_eq
    rw [BitVec.toNat_ofInt, BitVec.toNat_ofNat]
    have : (a % 18446744073709551616).toNat < 2 ^ 64 := by omega
    rw [Nat.mod_eq_of_lt this]
    rfl
  show IntKind.i64.wrap ((BitVec.ofInt 64 a &&& BitVec.ofInt 64 (b : Int)).toNat : Int) = _
  rw [e, BitVec.ofInt_natCast, BitVec.toNat_and, BitVec.toNat_ofNat, BitVec.toNat_ofNat]
  have h1 : (a % 18446744073709551616).toNat < 2 ^ 64 := by omega
  rw [Nat.mod_eq_of_lt h1, Nat.mod_eq_of_lt (by omega : b < 2 ^ 64)]
  have h2 : (a % 18446744073709551616).toNat &&& b ≤ b := Nat.and_le_right
  rw [IntKind.wrap_i64]
  omega
theorem and_3 (a : Int) : Go.bits .and .i64 a 3 = a % 4 := by
  have h := and64_nat a 3 (by omega)
  have e : (a % 18446744073709551616).toNat &&& 3 = (a % 18446744073709551616).toNat % 4 := Nat.and_two_pow_sub_one_eq_mod _ 2
  rw [e] at h
  have h' : Go.bits .and .i64 a 3 = (((a % 18446744073709551616).toNat % 4 : Nat) : Int) := h
  rw [h']
  omega
theorem and_1 (a : Int) : Go.bits .and .i64 a 1 = a % 2 := by
  have h := and64_nat a 1 (by omega)
  rw [Nat.and_one_is_mod] at h
  have h' : Go.bits .and .i64 a 1 = (((a % 18446744073709551616).toNat % 2 : Nat) : Int) := h
  rw [h']
  omega
theorem and_2 (a : Int) : Go.bits .and .i64 a 2 = 2 * (a / 2 % 2) := by
  have h := and64_nat a 2 (by omega)
  have e : (a % 18446744073709551616).toNat &&& 2 = ((a % 18446744073709551616).toNat % 4) &&& 2 := by
    rw [← Nat.and_two_pow_sub_one_eq_mod _ 2, Nat.and_assoc]
    rfl
  have e2 : ∀ u, u < 4 → u &&& 2 = 2 * (u / 2) := by decide
  rw [e, e2 _ (Nat.mod_lt _ (by omega))] at h
  have h' : Go.bits .and .i64 a 2 = ((2 * ((a % 18446744073709551616).toNat % 4 / 2) : Nat) : Int) := h
  rw [h']
  omega

theorem or_half (x n : Int) (h0 : 0 ≤ x) (h1 : x < 4294967296) (hn0 : 0 ≤ n) (hn : n < 32) : Go.bits .or .u32 (x / pw n * pw n) (pw (n + 1)) = x / pw n * pw n + pw (n + 1) := by
  have f := fl_bd x n h0
  have p := pw_pos (n + 1)
  have q := pw_succ n hn0 hn
  have r := pw_le n
  exact bits_join .u32 32 (by decide) wraps_u32 (32 - n.toNat) _ _ f.1 (by show x / pw n * pw n % pw n = 0; exact Int.mul_emod_left _ _) (by omega) (by omega) (by show pw (n + 1) < pw n; omega) (by omega)

theorem or_joinq (x n : Int) (h0 : 0 ≤ x) (h1 : x < 4294967296) : Go.bits .or .u32 (x / pw n * pw n) (pw n - 1) = x / pw n * pw n + (pw n - 1) := by
  have f := fl_bd x n h0
  have p := pw_pos n
  have q := pw_le n
  exact bits_join .u32 32 (by decide) wraps_u32 (32 - n.toNat) _ _ f.1 (by show x / pw n * pw n % pw n = 0; exact Int.mul_emod_left _ _) (by omega) (by omega) (by show pw n - 1 < pw n; omega) (by omega)

/-- A quarter, as it is made. -/
theorem kid_eq (cx cy n q : Int) (a0 : 0 ≤ cx) (a1 : cx < 4294967296) (b0 : 0 ≤ cy) (b1 : cy < 4294967296) :
    cell_Kid.f cx cy n q = some (if lv n = 32 then (cx / pw (lv n) * pw (lv n), cy / pw (lv n) * pw (lv n), lv n)
      else (cx / pw (lv n) * pw (lv n) + q % 2 * pw (lv n + 1), cy / pw (lv n) * pw (lv n) + q / 2 % 2 * pw (lv n + 1), lv n + 1)) := by
  unfold cell_Kid.f
  have h := lv_bd n
  rw [fix_eq cx cy n a0 a1 b0 b1]
  simp only [Option.bind_some]
  by_cases he : lv n = 32
  · rw [if_pos he, if_pos he]
  · rw [if_neg he, if_neg he, w64_in _ (by omega) (by omega), side_eq _ (by omega) (by omega)]
    simp only [Option.bind_some]
    have p := pw_pos (lv n + 1)
    have s := pw_succ (lv n) h.1 (by omega)
    have r := pw_le (lv n)
    rw [show (pw (lv n + 1) - 1 + 1) % 4294967296 = pw (lv n + 1) from by omega, or_half cx _ a0 a1 h.1 (by omega), or_half cy _ b0 b1 h.1 (by omega), and_1, and_2]
    by_cases h1 : q % 2 = 1
    · rw [if_pos h1, h1]
      by_cases h2 : q / 2 % 2 = 1
      · rw [if_pos (by omega), h2, Int.one_mul]
      · rw [if_neg (by omega), show q / 2 % 2 = 0 from by omega, Int.one_mul, Int.zero_mul, Int.add_zero]
    · rw [if_neg h1, show q % 2 = 0 from by omega, Int.zero_mul, Int.add_zero]
      by_cases h2 : q / 2 % 2 = 1
      · rw [if_pos (by omega), h2, Int.one_mul]
      · rw [if_neg (by omega), show q / 2 % 2 = 0 from by omega, Int.zero_mul, Int.add_zero]

/-- Which half of a side: in whole halves. -/
theorem half_of (x n b : Int) (hn0 : 0 ≤ n) (hn : n < 32) : (x / pw n * pw n + b * pw (n + 1)) / pw (n + 1) = 2 * (x / pw n) + b := by
  rw [pw_succ n hn0 hn, show x / (2 * pw (n + 1)) * (2 * pw (n + 1)) + b * pw (n + 1) = (2 * (x / (2 * pw (n + 1))) + b) * pw (n + 1) from by grind]
  exact Int.mul_ediv_cancel _ (Int.ne_of_gt (pw_pos (n + 1)))
theorem up_half (x n : Int) (hn0 : 0 ≤ n) (hn : n < 32) : x / pw n = x / pw (n + 1) / 2 := by
  rw [pw_succ n hn0 hn, Int.mul_comm, Int.ediv_ediv_of_nonneg (Int.le_of_lt (pw_pos (n + 1)))]
theorem half_bd (x n b : Int) (h0 : 0 ≤ x) (h1 : x < 4294967296) (hn0 : 0 ≤ n) (hn : n < 32) (hb0 : 0 ≤ b) (hb : b < 2) :
    0 ≤ x / pw n * pw n + b * pw (n + 1) ∧ x / pw n * pw n + b * pw (n + 1) < 4294967296 := by
  have f := fl_bd x n h0
  have p := pw_pos (n + 1)
  have s := pw_succ n hn0 hn
  obtain ⟨t, ht, hp⟩ := pw_dvd 0 n hn0
  have hz : pw 0 = 4294967296 := rfl
  have hlt : x / pw n < t := Int.ediv_lt_of_lt_mul (pw_pos n) (by rw [Int.mul_comm]; omega)
  have hle : (x / pw n + 1) * pw n ≤ t * pw n := Int.mul_le_mul_of_nonneg_right (by omega) (by omega)
  rw [Int.add_mul, Int.mul_comm t] at hle
  have hb' : b = 0 ∨ b = 1 := by omega
  rcases hb' with rfl | rfl <;> omega

theorem CellQuarters : croftlaw04_CellQuarters.Pure := by
  intro cx cy n x y q w0 w1 _ w3 w4 _
  have w0 := wf_u32 w0
  have w1 := wf_u32 w1
  have w3 := wf_u32 w3
  have w4 := wf_u32 w4
  refine ⟨7, ?_⟩
  have hL := lv_bd n
  have p := pw_pos (lv n)
  have fx := fl_bd cx (lv n) w0.1
  have fy := fl_bd cy (lv n) w1.1
  unfold croftlaw04_CellQuarters.f
  rw [alive04, at_eq cx cy n w0.1 w0.2 w1.1 w1.2]
  simp only [Option.bind_some, if_true]
  have hll : lv (lv n) = lv n := lv_id _ hL.1 hL.2
  have kid : ∀ i, cell_Kid.f (cx / pw (lv n) * pw (lv n)) (cy / pw (lv n) * pw (lv n)) (lv n) i = some (if lv n = 32 then (cx / pw (lv n) * pw (lv n), cy / pw (lv n) * pw (lv n), lv n)
      else (cx / pw (lv n) * pw (lv n) + i % 2 * pw (lv n + 1), cy / pw (lv n) * pw (lv n) + i / 2 % 2 * pw (lv n + 1), lv n + 1)) := by
    intro i
    rw [kid_eq _ _ _ _ fx.1 (by omega) fy.1 (by omega), hll, fl_div, fl_div]
  rw [kid q]
  simp only [Option.bind_some]
  by_cases h32 : lv n = 32
  · rw [if_pos h32, if_pos h32]
    simp only [beq_self_eq_true, Bool.and_self, if_true]
    rw [quarter_eq _ _ _ x y fx.1 (by omega) fy.1 (by omega) w3.1 w3.2 w4.1 w4.2, hll, if_pos h32]
    rfl
  · rw [if_neg h32, if_neg h32]
    have h31 : lv n < 32 := by omega
    have p' := pw_pos (lv n + 1)
    have s' := pw_succ (lv n) hL.1 h31
    have hl1 : lv (lv n + 1) = lv n + 1 := lv_id _ (by omega) (by omega)
    -- in halves
    have ux := up_half x (lv n) hL.1 h31
    have uy := up_half y (lv n) hL.1 h31
    have haskid : ∀ i, cell_Has.f (cx / pw (lv n) * pw (lv n) + i % 2 * pw (lv n + 1)) (cy / pw (lv n) * pw (lv n) + i / 2 % 2 * pw (lv n + 1)) (lv n + 1) x y =
        some (decide (x / pw (lv n + 1) = 2 * (cx / pw (lv n)) + i % 2 ∧ y / pw (lv n + 1) = 2 * (cy / pw (lv n)) + i / 2 % 2)) := by
      intro i
      have b1 := half_bd cx (lv n) (i % 2) w0.1 w0.2 hL.1 h31 (by omega) (by omega)
      have b2 := half_bd cy (lv n) (i / 2 % 2) w1.1 w1.2 hL.1 h31 (by omega) (by omega)
      rw [has_eq _ _ _ x y b1.1 b1.2 b2.1 b2.2 w3.1 w3.2 w4.1 w4.2, hl1, half_of cx _ _ hL.1 h31, half_of cy _ _ hL.1 h31]
    have hascell : cell_Has.f (cx / pw (lv n) * pw (lv n)) (cy / pw (lv n) * pw (lv n)) (lv n) x y = some (decide (x / pw (lv n + 1) / 2 = cx / pw (lv n) ∧ y / pw (lv n + 1) / 2 = cy / pw (lv n))) := by
      rw [has_eq _ _ _ x y fx.1 (by omega) fy.1 (by omega) w3.1 w3.2 w4.1 w4.2, hll, fl_div, fl_div, ux, uy]
    have hquarter : cell_Quarter.f (cx / pw (lv n) * pw (lv n)) (cy / pw (lv n) * pw (lv n)) (lv n) x y = some (x / pw (lv n + 1) % 2 + 2 * (y / pw (lv n + 1) % 2)) := by
      rw [quarter_eq _ _ _ x y fx.1 (by omega) fy.1 (by omega) w3.1 w3.2 w4.1 w4.2, hll, if_neg h32]
    simp only [if_neg h32] at kid
    have hrect : cell_Rect.f (cx / pw (lv n) * pw (lv n)) (cy / pw (lv n) * pw (lv n)) (lv n) = some (cx / pw (lv n) * pw (lv n), cy / pw (lv n) * pw (lv n), cx / pw (lv n) * pw (lv n) + (pw (lv n) - 1), cy / pw (lv n) * pw (lv n) + (pw (lv n) - 1)) := by
      unfold cell_Rect.f
      rw [fix_eq _ _ _ fx.1 (by omega) fy.1 (by omega), hll, fl_div, fl_div]
      simp only [Option.bind_some]
      rw [side_eq _ hL.1 hL.2]
      simp only [Option.bind_some]
      rw [or_joinq cx _ w0.1 w0.2, or_joinq cy _ w1.1 w1.2]
    have kb1 := half_bd cx (lv n) (q % 2) w0.1 w0.2 hL.1 h31 (by omega) (by omega)
    have kb2 := half_bd cy (lv n) (q / 2 % 2) w1.1 w1.2 hL.1 h31 (by omega) (by omega)
    have own : ∀ c b : Int, (2 * (c / pw (lv n)) + b) * pw (lv n + 1) = c / pw (lv n) * pw (lv n) + b * pw (lv n + 1) := by
      intro c b
      rw [s']
      grind
    have hrectk : cell_Rect.f (cx / pw (lv n) * pw (lv n) + q % 2 * pw (lv n + 1)) (cy / pw (lv n) * pw (lv n) + q / 2 % 2 * pw (lv n + 1)) (lv n + 1) =
        some (cx / pw (lv n) * pw (lv n) + q % 2 * pw (lv n + 1), cy / pw (lv n) * pw (lv n) + q / 2 % 2 * pw (lv n + 1), cx / pw (lv n) * pw (lv n) + q % 2 * pw (lv n + 1) + (pw (lv n + 1) - 1), cy / pw (lv n) * pw (lv n) + q / 2 % 2 * pw (lv n + 1) + (pw (lv n + 1) - 1)) := by
      unfold cell_Rect.f
      rw [fix_eq _ _ _ kb1.1 kb1.2 kb2.1 kb2.2, hl1]
      simp only [Option.bind_some]
      rw [side_eq _ (by omega) (by omega)]
      simp only [Option.bind_some]
      rw [or_joinq _ _ kb1.1 kb1.2, or_joinq _ _ kb2.1 kb2.2, half_of cx _ _ hL.1 h31, half_of cy _ _ hL.1 h31, own, own]
    have hkq : cell_Kid.f (cx / pw (lv n) * pw (lv n)) (cy / pw (lv n) * pw (lv n)) (lv n) (Go.bits .and .i64 q 3) = some (cx / pw (lv n) * pw (lv n) + q % 2 * pw (lv n + 1), cy / pw (lv n) * pw (lv n) + q / 2 % 2 * pw (lv n + 1), lv n + 1) := by
      rw [kid, and_3, show q % 4 % 2 = q % 2 from by omega, show q % 4 / 2 % 2 = q / 2 % 2 from by omega]
    have bu : 0 ≤ q % 2 ∧ q % 2 ≤ 1 := by omega
    have bv : 0 ≤ q / 2 % 2 ∧ q / 2 % 2 ≤ 1 := by omega
    generalize hu : x / pw (lv n + 1) = u at *
    generalize hv : y / pw (lv n + 1) = v at *
    generalize cx / pw (lv n) = P at *
    generalize cy / pw (lv n) = Q at *
    have last : ∀ c, c = (if u / 2 = P ∧ v / 2 = Q then 1 else 0) → croftlaw04_CellQuarters.j1 2 x y c false (P * pw (lv n)) (Q * pw (lv n)) (lv n) = some true := by
      intro c hc
      simp only [croftlaw04_CellQuarters.j1, Bool.false_eq_true, if_false]
      rw [hascell]
      simp only [Option.bind_some]
      by_cases h : u / 2 = P ∧ v / 2 = Q
      · rw [if_pos h] at hc
        rw [if_pos (by simpa using h), if_pos hc, hquarter]
        simp only [Option.bind_some]
        rw [kid]
        simp only [Option.bind_some]
        rw [haskid]
        simp only [Option.bind_some, Option.some.injEq, decide_eq_true_eq]
        omega
      · rw [if_neg h] at hc
        rw [if_neg (by simpa using h), hc]
        rfl
    have fin : ∀ c, c = (if u / 2 = P ∧ v / 2 = Q then 1 else 0) → croftlaw04_CellQuarters.l0 3 x y q c 4 (P * pw (lv n)) (Q * pw (lv n)) (lv n) (P * pw (lv n) + q % 2 * pw (lv n + 1)) (Q * pw (lv n) + q / 2 % 2 * pw (lv n + 1)) (lv n + 1) = some true := by
      intro c hc
      simp only [croftlaw04_CellQuarters.l0]
      rw [if_neg (by omega), hrect, hrectk, hkq]
      simp only [Option.bind_some]
      rw [w64_in _ (by omega) (by omega), if_pos (by omega)]
      have m1 := Int.mul_le_mul_of_nonneg_right bu.2 (Int.le_of_lt p')
      have m2 := Int.mul_le_mul_of_nonneg_right bv.2 (Int.le_of_lt p')
      have m3 := Int.mul_nonneg bu.1 (Int.le_of_lt p')
      have m4 := Int.mul_nonneg bv.1 (Int.le_of_lt p')
      rw [if_neg (by omega), if_neg (by omega), if_neg (by omega), if_neg (by omega)]
      simp only [beq_self_eq_true, Bool.not_true, Bool.or_false]
      exact last c hc
    have step : ∀ (k : Nat) (c i : Int), 0 ≤ i → i < 4 → 0 ≤ c → c < 4 → croftlaw04_CellQuarters.l0 (k + 1) x y q c i (P * pw (lv n)) (Q * pw (lv n)) (lv n) (P * pw (lv n) + q % 2 * pw (lv n + 1)) (Q * pw (lv n) + q / 2 % 2 * pw (lv n + 1)) (lv n + 1) =
        croftlaw04_CellQuarters.l0 k x y q (c + if u = 2 * P + i % 2 ∧ v = 2 * Q + i / 2 % 2 then 1 else 0) (i + 1) (P * pw (lv n)) (Q * pw (lv n)) (lv n) (P * pw (lv n) + q % 2 * pw (lv n + 1)) (Q * pw (lv n) + q / 2 % 2 * pw (lv n + 1)) (lv n + 1) := by
      intro k c i i0 i1 c0 c1
      generalize hR : croftlaw04_CellQuarters.l0 k x y q (c + if u = 2 * P + i % 2 ∧ v = 2 * Q + i / 2 % 2 then 1 else 0) (i + 1) (P * pw (lv n)) (Q * pw (lv n)) (lv n) (P * pw (lv n) + q % 2 * pw (lv n + 1)) (Q * pw (lv n) + q / 2 % 2 * pw (lv n + 1)) (lv n + 1) = R
      simp only [croftlaw04_CellQuarters.l0]
      rw [if_pos i1, kid i]
      simp only [Option.bind_some]
      rw [haskid i, w64_in (i + 1) (by omega) (by omega), w64_in (c + 1) (by omega) (by omega)]
      simp only [Option.bind_some]
      by_cases h : u = 2 * P + i % 2 ∧ v = 2 * Q + i / 2 % 2
      · rw [if_pos (by simpa using h), ← hR, if_pos h]
      · rw [if_neg (by simpa using h), ← hR, if_neg h, Int.add_zero]
    have ib : ∀ i, (0 : Int) ≤ (if u = 2 * P + i % 2 ∧ v = 2 * Q + i / 2 % 2 then 1 else 0) ∧ (if u = 2 * P + i % 2 ∧ v = 2 * Q + i / 2 % 2 then 1 else 0) ≤ (1 : Int) := by
      intro i
      split <;> omega
    have i0 := ib 0
    have i1 := ib 1
    have i2 := ib 2
    rw [step 6 0 0 (by omega) (by omega) (by omega) (by omega)]
    rw [step 5 _ (0 + 1) (by omega) (by omega) (by omega) (by omega)]
    rw [step 4 _ (0 + 1 + 1) (by omega) (by omega) (by omega) (by omega)]
    rw [step 3 _ (0 + 1 + 1 + 1) (by omega) (by omega) (by omega) (by omega)]
    apply fin
    by_cases h : u / 2 = P ∧ v / 2 = Q
    · rw [if_pos h]
      split <;> split <;> split <;> split <;> omega
    · rw [if_neg h]
      split <;> split <;> split <;> split <;> omega
end Go.Proofs.Ytjlkkipickeebaa.Pure
