/-
  Squares within squares, as printed: what a cell's side, its places and its quarters are.
  Conditions: coordinates are of Go's uint32, levels of its int.
-/
import Derived.Test.YtjlkkipickeebaaNums
import Derived.Test.YtjlkkipickeebaaPQx3
namespace Go.Proofs.Ytjlkkipickeebaa.CellQ
open Go.RowKit Go.Proofs.YtjlkkipickeebaaW.PrintWords Go.Proofs.YtjlkkipickeebaaW.PrintLast Go.Proofs.YtjlkkipickeebaaW.PrintMore Nums PQ

/-- A level as it is taken. -/
def lv (n : Int) : Int := mn (mx n 0) 32
theorem lv_bd (n : Int) : 0 ≤ lv n ∧ lv n ≤ 32 := by unfold lv mn mx; split <;> split <;> omega
theorem lv_id (n : Int) (h0 : 0 ≤ n) (h1 : n ≤ 32) : lv n = n := by unfold lv mn mx; split <;> split <;> omega
/-- How many places a side has. -/
def pw (n : Int) : Int := 2 ^ (32 - n.toNat)
theorem pw_pos (n : Int) : 0 < pw n := Int.pow_pos (by omega)
theorem pw_le (n : Int) : pw n ≤ 4294967296 := by
  have h : 2 ^ (32 - n.toNat) ≤ 2 ^ 32 := Nat.pow_le_pow_right (by omega) (by omega)
  have e : pw n = ((2 ^ (32 - n.toNat) : Nat) : Int) := by unfold pw; simp
  omega
theorem pw_succ (n : Int) (h0 : 0 ≤ n) (h1 : n < 32) : pw n = 2 * pw (n + 1) := by
  unfold pw
  rw [show 32 - n.toNat = (32 - (n + 1).toNat) + 1 from by omega, Int.pow_succ]
  omega
theorem pw_32 : pw 32 = 1 := rfl
theorem pw_dvd (a b : Int) (h : a ≤ b) : ∃ t, 0 < t ∧ pw a = pw b * t := by
  refine ⟨2 ^ ((32 - a.toNat) - (32 - b.toNat)), Int.pow_pos (by omega), ?_⟩
  unfold pw
  rw [← Int.pow_add]
  congr 1
  omega

theorem side_eq (n : Int) (h0 : 0 ≤ n) (h1 : n ≤ 32) : cell_side.f n = some (pw n - 1) := by
  unfold cell_side.f
  rw [w64_in _ (by omega) (by omega), if_pos (by omega)]
  unfold shl pw
  rw [show min (32 - n).toNat (IntKind.bits .u32) = 32 - n.toNat from by simp [IntKind.bits]; omega, IntKind.wrap_u32]
  have hp : (2 : Int) ^ (32 - n.toNat) ≤ 4294967296 := pw_le n
  have hq : 0 < (2 : Int) ^ (32 - n.toNat) := pw_pos n
  generalize (2 : Int) ^ (32 - n.toNat) = z at *
  congr 1
  omega

theorem nat_andNot (a i : Nat) (ha : a < 2 ^ 32) : (BitVec.ofNat 32 a &&& ~~~(BitVec.ofNat 32 (2 ^ i - 1))).toNat = a / 2 ^ i * 2 ^ i := by
  apply Nat.eq_of_testBit_eq
  intro j
  rw [← Nat.shiftRight_eq_div_pow, ← Nat.shiftLeft_eq, Nat.testBit_shiftLeft, Nat.testBit_shiftRight]
  rw [BitVec.testBit_toNat, BitVec.getLsbD_and, BitVec.getLsbD_not, BitVec.getLsbD_ofNat, BitVec.getLsbD_ofNat, Nat.testBit_two_pow_sub_one]
  by_cases hj : j < 32
  · by_cases h : i ≤ j
    · have h' : ¬ j < i := by omega
      simp [hj, h, h']
    · have h' : j < i := by omega
      simp [hj, h, h']
  · have : a.testBit j = false := Nat.testBit_lt_two_pow (Nat.lt_of_lt_of_le ha (Nat.pow_le_pow_right (by omega) (by omega)))
    by_cases h : i ≤ j
    · simp [hj, h, this]
    · simp [hj, h]
theorem andNot_eq (x n : Int) (h0 : 0 ≤ x) (h1 : x < 4294967296) : Go.bits .andNot .u32 x (pw n - 1) = x / pw n * pw n := by
  obtain ⟨a, rfl⟩ := Int.eq_ofNat_of_zero_le h0
  have ha : a < 2 ^ 32 := by omega
  have e : pw n - 1 = ((2 ^ (32 - n.toNat) - 1 : Nat) : Int) := by
    unfold pw
    rw [Int.natCast_sub (Nat.one_le_two_pow)]
    simp
  have e2 : pw n = ((2 ^ (32 - n.toNat) : Nat) : Int) := by unfold pw; simp
  have hn := nat_andNot a (32 - n.toNat) ha
  rw [e]
  show IntKind.u32.wrap ((BitVec.ofInt 32 (a : Int) &&& ~~~(BitVec.ofInt 32 ((2 ^ (32 - n.toNat) - 1 : Nat) : Int))).toNat : Int) = _
  rw [BitVec.ofInt_natCast, BitVec.ofInt_natCast]
  rw [hn, e2, ← Int.natCast_ediv, ← Int.natCast_mul, IntKind.wrap_u32]
  have : a / 2 ^ (32 - n.toNat) * 2 ^ (32 - n.toNat) ≤ a := Nat.div_mul_le_self _ _
  omega

theorem fix_eq (x y n : Int) (h0 : 0 ≤ x) (h1 : x < 4294967296) (h2 : 0 ≤ y) (h3 : y < 4294967296) :
    cell_fix.f x y n = some (x / pw (lv n) * pw (lv n), y / pw (lv n) * pw (lv n), lv n) := by
  unfold cell_fix.f
  have h := lv_bd n
  show (cell_side.f (lv n)).bind _ = _
  rw [side_eq _ h.1 h.2]
  simp only [Option.bind_some]
  rw [andNot_eq x _ h0 h1, andNot_eq y _ h2 h3]
  rfl
theorem fl_bd (x n : Int) (h0 : 0 ≤ x) : 0 ≤ x / pw n * pw n ∧ x / pw n * pw n ≤ x :=
  ⟨Int.mul_nonneg (Int.ediv_nonneg h0 (Int.le_of_lt (pw_pos n))) (Int.le_of_lt (pw_pos n)), Int.ediv_mul_le _ (Int.ne_of_gt (pw_pos n))⟩
theorem fl_div (x n : Int) : x / pw n * pw n / pw n = x / pw n := Int.mul_ediv_cancel _ (Int.ne_of_gt (pw_pos n))
theorem fl_iff (x c n : Int) : x / pw n * pw n = c / pw n * pw n ↔ x / pw n = c / pw n :=
  ⟨fun h => Int.eq_of_mul_eq_mul_right (Int.ne_of_gt (pw_pos n)) h, fun h => by rw [h]⟩
theorem at_eq (x y n : Int) (h0 : 0 ≤ x) (h1 : x < 4294967296) (h2 : 0 ≤ y) (h3 : y < 4294967296) :
    cell_At.f x y n = some (x / pw (lv n) * pw (lv n), y / pw (lv n) * pw (lv n), lv n) := by
  unfold cell_At.f
  rw [fix_eq x y n h0 h1 h2 h3]
  rfl
/-- Is a place in a cell? By the numbers of whole sides. -/
theorem has_eq (cx cy n x y : Int) (a0 : 0 ≤ cx) (a1 : cx < 4294967296) (b0 : 0 ≤ cy) (b1 : cy < 4294967296) (h0 : 0 ≤ x) (h1 : x < 4294967296) (h2 : 0 ≤ y) (h3 : y < 4294967296) :
    cell_Has.f cx cy n x y = some (decide (x / pw (lv n) = cx / pw (lv n) ∧ y / pw (lv n) = cy / pw (lv n))) := by
  unfold cell_Has.f
  have h := lv_bd n
  rw [fix_eq cx cy n a0 a1 b0 b1]
  simp only [Option.bind_some]
  rw [at_eq x y _ h0 h1 h2 h3, lv_id _ h.1 h.2]
  simp only [Option.bind_some, beq_self_eq_true, Bool.and_true, Option.some.injEq]
  rw [Bool.eq_iff_iff]
  simp [fl_iff]
theorem check_eq (x y n : Int) (h0 : 0 ≤ x) (h1 : x < 4294967296) (h2 : 0 ≤ y) (h3 : y < 4294967296) :
    cell_Check.f x y n = some (if x / pw (lv n) * pw (lv n) = x ∧ y / pw (lv n) * pw (lv n) = y ∧ lv n = n then 0 else 4) := by
  unfold cell_Check.f
  rw [fix_eq x y n h0 h1 h2 h3]
  simp only [Option.bind_some]
  by_cases h : x / pw (lv n) * pw (lv n) = x ∧ y / pw (lv n) * pw (lv n) = y ∧ lv n = n
  · rw [if_pos h, h.1, h.2.1, h.2.2]
    simp
  · rw [if_neg h, if_pos]
    have : ¬ (x / pw (lv n) * pw (lv n) = x) ∨ ¬ (y / pw (lv n) * pw (lv n) = y) ∨ ¬ (lv n = n) := by
      by_cases e1 : x / pw (lv n) * pw (lv n) = x
      · by_cases e2 : y / pw (lv n) * pw (lv n) = y
        · exact .inr (.inr fun e3 => h ⟨e1, e2, e3⟩)
        · exact .inr (.inl e2)
      · exact .inl e1
    simpa using this
theorem shr_eq (x s : Int) (h1 : s ≤ 32) : shr .u32 x s = x / 2 ^ s.toNat := by
  unfold shr
  rw [show min s.toNat (IntKind.bits .u32) = s.toNat from by simp [IntKind.bits]; omega]
theorem and1 (x : Int) (h0 : 0 ≤ x) (h1 : x < 4294967296) : Go.bits .and .u32 x 1 = x % 2 :=
  bits_mask .u32 32 (by decide) wraps_u32 1 (by decide) x h0 (by simpa using h1)
theorem or2 (x y : Int) (h0 : 0 ≤ x) (h1 : x < 2) (h2 : 0 ≤ y) (h3 : y < 2) : Go.bits .or .u32 x (y * 2 % 4294967296) = x + 2 * y := by
  have hx : x = 0 ∨ x = 1 := by omega
  have hy : y = 0 ∨ y = 1 := by omega
  rcases hx with rfl | rfl <;> rcases hy with rfl | rfl <;> decide
theorem quarter_eq (cx cy n x y : Int) (a0 : 0 ≤ cx) (a1 : cx < 4294967296) (b0 : 0 ≤ cy) (b1 : cy < 4294967296) (h0 : 0 ≤ x) (h1 : x < 4294967296) (h2 : 0 ≤ y) (h3 : y < 4294967296) :
    cell_Quarter.f cx cy n x y = some (if lv n = 32 then 0 else x / pw (lv n + 1) % 2 + 2 * (y / pw (lv n + 1) % 2)) := by
  unfold cell_Quarter.f
  have h := lv_bd n
  rw [fix_eq cx cy n a0 a1 b0 b1]
  simp only [Option.bind_some]
  by_cases he : lv n = 32
  · rw [if_pos he, if_pos he]
  · rw [if_neg he, if_neg he, w64_in _ (by omega) (by omega), if_pos (by omega), shr_eq _ _ (by omega), shr_eq _ _ (by omega)]
    have hp : (2 : Int) ^ (31 - lv n).toNat = pw (lv n + 1) := by
      unfold pw
      congr 1
      omega
    rw [hp]
    have q := pw_pos (lv n + 1)
    have bd : ∀ z : Int, 0 ≤ z → z < 4294967296 → 0 ≤ z / pw (lv n + 1) ∧ z / pw (lv n + 1) < 4294967296 := fun z z0 z1 =>
      ⟨Int.ediv_nonneg z0 (Int.le_of_lt q), Int.lt_of_le_of_lt (Int.ediv_le_self _ z0) z1⟩
    have bx := bd x h0 h1
    have by_ := bd y h2 h3
    rw [and1 _ bx.1 bx.2, and1 _ by_.1 by_.2, or2 _ _ (by omega) (by omega) (by omega) (by omega), w64_in _ (by omega) (by omega)]
theorem alive04 : croftlaw04_alive.f = some true := by
  unfold croftlaw04_alive.f cell_Root.f
  simp only [Option.bind_some]
  rw [quarter_eq 0 0 0 2147483648 0 (by omega) (by omega) (by omega) (by omega) (by omega) (by omega) (by omega) (by omega), check_eq 1 0 0 (by omega) (by omega) (by omega) (by omega)]
  rfl
/-- Whole sides of a greater cell. -/
theorem div_coarse (x y a b : Int) (h : a ≤ b) (e : x / pw b = y / pw b) : x / pw a = y / pw a := by
  obtain ⟨t, ht, hp⟩ := pw_dvd a b h
  rw [hp, ← Int.ediv_ediv_of_nonneg (Int.le_of_lt (pw_pos b)), ← Int.ediv_ediv_of_nonneg (Int.le_of_lt (pw_pos b)), e]
theorem in_iff (x c n : Int) : (c / pw n * pw n ≤ x ∧ x ≤ c / pw n * pw n + (pw n - 1)) ↔ x / pw n = c / pw n := by
  have q := pw_pos n
  constructor
  · rintro ⟨h0, h1⟩
    apply Int.le_antisymm
    · have : x / pw n < c / pw n + 1 := Int.ediv_lt_of_lt_mul q (by rw [Int.add_mul]; omega)
      omega
    · exact (Int.le_ediv_iff_mul_le q).2 h0
  · intro h
    rw [← h]
    have h1 := Int.mul_ediv_add_emod x (pw n)
    have h2 := Int.emod_nonneg x (Int.ne_of_gt q)
    have h3 := Int.emod_lt_of_pos x q
    have h4 : pw n * (x / pw n) = x / pw n * pw n := Int.mul_comm _ _
    omega
end Go.Proofs.Ytjlkkipickeebaa.CellQ
