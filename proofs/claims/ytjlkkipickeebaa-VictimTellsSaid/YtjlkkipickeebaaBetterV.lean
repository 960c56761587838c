/-
  victim.Better, as printed: which of two exact products is greater.
  Conditions: all numbers are of Go's int.
-/
import Derived.Test.YtjlkkipickeebaaMulV
import Derived.Test.YtjlkkipickeebaaPVx3
namespace Go.Proofs.Ytjlkkipickeebaa.BetV
open Go.RowKit Go.Proofs.YtjlkkipickeebaaW.PrintWords Go.Proofs.YtjlkkipickeebaaW.PrintLast Go.Proofs.YtjlkkipickeebaaW.PrintMore Nums MulV PV

/-- The nearest number from lo to hi. -/
def cl (n lo hi : Int) : Int := mn (mx n lo) hi
theorem cl_lo (n lo hi : Int) (h : lo ≤ hi) : lo ≤ cl n lo hi := by unfold cl mn mx; split <;> split <;> omega
theorem cl_hi (n lo hi : Int) : cl n lo hi ≤ hi := by unfold cl mn mx; split <;> split <;> omega
theorem cl_id (n lo hi : Int) (h0 : lo ≤ n) (h1 : n ≤ hi) : cl n lo hi = n := by unfold cl mn mx; split <;> split <;> omega
/-- What a segment is worth, but for its divisor. -/
def worth (s l a : Int) : Int := mx (s - l) 0 * a
theorem mx0 (n : Int) : 0 ≤ mx n 0 ∧ n ≤ mx n 0 := by unfold mx; split <;> omega
theorem mx_hi (n m : Int) (h : n ≤ m) (h0 : 0 ≤ m) : mx n 0 ≤ m := by unfold mx; split <;> omega
theorem mx_id (n : Int) (h : 0 ≤ n) : mx n 0 = n := by unfold mx; split <;> omega
theorem mx_nil (n : Int) (h : n ≤ 0) : mx n 0 = 0 := by unfold mx; split <;> omega

theorem product_eq (w a m : Int) (h0 : 0 ≤ w) (h1 : w ≤ 1024) (h2 : 0 ≤ a) (h3 : a ≤ 4294967296) (h4 : 0 ≤ m) (h5 : m ≤ 2048) :
    victim_product.f w a m = some (0, w * a * m) := by
  unfold victim_product.f
  have b1 := le_mul w a 1024 4294967296 h0 h1 h2 h3
  rw [u64_in w h0 (by omega), u64_in a h2 (by omega), u64_in m h4 (by omega)]
  have b2 := le_mul (w * a) m (1024 * 4294967296) 2048 b1.1 b1.2 h4 h5
  rw [u64_in (w * a) b1.1 (by omega), mul64 (w * a) m b1.1 (by omega) h4 (by omega)]
  generalize w * a * m = z at *
  simp only [Option.bind_some, Option.some.injEq, Prod.mk.injEq]
  omega

theorem better_eq (s la aa lb ab : Int) :
    victim_Better.f s la aa lb ab = some (decide (worth (cl s 0 1024) (cl lb 0 1024) (cl ab 1 4294967296) * (cl s 0 1024 + cl la 0 1024) < worth (cl s 0 1024) (cl la 0 1024) (cl aa 1 4294967296) * (cl s 0 1024 + cl lb 0 1024))) := by
  unfold victim_Better.f victim_fix.f victim_near.f
  simp only [Option.bind_some]
  show ((victim_product.f (mx (wrap64 (cl s 0 1024 - cl la 0 1024)) 0) (cl aa 1 4294967296) (wrap64 (cl s 0 1024 + cl lb 0 1024))).bind fun bt130 =>
    (victim_product.f (mx (wrap64 (cl s 0 1024 - cl lb 0 1024)) 0) (cl ab 1 4294967296) (wrap64 (cl s 0 1024 + cl la 0 1024))).bind fun bt132 =>
      if bt130.1 > bt132.1 then some true else if bt130.1 = bt132.1 then some (decide (bt130.2 > bt132.2)) else some false) = _
  have s0 := cl_lo s 0 1024 (by omega)
  have s1 := cl_hi s 0 1024
  have a0 := cl_lo la 0 1024 (by omega)
  have a1 := cl_hi la 0 1024
  have b0 := cl_lo lb 0 1024 (by omega)
  have b1 := cl_hi lb 0 1024
  have c0 := cl_lo aa 1 4294967296 (by omega)
  have c1 := cl_hi aa 1 4294967296
  have d0 := cl_lo ab 1 4294967296 (by omega)
  have d1 := cl_hi ab 1 4294967296
  generalize cl s 0 1024 = S at *
  generalize cl la 0 1024 = A at *
  generalize cl lb 0 1024 = B at *
  generalize cl aa 1 4294967296 = C at *
  generalize cl ab 1 4294967296 = D at *
  rw [w64_in (S - A) (by omega) (by omega), w64_in (S + B) (by omega) (by omega), w64_in (S - B) (by omega) (by omega), w64_in (S + A) (by omega) (by omega)]
  rw [product_eq _ C _ (mx0 _).1 (mx_hi _ _ (by omega) (by omega)) (by omega) c1 (by omega) (by omega), product_eq _ D _ (mx0 _).1 (mx_hi _ _ (by omega) (by omega)) (by omega) d1 (by omega) (by omega)]
  simp only [Option.bind_some, gt_iff_lt, Int.lt_irrefl, if_false, if_true]
  rfl

theorem worth_nonneg (s l a : Int) (h : 0 ≤ a) : 0 ≤ worth s l a := Int.mul_nonneg (mx0 _).1 h
/-- Being worth more goes on. -/
theorem more_trans (x y z p q r : Int) (hp : 0 < p) (hq : 0 < q) (hr : 0 < r) (h1 : y * p < x * q) (h2 : z * q < y * r) : z * p < x * r := by
  have e1 : y * p * r < x * q * r := Int.mul_lt_mul_of_pos_right h1 hr
  have e2 : z * q * p < y * r * p := Int.mul_lt_mul_of_pos_right h2 hp
  have e3 : z * p * q < x * r * q := by
    have a1 : z * q * p = z * p * q := by grind
    have a2 : y * r * p = y * p * r := by grind
    have a3 : x * q * r = x * r * q := by grind
    omega
  exact Int.lt_of_mul_lt_mul_right e3 (by omega)
theorem alive_true : croftlaw27_alive.f = some true := by
  unfold croftlaw27_alive.f
  rw [better_eq, better_eq]
  decide
end Go.Proofs.Ytjlkkipickeebaa.BetV
