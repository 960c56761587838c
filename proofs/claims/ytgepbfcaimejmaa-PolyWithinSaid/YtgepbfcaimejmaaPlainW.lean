/-
  Numbers, products, turns, sides and polygons of small places, as the printed functions reckon them.
  Conditions: coordinates are of Go's uint32; of small places below 2^20.
-/
import Derived.Laws.BitsLemmas
import Derived.RowKit
import Derived.Test.YtgepbfcaimejmaaWMore
import Derived.Test.YtgepbfcaimejmaaExt
import Derived.Test.YtgepbfcaimejmaaPAx3
import Derived.Test.YtgepbfcaimejmaaPAx5
import Derived.Test.YtgepbfcaimejmaaPAx9
import Derived.Test.YtgepbfcaimejmaaPAx10
import Derived.Test.YtgepbfcaimejmaaPAw1
import Derived.Test.YtgepbfcaimejmaaWithinA
namespace Go.Proofs.Ytgepbfcaimejmaa.Nums
open Go.RowKit Go.Proofs.YtgepbfcaimejmaaW.PrintWords Go.Proofs.YtgepbfcaimejmaaW.PrintLast Go.Proofs.YtgepbfcaimejmaaW.PrintMore

theorem u64_wrap (n : Int) : IntKind.u64.wrap n = n % 18446744073709551616 := by simp [IntKind.wrap, IntKind.bits, IntKind.signed]
theorem u64_in (n : Int) (h0 : 0 ≤ n) (h1 : n < 18446744073709551616) : IntKind.u64.wrap n = n := by rw [u64_wrap]; omega
theorem wraps_u64 (n : Int) (h₀ : 0 ≤ n) (h₁ : n < 2 ^ 64) : IntKind.u64.wrap n = n := u64_in n h₀ (by simpa using h₁)
theorem wraps_u32 (n : Int) (h₀ : 0 ≤ n) (h₁ : n < 2 ^ 32) : IntKind.u32.wrap n = n := by rw [IntKind.wrap_u32]; omega
theorem w64_in (n : Int) (h0 : -9223372036854775808 ≤ n) (h1 : n ≤ 9223372036854775807) : wrap64 n = n := by unfold wrap64; omega
theorem and64 (a : Int) (h0 : 0 ≤ a) (h1 : a < 18446744073709551616) : Go.bits .and .u64 a 4294967295 = a % 4294967296 :=
  bits_mask .u64 64 (by decide) wraps_u64 32 (by decide) a h0 (by simpa using h1)
theorem wf_u32 {a : Int} (h : (Lit.int .u32 a).wf = true) : 0 ≤ a ∧ a < 4294967296 := by
  have : IntKind.u32.min ≤ a ∧ a ≤ IntKind.u32.max := by simpa [Lit.wf] using h
  simp [IntKind.min, IntKind.max, IntKind.bits, IntKind.signed] at this
  omega
theorem wf_u64 {a : Int} (h : (Lit.int .u64 a).wf = true) : 0 ≤ a ∧ a < 18446744073709551616 := by
  have : IntKind.u64.min ≤ a ∧ a ≤ IntKind.u64.max := by simpa [Lit.wf] using h
  simp [IntKind.min, IntKind.max, IntKind.bits, IntKind.signed] at this
  omega
theorem wf_i64 {a : Int} (h : (Lit.int .i64 a).wf = true) : -9223372036854775808 ≤ a ∧ a ≤ 9223372036854775807 := by
  have : IntKind.i64.min ≤ a ∧ a ≤ 9223372036854775807 := by simpa [Lit.wf] using h
  simp [IntKind.min, IntKind.bits, IntKind.signed] at this
  omega
theorem tdiv_pos (a b : Int) (h : 0 ≤ a) : Int.tdiv a b = a / b := Int.tdiv_eq_ediv_of_nonneg h
theorem tmod_pos (a b : Int) (h : 0 ≤ a) : Int.tmod a b = a % b := Int.tmod_eq_emod_of_nonneg h

/-- The product's upper digit, as the code reckons it. -/
theorem mul_hi (a1 a0 b1 b0 : Int) :
    a1 * b1 + (a1 * b0 + a0 * b0 / 4294967296) / 4294967296 + ((a1 * b0 + a0 * b0 / 4294967296) % 4294967296 + a0 * b1) / 4294967296 = (a1 * 4294967296 + a0) * (b1 * 4294967296 + b0) / 18446744073709551616 := by
  have e : (a1 * 4294967296 + a0) * (b1 * 4294967296 + b0) = (a1 * b1) * 18446744073709551616 + (a1 * b0) * 4294967296 + (a0 * b1) * 4294967296 + a0 * b0 := by grind
  rw [e]
  generalize a1 * b1 = p
  generalize a1 * b0 = q
  generalize a0 * b1 = r
  generalize a0 * b0 = s
  omega
theorem le_mul (a b m n : Int) (h0 : 0 ≤ a) (h1 : a ≤ m) (h2 : 0 ≤ b) (h3 : b ≤ n) : 0 ≤ a * b ∧ a * b ≤ m * n :=
  ⟨Int.mul_nonneg h0 h2, Int.mul_le_mul h1 h3 h2 (by omega)⟩
end Go.Proofs.Ytgepbfcaimejmaa.Nums

namespace Go.Proofs.Ytgepbfcaimejmaa.MulA
open Go.RowKit Nums PA

theorem mul64 (a b : Int) (h0 : 0 ≤ a) (h1 : a < 18446744073709551616) (h2 : 0 ≤ b) (h3 : b < 18446744073709551616) :
    bits_Mul64.f a b = some (a * b / 18446744073709551616, a * b % 18446744073709551616) := by
  unfold bits_Mul64.f
  rw [and64 a h0 h1, and64 b h2 h3]
  have ea : a = a / 4294967296 * 4294967296 + a % 4294967296 := by omega
  have eb : b = b / 4294967296 * 4294967296 + b % 4294967296 := by omega
  have A1 : 0 ≤ a / 4294967296 ∧ a / 4294967296 ≤ 4294967295 := by omega
  have A0 : 0 ≤ a % 4294967296 ∧ a % 4294967296 ≤ 4294967295 := by omega
  have B1 : 0 ≤ b / 4294967296 ∧ b / 4294967296 ≤ 4294967295 := by omega
  have B0 : 0 ≤ b % 4294967296 ∧ b % 4294967296 ≤ 4294967295 := by omega
  have H := mul_hi (a / 4294967296) (a % 4294967296) (b / 4294967296) (b % 4294967296)
  rw [← ea, ← eb] at H
  generalize a / 4294967296 = a1 at *
  generalize a % 4294967296 = a0 at *
  generalize b / 4294967296 = b1 at *
  generalize b % 4294967296 = b0 at *
  have p11 := le_mul a1 b1 _ _ A1.1 A1.2 B1.1 B1.2
  have p10 := le_mul a1 b0 _ _ A1.1 A1.2 B0.1 B0.2
  have p01 := le_mul a0 b1 _ _ A0.1 A0.2 B1.1 B1.2
  have p00 := le_mul a0 b0 _ _ A0.1 A0.2 B0.1 B0.2
  generalize a1 * b1 = p at *
  generalize a1 * b0 = q at *
  generalize a0 * b1 = r at *
  generalize a0 * b0 = s at *
  rw [u64_in p (by omega) (by omega), u64_in q (by omega) (by omega), u64_in r (by omega) (by omega), u64_in s (by omega) (by omega)]
  rw [u64_in (q + s / 4294967296) (by omega) (by omega)]
  rw [and64 (q + s / 4294967296) (by omega) (by omega)]
  rw [u64_in ((q + s / 4294967296) % 4294967296 + r) (by omega) (by omega)]
  have hb : p + (q + s / 4294967296) / 4294967296 + ((q + s / 4294967296) % 4294967296 + r) / 4294967296 < 18446744073709551616 := by omega
  rw [u64_in (p + (q + s / 4294967296) / 4294967296) (by omega) (by omega)]
  rw [u64_in (p + (q + s / 4294967296) / 4294967296 + ((q + s / 4294967296) % 4294967296 + r) / 4294967296) (by omega) (by omega), H, u64_wrap]
end Go.Proofs.Ytgepbfcaimejmaa.MulA

namespace Go.Proofs.Ytgepbfcaimejmaa.WideA
open Go.RowKit Go.Proofs.YtgepbfcaimejmaaW.PrintWords Go.Proofs.YtgepbfcaimejmaaW.PrintLast Go.Proofs.YtgepbfcaimejmaaW.PrintMore Nums MulA PA

theorem add_eq (a b c d : Int) (h0 : 0 ≤ a) (h1 : 0 ≤ b) (h2 : 0 ≤ c) (h3 : 0 ≤ d) (h4 : b < 18446744073709551616) (h5 : d < 18446744073709551616) :
    Ext.wide_Add.f a b c d = some ((a + c + (b + d) / 18446744073709551616) % 18446744073709551616, (b + d) % 18446744073709551616) := by
  unfold Ext.wide_Add.f
  rw [if_pos ⟨h0, h1, h2, h3, h4, h5⟩]

/-- The squared distance, exactly. -/
def d2 (x0 y0 x1 y1 : Int) : Int := (x0 - x1) * (x0 - x1) + (y0 - y1) * (y0 - y1)

theorem compare_eq (a b : Int) : cmp_Compare_uint64.f a b = some (if a < b then -1 else if b < a then 1 else 0) := by
  unfold cmp_Compare_uint64.f cmp_isNaN_uint64.f
  simp only [Option.bind_some, bne_self_eq_false, Bool.false_eq_true, if_false]
  by_cases h : a < b
  · simp [h]
  · by_cases h' : b < a
    · simp [h, h']
    · simp [h, h']
theorem or_eq (k : Nat) (x y : Int) : cmp_Or_int.f (k + 3) [x, y] = some (if x = 0 then y else x) := by
  by_cases hx : x = 0
  · by_cases hy : y = 0
    · simp [cmp_Or_int.f, cmp_Or_int.l0, rd, wrap64, hx, hy]
    · simp [cmp_Or_int.f, cmp_Or_int.l0, rd, wrap64, hx, hy]
  · simp [cmp_Or_int.f, cmp_Or_int.l0, rd, hx]
theorem cmp_eq (k : Nat) (a b c d : Int) : wide_Cmp.f (k + 3) a b c d = some (if a < c ∨ a = c ∧ b < d then -1 else if c < a ∨ a = c ∧ d < b then 1 else 0) := by
  unfold wide_Cmp.f
  simp only [compare_eq, Option.bind_some, or_eq, Option.some.injEq]
  by_cases h1 : a < c
  · simp [h1]
  · by_cases h2 : c < a
    · have : ¬ a = c := by omega
      simp [h1, h2, this]
    · have : a = c := by omega
      subst this
      simp
/-- Two numbers of two digits each are compared as they are. -/
theorem cmp_digits (k : Nat) (D E : Int) : wide_Cmp.f (k + 3) (D / 18446744073709551616) (D % 18446744073709551616) (E / 18446744073709551616) (E % 18446744073709551616) = some (if D < E then -1 else if E < D then 1 else 0) := by
  rw [cmp_eq]
  by_cases h1 : D < E
  · rw [if_pos (show D < E from h1), if_pos (by omega)]
  · rw [if_neg (show ¬ D < E from h1), if_neg (by omega)]
    by_cases h2 : E < D
    · rw [if_pos (show E < D from h2), if_pos (by omega)]
    · rw [if_neg (show ¬ E < D from h2), if_neg (by omega)]
theorem sq_nonneg (x : Int) : 0 ≤ x * x := by
  rcases Int.le_total 0 x with h | h
  · exact Int.mul_nonneg h h
  · have := Int.mul_nonneg (show 0 ≤ -x by omega) (show 0 ≤ -x by omega)
    have e : -x * -x = x * x := by grind
    omega
theorem sq_le (x y : Int) (h : (0 ≤ x ∧ x ≤ y) ∨ (y ≤ x ∧ x ≤ 0)) : x * x ≤ y * y := by
  rcases h with ⟨h0, h1⟩ | ⟨h0, h1⟩
  · exact Int.mul_le_mul h1 h1 h0 (by omega)
  · have := Int.mul_le_mul (show -x ≤ -y by omega) (show -x ≤ -y by omega) (by omega) (by omega)
    have e1 : -x * -x = x * x := by grind
    have e2 : -y * -y = y * y := by grind
    omega
theorem sq_zero (x : Int) (h : x * x = 0) : x = 0 := by
  rcases Int.mul_eq_zero.1 h with h | h <;> exact h
end Go.Proofs.Ytgepbfcaimejmaa.WideA

namespace Go.Proofs.Ytgepbfcaimejmaa.PolyA
open Go.RowKit Go.Proofs.YtgepbfcaimejmaaW.PrintWords Go.Proofs.YtgepbfcaimejmaaW.PrintLast Go.Proofs.YtgepbfcaimejmaaW.PrintMore Nums MulA WideA PA

def sgn (n : Int) : Int := if n = 0 then 0 else if n < 0 then -1 else 1
def cr (ax ay bx by_ cx cy : Int) : Int := (bx - ax) * (cy - ay) - (by_ - ay) * (cx - ax)
def val (n : Bool) (m : Int) : Int := if n then -m else m

theorem sub_eq (M E : Int) (h0 : 0 ≤ E) (h1 : E ≤ M) (h2 : M < 340282366920938463463374607431768211456) :
    Ext.poly_sub.f (M / 18446744073709551616) (M % 18446744073709551616) (E / 18446744073709551616) (E % 18446744073709551616) = some ((M - E) / 18446744073709551616, (M - E) % 18446744073709551616) := by
  unfold Ext.poly_sub.f
  rw [if_pos (by omega)]
  unfold Ext.bor
  simp only [Option.some.injEq, Prod.mk.injEq]
  constructor
  · split <;> omega
  · omega

theorem plus_eq (k : Nat) (n1 n2 : Bool) (M1 M2 : Int) (h0 : 0 ≤ M1) (h1 : M1 < 36893488147419103232) (h2 : 0 ≤ M2) (h3 : M2 < 36893488147419103232) :
    ∃ n M, poly_signed_plus.f (k + 3) n1 (M1 / 18446744073709551616) (M1 % 18446744073709551616) n2 (M2 / 18446744073709551616) (M2 % 18446744073709551616) = some (n, M / 18446744073709551616, M % 18446744073709551616) ∧ 0 ≤ M ∧ M ≤ M1 + M2 ∧ val n M = val n1 M1 + val n2 M2 := by
  unfold poly_signed_plus.f
  by_cases hn : n1 = n2
  · subst hn
    refine ⟨n1, M1 + M2, ?_, by omega, by omega, by unfold val; split <;> omega⟩
    rw [add_eq _ _ _ _ (by omega) (by omega) (by omega) (by omega) (by omega) (by omega)]
    simp only [beq_self_eq_true, if_true, Option.bind_some, Option.some.injEq, Prod.mk.injEq, true_and]
    omega
  · have hb : (n1 == n2) = false := by simpa using hn
    rw [hb, cmp_digits]
    simp only [Bool.false_eq_true, if_false, Option.bind_some]
    by_cases h : M1 < M2
    · rw [if_pos h, if_neg (by omega), sub_eq M2 M1 h0 (by omega) (by omega)]
      refine ⟨n2, M2 - M1, rfl, by omega, by omega, ?_⟩
      unfold val
      cases n1 <;> cases n2 <;> simp at * <;> omega
    · have e : (if M1 < M2 then (-1 : Int) else if M2 < M1 then 1 else 0) ≥ 0 := by rw [if_neg h]; split <;> omega
      rw [if_pos e, sub_eq M1 M2 h2 (by omega) (by omega)]
      refine ⟨n1, M1 - M2, rfl, by omega, by omega, ?_⟩
      unfold val
      cases n1 <;> cases n2 <;> simp at * <;> omega

theorem times_eq (a b : Int) (h0 : -4294967296 ≤ a) (h1 : a ≤ 4294967296) (h2 : -4294967296 ≤ b) (h3 : b ≤ 4294967296) :
    ∃ n M, poly_times.f a b = some (n, M / 18446744073709551616, M % 18446744073709551616) ∧ 0 ≤ M ∧ M ≤ 18446744073709551616 ∧ val n M = a * b := by
  have size : ∀ c : Int, -4294967296 ≤ c → c ≤ 4294967296 → ∃ m, poly_size.f c = some m ∧ 0 ≤ m ∧ m ≤ 4294967296 ∧ ((c < 0 ∧ m = -c) ∨ (¬ c < 0 ∧ m = c)) := by
    intro c c0 c1
    unfold poly_size.f
    by_cases h : c < 0
    · refine ⟨-c, ?_, by omega, by omega, .inl ⟨h, rfl⟩⟩
      rw [if_pos h, w64_in _ (by omega) (by omega), u64_in _ (by omega) (by omega)]
    · refine ⟨c, ?_, by omega, by omega, .inr ⟨h, rfl⟩⟩
      rw [if_neg h, u64_in _ (by omega) (by omega)]
  obtain ⟨m, hm, m0, m1, m2⟩ := size a h0 h1
  obtain ⟨q, hq, q0, q1, q2⟩ := size b h2 h3
  unfold poly_times.f
  rw [hm, hq]
  simp only [Option.bind_some]
  rw [mul64 m q m0 (by omega) q0 (by omega)]
  have b := le_mul m q _ _ m0 m1 q0 q1
  refine ⟨_, m * q, rfl, b.1, by omega, ?_⟩
  unfold val
  rcases m2 with ⟨c1, rfl⟩ | ⟨c1, rfl⟩ <;> rcases q2 with ⟨c2, rfl⟩ | ⟨c2, rfl⟩ <;> simp [c1, c2] <;> grind

theorem gapp_eq (a b : Int) (h0 : 0 ≤ a) (h1 : a < 4294967296) (h2 : 0 ≤ b) (h3 : b < 4294967296) : poly_gap.f a b = some (b - a) := by
  unfold poly_gap.f
  rw [w64_in b (by omega) (by omega), w64_in a (by omega) (by omega), w64_in _ (by omega) (by omega)]

theorem turn_eq (k : Nat) (ai ax ay : Int) (ad : ByteArray) (bi bx by_ : Int) (bd : ByteArray) (ci cx cy : Int) (cd : ByteArray)
    (a0 : 0 ≤ ax) (a1 : ax < 4294967296) (a2 : 0 ≤ ay) (a3 : ay < 4294967296) (b0 : 0 ≤ bx) (b1 : bx < 4294967296) (b2 : 0 ≤ by_) (b3 : by_ < 4294967296) (c0 : 0 ≤ cx) (c1 : cx < 4294967296) (c2 : 0 ≤ cy) (c3 : cy < 4294967296) :
    poly_Turn.f (k + 3) ai ax ay ad bi bx by_ bd ci cx cy cd = some (sgn (cr ax ay bx by_ cx cy)) := by
  unfold poly_Turn.f poly_turn.f
  rw [gapp_eq ax bx a0 a1 b0 b1, gapp_eq ay cy a2 a3 c2 c3, gapp_eq ay by_ a2 a3 b2 b3, gapp_eq ax cx a0 a1 c0 c1]
  simp only [Option.bind_some]
  obtain ⟨n1, M1, e1, p0, p1, p2⟩ := times_eq (bx - ax) (cy - ay) (by omega) (by omega) (by omega) (by omega)
  obtain ⟨n2, M2, e2, q0, q1, q2⟩ := times_eq (by_ - ay) (cx - ax) (by omega) (by omega) (by omega) (by omega)
  rw [e1, e2]
  simp only [Option.bind_some]
  unfold poly_signed_minus.f
  obtain ⟨n, M, e, r0, _, r2⟩ := plus_eq k n1 (!n2) M1 M2 p0 (by omega) q0 (by omega)
  rw [e]
  simp only [Option.bind_some]
  unfold poly_signed_sign.f
  have hv : val n M = cr ax ay bx by_ cx cy := by
    unfold cr
    rw [r2, p2, ← q2]
    unfold val
    cases n2 <;> simp <;> omega
  rw [← hv]
  unfold sgn val
  by_cases hM : M = 0
  · subst hM
    simp
  · have hz : (M / 18446744073709551616 == 0 && M % 18446744073709551616 == 0) = false := by
      rw [Bool.eq_false_iff]
      intro h
      simp at h
      omega
    rw [hz]
    cases n
    · simp only [Bool.false_eq_true, if_false]
      rw [if_neg hM, if_neg (by omega)]
      rfl
    · simp only [Bool.false_eq_true, if_false, if_true]
      rw [if_neg (by omega), if_pos (by omega)]
      rfl

theorem sgn_neg (n : Int) : sgn (-n) = -sgn n := by
  unfold sgn
  split <;> split <;> (try split) <;> (try split) <;> omega
theorem sgn_cases (n : Int) : sgn n = -1 ∧ n < 0 ∨ sgn n = 0 ∧ n = 0 ∨ sgn n = 1 ∧ 0 < n := by
  unfold sgn
  split
  · omega
  · split <;> omega

/-! ### small coordinates -/
theorem small_eq (i x y : Int) (d : ByteArray) (h0 : 0 ≤ x) (h1 : 0 ≤ y) : croftlaw34_small.f i x y d = some (x % 1048576, y % 1048576) := by
  unfold croftlaw34_small.f
  rw [tmod_pos _ _ h0, tmod_pos _ _ h1, w64_in _ (by omega) (by omega), w64_in _ (by omega) (by omega)]
theorem prod_bound (a b : Int) (h0 : -1048576 ≤ a) (h1 : a ≤ 1048576) (h2 : -1048576 ≤ b) (h3 : b ≤ 1048576) : -1099511627776 ≤ a * b ∧ a * b ≤ 1099511627776 := by
  rcases Int.le_total 0 a with ha | ha <;> rcases Int.le_total 0 b with hb | hb
  · have := le_mul a b _ _ ha h1 hb h3; omega
  · have := le_mul a (-b) 1048576 1048576 ha h1 (by omega) (by omega)
    have e : a * -b = -(a * b) := by grind
    omega
  · have := le_mul (-a) b 1048576 1048576 (by omega) (by omega) hb h3
    have e : -a * b = -(a * b) := by grind
    omega
  · have := le_mul (-a) (-b) 1048576 1048576 (by omega) (by omega) (by omega) (by omega)
    have e : -a * -b = a * b := by grind
    omega
theorem refturn_eq (ai ax ay : Int) (ad : ByteArray) (bi bx by_ : Int) (bd : ByteArray) (ci cx cy : Int) (cd : ByteArray)
    (a0 : 0 ≤ ax) (a2 : 0 ≤ ay) (b0 : 0 ≤ bx) (b2 : 0 ≤ by_) (c0 : 0 ≤ cx) (c2 : 0 ≤ cy) :
    croftlaw34_turn.f ai ax ay ad bi bx by_ bd ci cx cy cd = some (sgn (cr (ax % 1048576) (ay % 1048576) (bx % 1048576) (by_ % 1048576) (cx % 1048576) (cy % 1048576))) := by
  unfold croftlaw34_turn.f
  rw [small_eq _ _ _ _ a0 a2, small_eq _ _ _ _ b0 b2, small_eq _ _ _ _ c0 c2]
  simp only [Option.bind_some]
  rw [w64_in (bx % 1048576 - ax % 1048576) (by omega) (by omega), w64_in (cy % 1048576 - ay % 1048576) (by omega) (by omega), w64_in (by_ % 1048576 - ay % 1048576) (by omega) (by omega), w64_in (cx % 1048576 - ax % 1048576) (by omega) (by omega)]
  have p := prod_bound (bx % 1048576 - ax % 1048576) (cy % 1048576 - ay % 1048576) (by omega) (by omega) (by omega) (by omega)
  have q := prod_bound (by_ % 1048576 - ay % 1048576) (cx % 1048576 - ax % 1048576) (by omega) (by omega) (by omega) (by omega)
  unfold cr
  generalize (bx % 1048576 - ax % 1048576) * (cy % 1048576 - ay % 1048576) = P at *
  generalize (by_ % 1048576 - ay % 1048576) * (cx % 1048576 - ax % 1048576) = R at *
  rw [w64_in P (by omega) (by omega), w64_in R (by omega) (by omega), w64_in (P - R) (by omega) (by omega)]
  rcases sgn_cases (P - R) with ⟨e, h⟩ | ⟨e, h⟩ | ⟨e, h⟩ <;> rw [e]
  · rw [if_neg (by omega), if_pos h]
  · rw [if_neg (by omega), if_neg (by omega)]
  · rw [if_pos h]

/-- A point of small coordinates. -/
def sm (p : S24) : S24 := ⟨p.f0, p.f1 % 1048576, p.f2 % 1048576, ⟨#[]⟩⟩
theorem cut_loop (l : List S24) (hl : ∀ p ∈ l, 0 ≤ p.f1 ∧ 0 ≤ p.f2) (d : Nat) : ∀ (k i : Nat), i ≤ l.length → i ≤ 16 → min l.length 16 - i = d → d < k →
    croftlaw34_cut.l0 k l ((l.take i).map sm) (i : Int) = some ((l.take 16).map sm) := by
  induction d with
  | zero =>
    intro k i h1 h2 h3 hk
    obtain ⟨k, rfl⟩ : ∃ m, k = m + 1 := ⟨k - 1, by omega⟩
    simp only [croftlaw34_cut.l0]
    by_cases hi : i = l.length
    · rw [if_neg (by omega), List.take_of_length_le (by omega : l.length ≤ i), List.take_of_length_le (by omega : l.length ≤ 16)]
    · have : i = 16 := by omega
      subst this
      rw [if_pos (by omega), if_neg (by omega)]
  | succ d ih =>
    intro k i h1 h2 h3 hk
    obtain ⟨k, rfl⟩ : ∃ m, k = m + 1 := ⟨k - 1, by omega⟩
    have hi : i < l.length := by omega
    simp only [croftlaw34_cut.l0]
    rw [if_pos (by omega), if_pos (by omega), if_pos (by omega)]
    have hrd : rd_T24 l (i : Int) = l[i] := by simp [rd_T24, hi]
    have hp := hl _ (List.getElem_mem hi)
    rw [hrd, small_eq _ _ _ _ hp.1 hp.2]
    simp only [Option.bind_some]
    rw [if_pos (by simp; omega), w64_in _ (by omega) (by omega)]
    have hs : (l.take i).map sm ++ [(⟨l[i].f0, l[i].f1 % 1048576 % 4294967296, l[i].f2 % 1048576 % 4294967296, ⟨#[]⟩⟩ : S24)] = (l.take (i + 1)).map sm := by
      rw [List.take_succ_eq_append_getElem hi, List.map_append]
      simp only [List.map_cons, List.map_nil, sm]
      rw [show l[i].f1 % 1048576 % 4294967296 = l[i].f1 % 1048576 from by omega, show l[i].f2 % 1048576 % 4294967296 = l[i].f2 % 1048576 from by omega]
    rw [hs, show (i : Int) + 1 = ((i + 1 : Nat) : Int) from by omega]
    exact ih k (i + 1) (by omega) (by omega) (by omega) (by omega)
theorem cut_eq (k : Nat) (l : List S24) (hl : ∀ p ∈ l, 0 ≤ p.f1 ∧ 0 ≤ p.f2) : croftlaw34_cut.f (k + 17) l = some ((l.take 16).map sm) := by
  unfold croftlaw34_cut.f
  exact cut_loop l hl _ (k + 17) 0 (by omega) (by omega) rfl (by omega)
theorem alive34 (k : Nat) : croftlaw34_alive.f (k + 3) = some true := by
  unfold croftlaw34_alive.f
  rw [turn_eq k, turn_eq k, turn_eq k] <;> first | rfl | omega
/-! ## Points, sides, polygons -/
/-- A point's coordinates are of uint32. -/
def ok (p : S24) : Prop := (0 ≤ p.f1 ∧ p.f1 < 4294967296) ∧ 0 ≤ p.f2 ∧ p.f2 < 4294967296
/-- Which way it goes, of three points. -/
def tn (a b c : S24) : Int := cr a.f1 a.f2 b.f1 b.f2 c.f1 c.f2
theorem turn3_eq (k : Nat) (a b c : S24) (ha : ok a) (hb : ok b) (hc : ok c) : poly_Turn.f (k + 3) a.f0 a.f1 a.f2 a.f3 b.f0 b.f1 b.f2 b.f3 c.f0 c.f1 c.f2 c.f3 = some (sgn (tn a b c)) :=
  turn_eq k _ _ _ _ _ _ _ _ _ _ _ _ ha.1.1 ha.1.2 ha.2.1 ha.2.2 hb.1.1 hb.1.2 hb.2.1 hb.2.2 hc.1.1 hc.1.2 hc.2.1 hc.2.2
/-- Is a point on the side of two others? -/
def onseg (a b p : S24) : Prop := tn a b p = 0 ∧ (mn a.f1 b.f1 ≤ p.f1 ∧ p.f1 ≤ mx a.f1 b.f1) ∧ mn a.f2 b.f2 ≤ p.f2 ∧ p.f2 ≤ mx a.f2 b.f2
instance (a b p : S24) : Decidable (onseg a b p) := by unfold onseg; infer_instance
theorem pbetween_eq (n a b : Int) : poly_between.f n a b = some (decide (mn a b ≤ n ∧ n ≤ mx a b)) := by
  unfold poly_between.f
  by_cases h : n ≥ mn a b
  · rw [if_pos h]
    simp [show mn a b ≤ n from h]
  · rw [if_neg h]
    simp [show ¬ mn a b ≤ n from h]
theorem sgn_zero (n : Int) : sgn n = 0 ↔ n = 0 := by rcases sgn_cases n with h | h | h <;> omega
theorem side_eq (k : Nat) (a b p : S24) (ha : ok a) (hb : ok b) (hp : ok p) : poly_side.f (k + 3) a.f0 a.f1 a.f2 a.f3 b.f0 b.f1 b.f2 b.f3 p.f0 p.f1 p.f2 p.f3 = some (decide (onseg a b p)) := by
  unfold poly_side.f
  rw [turn3_eq k a b p ha hb hp]
  simp only [Option.bind_some, pbetween_eq]
  unfold onseg
  by_cases h : tn a b p = 0
  · have e : sgn (tn a b p) = 0 := by rw [h]; rfl
    rw [if_pos e]
    by_cases h1 : mn a.f1 b.f1 ≤ p.f1 ∧ p.f1 ≤ mx a.f1 b.f1
    · simp [h, h1]
    · simp [h1]
  · rw [if_neg (by rcases sgn_cases (tn a b p) with h' | h' | h' <;> omega)]
    simp [h]
theorem tn_swap (a b p : S24) : tn b a p = -tn a b p := by unfold tn cr; grind
theorem mn_comm (a b : Int) : mn a b = mn b a := by unfold mn; split <;> split <;> omega
theorem mx_comm (a b : Int) : mx a b = mx b a := by unfold mx; split <;> split <;> omega
theorem onseg_swap (a b p : S24) : onseg b a p ↔ onseg a b p := by
  unfold onseg
  rw [tn_swap a b p, mn_comm b.f1, mx_comm b.f1, mn_comm b.f2, mx_comm b.f2]
  have : -tn a b p = 0 ↔ tn a b p = 0 := by omega
  rw [this]
theorem onseg_fst (a b : S24) : onseg a b a := by
  unfold onseg tn cr mn mx
  refine ⟨by grind, ⟨?_, ?_⟩, ?_, ?_⟩ <;> split <;> omega
theorem onseg_snd (a b : S24) : onseg a b b := (onseg_swap a b b).1 (onseg_fst b a)
/-- A point of small coordinates. -/
def sml (p : S24) : Prop := (0 ≤ p.f1 ∧ p.f1 < 1048576) ∧ 0 ≤ p.f2 ∧ p.f2 < 1048576
theorem sml_ok (p : S24) (h : sml p) : ok p := by
  have h2 := h
  unfold sml at h2
  unfold ok
  omega
theorem sm_sml (p : S24) (h : ok p) : sml (sm p) := by
  have h2 := h
  unfold ok at h2
  unfold sml sm
  simp only
  omega
theorem rturn_eq (a b c : S24) (ha : sml a) (hb : sml b) (hc : sml c) : croftlaw34_turn.f a.f0 a.f1 a.f2 a.f3 b.f0 b.f1 b.f2 b.f3 c.f0 c.f1 c.f2 c.f3 = some (sgn (tn a b c)) := by
  rw [refturn_eq _ _ _ _ _ _ _ _ _ _ _ _ ha.1.1 ha.2.1 hb.1.1 hb.2.1 hc.1.1 hc.2.1]
  unfold sml at *
  rw [show a.f1 % 1048576 = a.f1 by omega, show a.f2 % 1048576 = a.f2 by omega, show b.f1 % 1048576 = b.f1 by omega, show b.f2 % 1048576 = b.f2 by omega, show c.f1 % 1048576 = c.f1 by omega, show c.f2 % 1048576 = c.f2 by omega]
  rfl
theorem z24_sml : sml z24 := by unfold sml z24; simp
theorem getD_sml (l : List S24) (hl : ∀ p ∈ l, sml p) (i : Nat) : sml (l.getD i z24) := by
  by_cases h : i < l.length
  · rw [List.getD_eq_getElem?_getD, List.getElem?_eq_getElem h]
    exact hl _ (List.getElem_mem h)
  · rw [List.getD_eq_getElem?_getD, List.getElem?_eq_none (by omega)]
    exact z24_sml
/-- Is a point on side j of a polygon? -/
def onj (l : List S24) (p : S24) (j : Nat) : Prop := onseg (l.getD j z24) (l.getD ((j + 1) % l.length) z24) p
instance (l : List S24) (p : S24) (j : Nat) : Decidable (onj l p j) := by unfold onj; infer_instance
def onl (l : List S24) (p : S24) : Prop := ∃ j, j < l.length ∧ onj l p j
instance (l : List S24) (p : S24) : Decidable (onl l p) := by unfold onl; infer_instance
theorem tmod_nat (m n : Nat) : Int.tmod (m : Int) (n : Int) = ((m % n : Nat) : Int) := rfl
theorem on_j1 (k : Nat) (l : List S24) (i : Nat) (b : Bool) (p : S24) (hi : i < 1048576) : croftlaw34_on.j1 (k + 1) l i b p.f0 p.f1 p.f2 p.f3 = if b = true then some true else croftlaw34_on.l0 k l (i + 1 : Nat) p.f0 p.f1 p.f2 p.f3 := by
  simp only [croftlaw34_on.j1]
  rw [w64_in _ (by omega) (by omega)]
  rfl
theorem on_loop (l : List S24) (hl : ∀ p ∈ l, sml p) (hn : l.length < 1048576) (p : S24) (hp : sml p) (d : Nat) : ∀ (k i : Nat), l.length - i = d → i ≤ l.length →
    croftlaw34_on.l0 (2 * d + k + 1) l i p.f0 p.f1 p.f2 p.f3 = some (decide (∃ j, j < l.length ∧ i ≤ j ∧ onj l p j)) := by
  induction d with
  | zero =>
    intro k i h1 h2
    obtain ⟨K, hK⟩ : ∃ K, k = K := ⟨_, rfl⟩
    rw [show 2 * 0 + k + 1 = K + 1 by omega]
    simp only [croftlaw34_on.l0]
    rw [if_neg (by omega)]
    congr 1
    symm
    rw [decide_eq_false_iff_not]
    rintro ⟨j, h3, h4, _⟩
    omega
  | succ d ih =>
    intro k i h1 h2
    obtain ⟨K, hK⟩ : ∃ K, 2 * d + k + 2 = K := ⟨_, rfl⟩
    rw [show 2 * (d + 1) + k + 1 = K + 1 by omega]
    simp only [croftlaw34_on.l0]
    have hi : i < l.length := by omega
    have hm := Nat.mod_lt (i + 1) (show l.length > 0 by omega)
    rw [w64_in ((i : Int) + 1) (by omega) (by omega), show (i : Int) + 1 = ((i + 1 : Nat) : Int) by omega, tmod_nat]
    rw [if_pos (by omega), if_pos (by omega), if_neg (by omega), if_pos (by omega), if_pos (by omega)]
    rw [show rd_T24 l (i : Int) = l.getD i z24 from rfl, show rd_T24 l (((i + 1) % l.length : Nat) : Int) = l.getD ((i + 1) % l.length) z24 from rfl]
    rw [rturn_eq _ _ _ (getD_sml l hl _) (getD_sml l hl _) hp]
    simp only [Option.bind_some, sgn_zero]
    have fin : croftlaw34_on.j1 K l i (decide (onj l p i)) p.f0 p.f1 p.f2 p.f3 = some (decide (∃ j, j < l.length ∧ i ≤ j ∧ onj l p j)) := by
      rw [← hK, show 2 * d + k + 2 = (2 * d + k + 1) + 1 by omega, on_j1 _ _ _ _ _ (by omega), ih k (i + 1) (by omega) (by omega)]
      by_cases h : onj l p i
      · rw [if_pos (by simp [h])]
        congr 1
        symm
        rw [decide_eq_true_eq]
        exact ⟨i, hi, Nat.le_refl _, h⟩
      · rw [if_neg (by simp [h])]
        congr 1
        rw [decide_eq_decide]
        constructor
        · rintro ⟨j, h3, h4, h5⟩
          exact ⟨j, h3, by omega, h5⟩
        · rintro ⟨j, h3, h4, h5⟩
          refine ⟨j, h3, ?_, h5⟩
          rcases (show j = i ∨ i + 1 ≤ j by omega) with rfl | h6
          · exact absurd h5 h
          · exact h6
    rw [← fin]
    have e : decide (onj l p i) = (decide (tn (l.getD i z24) (l.getD ((i + 1) % l.length) z24) p = 0) && (decide (p.f1 ≥ mn (l.getD i z24).f1 (l.getD ((i + 1) % l.length) z24).f1) && (decide (p.f1 ≤ mx (l.getD i z24).f1 (l.getD ((i + 1) % l.length) z24).f1) && (decide (p.f2 ≥ mn (l.getD i z24).f2 (l.getD ((i + 1) % l.length) z24).f2) && decide (p.f2 ≤ mx (l.getD i z24).f2 (l.getD ((i + 1) % l.length) z24).f2))))) := by
      rw [Bool.eq_iff_iff]
      simp only [Bool.and_eq_true, decide_eq_true_eq]
      unfold onj onseg
      constructor
      · rintro ⟨a1, ⟨a2, a3⟩, a4, a5⟩
        exact ⟨a1, a2, a3, a4, a5⟩
      · rintro ⟨a1, a2, a3, a4, a5⟩
        exact ⟨a1, ⟨a2, a3⟩, a4, a5⟩
    rw [e]
    by_cases q1 : tn (l.getD i z24) (l.getD ((i + 1) % l.length) z24) p = 0
    · by_cases q2 : p.f1 ≥ mn (l.getD i z24).f1 (l.getD ((i + 1) % l.length) z24).f1
      · by_cases q3 : p.f1 ≤ mx (l.getD i z24).f1 (l.getD ((i + 1) % l.length) z24).f1
        · by_cases q4 : p.f2 ≥ mn (l.getD i z24).f2 (l.getD ((i + 1) % l.length) z24).f2
          · simp only [q1, q2, q3, q4, if_true, decide_true, Bool.true_and]
          · simp only [q1, q2, q3, q4, if_true, if_false, decide_true, decide_false, Bool.true_and, Bool.false_and]
        · simp only [q1, q2, q3, if_true, if_false, decide_true, decide_false, Bool.true_and, Bool.false_and]
      · simp only [q1, q2, if_true, if_false, decide_true, decide_false, Bool.true_and, Bool.false_and]
    · simp only [q1, if_false, decide_false, Bool.false_and]
theorem on_eq (k : Nat) (l : List S24) (hl : ∀ p ∈ l, sml p) (hn : l.length < 1048576) (p : S24) (hp : sml p) : croftlaw34_on.f (2 * l.length + k + 1) l p.f0 p.f1 p.f2 p.f3 = some (decide (onl l p)) := by
  unfold croftlaw34_on.f
  rw [show (0 : Int) = ((0 : Nat) : Int) from rfl, on_loop l hl hn p hp l.length k 0 (by omega) (by omega)]
  congr 1
  rw [decide_eq_decide]
  unfold onl
  constructor
  · rintro ⟨j, h3, _, h5⟩
    exact ⟨j, h3, h5⟩
  · rintro ⟨j, h3, h5⟩
    exact ⟨j, h3, by omega, h5⟩
theorem onl_two (a b p : S24) : onl [a, b] p ↔ onseg a b p := by
  unfold onl onj
  constructor
  · rintro ⟨j, hj, h⟩
    simp at hj
    rcases (show j = 0 ∨ j = 1 by omega) with rfl | rfl
    · exact h
    · have e : [a, b].getD ((1 + 1) % [a, b].length) z24 = a := by simp
      rw [e] at h
      exact (onseg_swap a b p).1 h
  · intro h
    exact ⟨0, by simp, h⟩
end Go.Proofs.Ytgepbfcaimejmaa.PolyA
