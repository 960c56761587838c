/-
  Which way it goes from place to place, as printed: the sign of the exact cross product; points of small coordinates.
  Conditions: coordinates are of Go's uint32.
-/
import Derived.Test.YtgepbfcaimejmaaWideA
import Derived.Test.YtgepbfcaimejmaaPAx9
import Derived.Test.YtgepbfcaimejmaaPAx10
namespace Go.Proofs.Ytgepbfcaimejmaa.PolyA
open Go.RowKit Go.Proofs.YtgepbfcaimejmaaW.PrintWords Go.Proofs.YtgepbfcaimejmaaW.PrintLast Go.Proofs.YtgepbfcaimejmaaW.PrintMore Nums MulA WideA PA

def sgn (n : Int) : Int := if n = 0 then 0 else if n < 0 then -1 else 1
def cr (ax ay bx by_ cx cy : Int) : Int := (bx - ax) * (cy - ay) - (by_ - ay) * (cx - ax)
def val (n : Bool) (m : Int) : Int := if n then -m else m

theorem sub_eq (M E : Int) (h0 : 0 ≤ E) (h1 : E ≤ M) (h2 : M < 340282366920938463463374607431768211456) :
    Ext.poly_sub.f (M / 18446744073709551616) (M % 18446744073709551616) (E / 18446744073709551616) (E % 18446744073709551616) = some ((M - E) / 18446744073709551616, (M - E) % 18446744073709551616) := by
  unfold Ext.poly_sub.f
  rw [if_pos (by omega)]
  unfold Ext.bor
  simp only [Option.some.injEq, Prod.mk.injEq]
  constructor
  · split <;> omega
  · omega

theorem plus_eq (k : Nat) (n1 n2 : Bool) (M1 M2 : Int) (h0 : 0 ≤ M1) (h1 : M1 < 36893488147419103232) (h2 : 0 ≤ M2) (h3 : M2 < 36893488147419103232) :
    ∃ n M, poly_signed_plus.f (k + 3) n1 (M1 / 18446744073709551616) (M1 % 18446744073709551616) n2 (M2 / 18446744073709551616) (M2 % 18446744073709551616) = some (n, M / 18446744073709551616, M % 18446744073709551616) ∧ 0 ≤ M ∧ M ≤ M1 + M2 ∧ val n M = val n1 M1 + val n2 M2 := by
  unfold poly_signed_plus.f
  by_cases hn : n1 = n2
  · subst hn
    refine ⟨n1, M1 + M2, ?_, by omega, by omega, by unfold val; split <;> omega⟩
    rw [add_eq _ _ _ _ (by omega) (by omega) (by omega) (by omega) (by omega) (by omega)]
    simp only [beq_self_eq_true, if_true, Option.bind_some, Option.some.injEq, Prod.mk.injEq, true_and]
    omega
  · have hb : (n1 == n2) = false := by simpa using hn
    rw [hb, cmp_digits]
    simp only [Bool.false_eq_true, if_false, Option.bind_some]
    by_cases h : M1 < M2
    · rw [if_pos h, if_neg (by omega), sub_eq M2 M1 h0 (by omega) (by omega)]
      refine ⟨n2, M2 - M1, rfl, by omega, by omega, ?_⟩
      unfold val
      cases n1 <;> cases n2 <;> simp at * <;> omega
    · have e : (if M1 < M2 then (-1 : Int) else if M2 < M1 then 1 else 0) ≥ 0 := by rw [if_neg h]; split <;> omega
      rw [if_pos e, sub_eq M1 M2 h2 (by omega) (by omega)]
      refine ⟨n1, M1 - M2, rfl, by omega, by omega, ?_⟩
      unfold val
      cases n1 <;> cases n2 <;> simp at * <;> omega

theorem times_eq (a b : Int) (h0 : -4294967296 ≤ a) (h1 : a ≤ 4294967296) (h2 : -4294967296 ≤ b) (h3 : b ≤ 4294967296) :
    ∃ n M, poly_times.f a b = some (n, M / 18446744073709551616, M % 18446744073709551616) ∧ 0 ≤ M ∧ M ≤ 18446744073709551616 ∧ val n M = a * b := by
  have size : ∀ c : Int, -4294967296 ≤ c → c ≤ 4294967296 → ∃ m, poly_size.f c = some m ∧ 0 ≤ m ∧ m ≤ 4294967296 ∧ ((c < 0 ∧ m = -c) ∨ (¬ c < 0 ∧ m = c)) := by
    intro c c0 c1
    unfold poly_size.f
    by_cases h : c < 0
    · refine ⟨-c, ?_, by omega, by omega, .inl ⟨h, rfl⟩⟩
      rw [if_pos h, w64_in _ (by omega) (by omega), u64_in _ (by omega) (by omega)]
    · refine ⟨c, ?_, by omega, by omega, .inr ⟨h, rfl⟩⟩
      rw [if_neg h, u64_in _ (by omega) (by omega)]
  obtain ⟨m, hm, m0, m1, m2⟩ := size a h0 h1
  obtain ⟨q, hq, q0, q1, q2⟩ := size b h2 h3
  unfold poly_times.f
  rw [hm, hq]
  simp only [Option.bind_some]
  rw [mul64 m q m0 (by omega) q0 (by omega)]
  have b := le_mul m q _ _ m0 m1 q0 q1
  refine ⟨_, m * q, rfl, b.1, by omega, ?_⟩
  unfold val
  rcases m2 with ⟨c1, rfl⟩ | ⟨c1, rfl⟩ <;> rcases q2 with ⟨c2, rfl⟩ | ⟨c2, rfl⟩ <;> simp [c1, c2] <;> grind

theorem gapp_eq (a b : Int) (h0 : 0 ≤ a) (h1 : a < 4294967296) (h2 : 0 ≤ b) (h3 : b < 4294967296) : poly_gap.f a b = some (b - a) := by
  unfold poly_gap.f
  rw [w64_in b (by omega) (by omega), w64_in a (by omega) (by omega), w64_in _ (by omega) (by omega)]

theorem turn_eq (k : Nat) (ai ax ay : Int) (ad : ByteArray) (bi bx by_ : Int) (bd : ByteArray) (ci cx cy : Int) (cd : ByteArray)
    (a0 : 0 ≤ ax) (a1 : ax < 4294967296) (a2 : 0 ≤ ay) (a3 : ay < 4294967296) (b0 : 0 ≤ bx) (b1 : bx < 4294967296) (b2 : 0 ≤ by_) (b3 : by_ < 4294967296) (c0 : 0 ≤ cx) (c1 : cx < 4294967296) (c2 : 0 ≤ cy) (c3 : cy < 4294967296) :
    poly_Turn.f (k + 3) ai ax ay ad bi bx by_ bd ci cx cy cd = some (sgn (cr ax ay bx by_ cx cy)) := by
  unfold poly_Turn.f poly_turn.f
  rw [gapp_eq ax bx a0 a1 b0 b1, gapp_eq ay cy a2 a3 c2 c3, gapp_eq ay by_ a2 a3 b2 b3, gapp_eq ax cx a0 a1 c0 c1]
  simp only [Option.bind_some]
  obtain ⟨n1, M1, e1, p0, p1, p2⟩ := times_eq (bx - ax) (cy - ay) (by omega) (by omega) (by omega) (by omega)
  obtain ⟨n2, M2, e2, q0, q1, q2⟩ := times_eq (by_ - ay) (cx - ax) (by omega) (by omega) (by omega) (by omega)
  rw [e1, e2]
  simp only [Option.bind_some]
  unfold poly_signed_minus.f
  obtain ⟨n, M, e, r0, _, r2⟩ := plus_eq k n1 (!n2) M1 M2 p0 (by omega) q0 (by omega)
  rw [e]
  simp only [Option.bind_some]
  unfold poly_signed_sign.f
  have hv : val n M = cr ax ay bx by_ cx cy := by
    unfold cr
    rw [r2, p2, ← q2]
    unfold val
    cases n2 <;> simp <;> omega
  rw [← hv]
  unfold sgn val
  by_cases hM : M = 0
  · subst hM
    simp
  · have hz : (M / 18446744073709551616 == 0 && M % 18446744073709551616 == 0) = false := by
      rw [Bool.eq_false_iff]
      intro h
      simp at h
      omega
    rw [hz]
    cases n
    · simp only [Bool.false_eq_true, if_false]
      rw [if_neg hM, if_neg (by omega)]
      rfl
    · simp only [Bool.false_eq_true, if_false, if_true]
      rw [if_neg (by omega), if_pos (by omega)]
      rfl

theorem sgn_neg (n : Int) : sgn (-n) = -sgn n := by
  unfold sgn
  split <;> split <;> (try split) <;> (try split) <;> omega
theorem sgn_cases (n : Int) : sgn n = -1 ∧ n < 0 ∨ sgn n = 0 ∧ n = 0 ∨ sgn n = 1 ∧ 0 < n := by
  unfold sgn
  split
  · omega
  · split <;> omega

/-! ### small coordinates -/
theorem small_eq (i x y : Int) (d : ByteArray) (h0 : 0 ≤ x) (h1 : 0 ≤ y) : croftlaw34_small.f i x y d = some (x % 1048576, y % 1048576) := by
  unfold croftlaw34_small.f
  rw [tmod_pos _ _ h0, tmod_pos _ _ h1, w64_in _ (by omega) (by omega), w64_in _ (by omega) (by omega)]
theorem prod_bound (a b : Int) (h0 : -1048576 ≤ a) (h1 : a ≤ 1048576) (h2 : -1048576 ≤ b) (h3 : b ≤ 1048576) : -1099511627776 ≤ a * b ∧ a * b ≤ 1099511627776 := by
  rcases Int.le_total 0 a with ha | ha <;> rcases Int.le_total 0 b with hb | hb
  · have := le_mul a b _ _ ha h1 hb h3; omega
  · have := le_mul a (-b) 1048576 1048576 ha h1 (by omega) (by omega)
    have e : a * -b = -(a * b) := by grind
    omega
  · have := le_mul (-a) b 1048576 1048576 (by omega) (by omega) hb h3
    have e : -a * b = -(a * b) := by grind
    omega
  · have := le_mul (-a) (-b) 1048576 1048576 (by omega) (by omega) (by omega) (by omega)
    have e : -a * -b = a * b := by grind
    omega
theorem refturn_eq (ai ax ay : Int) (ad : ByteArray) (bi bx by_ : Int) (bd : ByteArray) (ci cx cy : Int) (cd : ByteArray)
    (a0 : 0 ≤ ax) (a2 : 0 ≤ ay) (b0 : 0 ≤ bx) (b2 : 0 ≤ by_) (c0 : 0 ≤ cx) (c2 : 0 ≤ cy) :
    croftlaw34_turn.f ai ax ay ad bi bx by_ bd ci cx cy cd = some (sgn (cr (ax % 1048576) (ay % 1048576) (bx % 1048576) (by_ % 1048576) (cx % 1048576) (cy % 1048576))) := by
  unfold croftlaw34_turn.f
  rw [small_eq _ _ _ _ a0 a2, small_eq _ _ _ _ b0 b2, small_eq _ _ _ _ c0 c2]
  simp only [Option.bind_some]
  rw [w64_in (bx % 1048576 - ax % 1048576) (by omega) (by omega), w64_in (cy % 1048576 - ay % 1048576) (by omega) (by omega), w64_in (by_ % 1048576 - ay % 1048576) (by omega) (by omega), w64_in (cx % 1048576 - ax % 1048576) (by omega) (by omega)]
  have p := prod_bound (bx % 1048576 - ax % 1048576) (cy % 1048576 - ay % 1048576) (by omega) (by omega) (by omega) (by omega)
  have q := prod_bound (by_ % 1048576 - ay % 1048576) (cx % 1048576 - ax % 1048576) (by omega) (by omega) (by omega) (by omega)
  unfold cr
  generalize (bx % 1048576 - ax % 1048576) * (cy % 1048576 - ay % 1048576) = P at *
  generalize (by_ % 1048576 - ay % 1048576) * (cx % 1048576 - ax % 1048576) = R at *
  rw [w64_in P (by omega) (by omega), w64_in R (by omega) (by omega), w64_in (P - R) (by omega) (by omega)]
  rcases sgn_cases (P - R) with ⟨e, h⟩ | ⟨e, h⟩ | ⟨e, h⟩ <;> rw [e]
  · rw [if_neg (by omega), if_pos h]
  · rw [if_neg (by omega), if_neg (by omega)]
  · rw [if_pos h]

/-- A point of small coordinates. -/
def sm (p : S24) : S24 := ⟨p.f0, p.f1 % 1048576, p.f2 % 1048576, ⟨#[]⟩⟩
theorem cut_loop (l : List S24) (hl : ∀ p ∈ l, 0 ≤ p.f1 ∧ 0 ≤ p.f2) (d : Nat) : ∀ (k i : Nat), i ≤ l.length → i ≤ 16 → min l.length 16 - i = d → d < k →
    croftlaw34_cut.l0 k l ((l.take i).map sm) (i : Int) = some ((l.take 16).map sm) := by
  induction d with
  | zero =>
    intro k i h1 h2 h3 hk
    obtain ⟨k, rfl⟩ : ∃ m, k = m + 1 := ⟨k - 1, by omega⟩
    simp only [croftlaw34_cut.l0]
    by_cases hi : i = l.length
    · rw [if_neg (by omega), List.take_of_length_le (by omega : l.length ≤ i), List.take_of_length_le (by omega : l.length ≤ 16)]
    · have : i = 16 := by omega
      subst this
      rw [if_pos (by omega), if_neg (by omega)]
  | succ d ih =>
    intro k i h1 h2 h3 hk
    obtain ⟨k, rfl⟩ : ∃ m, k = m + 1 := ⟨k - 1, by omega⟩
    have hi : i < l.length := by omega
    simp only [croftlaw34_cut.l0]
    rw [if_pos (by omega), if_pos (by omega), if_pos (by omega)]
    have hrd : rd_T24 l (i : Int) = l[i] := by simp [rd_T24, hi]
    have hp := hl _ (List.getElem_mem hi)
    rw [hrd, small_eq _ _ _ _ hp.1 hp.2]
    simp only [Option.bind_some]
    rw [if_pos (by simp; omega), w64_in _ (by omega) (by omega)]
    have hs : (l.take i).map sm ++ [(⟨l[i].f0, l[i].f1 % 1048576 % 4294967296, l[i].f2 % 1048576 % 4294967296, ⟨#[]⟩⟩ : S24)] = (l.take (i + 1)).map sm := by
      rw [List.take_succ_eq_append_getElem hi, List.map_append]
      simp only [List.map_cons, List.map_nil, sm]
      rw [show l[i].f1 % 1048576 % 4294967296 = l[i].f1 % 1048576 from by omega, show l[i].f2 % 1048576 % 4294967296 = l[i].f2 % 1048576 from by omega]
    rw [hs, show (i : Int) + 1 = ((i + 1 : Nat) : Int) from by omega]
    exact ih k (i + 1) (by omega) (by omega) (by omega) (by omega)
theorem cut_eq (k : Nat) (l : List S24) (hl : ∀ p ∈ l, 0 ≤ p.f1 ∧ 0 ≤ p.f2) : croftlaw34_cut.f (k + 17) l = some ((l.take 16).map sm) := by
  unfold croftlaw34_cut.f
  exact cut_loop l hl _ (k + 17) 0 (by omega) (by omega) rfl (by omega)
theorem alive34 (k : Nat) : croftlaw34_alive.f (k + 3) = some true := by
  unfold croftlaw34_alive.f
  rw [turn_eq k, turn_eq k, turn_eq k] <;> first | rfl | omega
end Go.Proofs.Ytgepbfcaimejmaa.PolyA
