/-
  The plain half of the law VictimTells: what its code computes is true, at all numbers and lists of the kinds that come in.
  Conditions: none but the kinds' own bounds.
-/
import Derived.Test.YtjlkkipickeebaaBetterV
import Derived.Test.YtjlkkipickeebaaPVx8
namespace Go.Proofs.Ytjlkkipickeebaa.Pure
open Go.RowKit Go.Proofs.Ytjlkkipickeebaa.PV Go.Proofs.YtjlkkipickeebaaW.PrintWords Go.Proofs.YtjlkkipickeebaaW.PrintLast Go.Proofs.YtjlkkipickeebaaW.PrintMore Nums MulV BetV
namespace VictimTellsAux
theorem digits_eq (a b c : Int) (h0 : 0 ≤ a) (h1 : a ≤ 1024) (h2 : 0 ≤ b) (h3 : b ≤ 4294967296) (h4 : 0 ≤ c) (h5 : c ≤ 2048) :
    croftlaw27_digits.f a b c = some (a * b * c % 4294967296, a * b * c / 4294967296 % 4294967296, a * b * c / 4294967296 / 4294967296) := by
  unfold croftlaw27_digits.f
  have b1 := le_mul a b 1024 4294967296 h0 h1 h2 h3
  rw [u64_in (a * b) b1.1 (by omega)]
  generalize a * b = p at b1 ⊢
  rw [Int.tmod_eq_emod_of_nonneg b1.1, Int.tdiv_eq_ediv_of_nonneg b1.1]
  have q1 : 0 ≤ p % 4294967296 ∧ p % 4294967296 ≤ 4294967296 := by omega
  have q2 : 0 ≤ p / 4294967296 ∧ p / 4294967296 ≤ 1024 := by omega
  have e : p * c = (p / 4294967296 * c) * 4294967296 + p % 4294967296 * c := by
    have := Int.mul_ediv_add_emod p 4294967296
    rw [show p / 4294967296 * c * 4294967296 + p % 4294967296 * c = (4294967296 * (p / 4294967296) + p % 4294967296) * c by rw [Int.add_mul, Int.mul_comm 4294967296, Int.mul_assoc, Int.mul_assoc, Int.mul_comm c], this]
  have m1 := le_mul (p % 4294967296) c 4294967296 2048 q1.1 q1.2 h4 h5
  have m2 := le_mul (p / 4294967296) c 1024 2048 q2.1 q2.2 h4 h5
  rw [u64_in (p / 4294967296) q2.1 (by omega), u64_in (p % 4294967296 * c) m1.1 (by omega), u64_in (p / 4294967296 * c) m2.1 (by omega)]
  rw [e]
  generalize p % 4294967296 * c = X at *
  generalize p / 4294967296 * c = Y at *
  rw [Int.tmod_eq_emod_of_nonneg m1.1, Int.tdiv_eq_ediv_of_nonneg m1.1, u64_in (X / 4294967296) (by omega) (by omega), u64_in (Y + X / 4294967296) (by omega) (by omega), Int.tmod_eq_emod_of_nonneg (by omega), Int.tdiv_eq_ediv_of_nonneg (by omega), u64_in _ (by omega) (by omega)]
  simp only [Option.some.injEq, Prod.mk.injEq]
  omega
theorem cmp3 (k : Nat) (z y : Int) : croftlaw27_better.l0 (k + 4) 2 (z % 4294967296) (z / 4294967296 % 4294967296) (z / 4294967296 / 4294967296) (y % 4294967296) (y / 4294967296 % 4294967296) (y / 4294967296 / 4294967296) = some (decide (y < z)) := by
  have w1 : wrap64 (2 - 1) = 1 := by unfold wrap64; omega
  have w2 : wrap64 (1 - 1) = 0 := by unfold wrap64; omega
  have w3 : wrap64 (0 - 1) = -1 := by unfold wrap64; omega
  simp only [croftlaw27_better.l0, w1, w2, w3]
  by_cases h2 : z / 4294967296 / 4294967296 = y / 4294967296 / 4294967296
  · by_cases h1 : z / 4294967296 % 4294967296 = y / 4294967296 % 4294967296
    · by_cases h0 : z % 4294967296 = y % 4294967296
      · have : ¬ y < z := by omega
        simp [h2, h1, h0, this]
      · have : (z % 4294967296 > y % 4294967296) ↔ y < z := by omega
        simp [h2, h1, h0, ← this]
    · have : (z / 4294967296 % 4294967296 > y / 4294967296 % 4294967296) ↔ y < z := by omega
      simp [h2, h1, ← this]
  · have : (z / 4294967296 / 4294967296 > y / 4294967296 / 4294967296) ↔ y < z := by omega
    simp [h2, ← this]
theorem j1_eq (k : Nat) (S LA AA LB AB : Int) (s0 : 0 ≤ S) (s1 : S ≤ 1024) (a0 : 0 ≤ LA) (a1 : LA ≤ 1024) (b0 : 0 ≤ LB) (b1 : LB ≤ 1024) (c0 : 0 ≤ AA) (c1 : AA ≤ 4294967296) (d0 : 0 ≤ AB) (d1 : AB ≤ 4294967296) :
    croftlaw27_better.j1 (k + 5) S LA AA LB AB (mx (S - LA) 0) (mx (S - LB) 0) = some (decide (worth S LB AB * (S + LA) < worth S LA AA * (S + LB))) := by
  simp only [croftlaw27_better.j1]
  rw [u64_in (S + LB) (by omega) (by omega), u64_in (S + LA) (by omega) (by omega),
    digits_eq _ AA _ (mx0 _).1 (mx_hi _ 1024 (by omega) (by omega)) c0 c1 (by omega) (by omega),
    digits_eq _ AB _ (mx0 _).1 (mx_hi _ 1024 (by omega) (by omega)) d0 d1 (by omega) (by omega)]
  simp only [Option.bind_some]
  exact cmp3 k _ _
theorem bett_eq (k : Nat) (s la aa lb ab : Int) : croftlaw27_better.f (k + 6) s la aa lb ab = victim_Better.f s la aa lb ab := by
  rw [better_eq]
  unfold croftlaw27_better.f croftlaw27_fix.f
  simp only [Option.bind_some, croftlaw27_better.j0]
  show (if cl s 0 1024 > cl la 0 1024 then _ else _) = _
  have s0 := cl_lo s 0 1024 (by omega)
  have s1 := cl_hi s 0 1024
  have a0 := cl_lo la 0 1024 (by omega)
  have a1 := cl_hi la 0 1024
  have b0 := cl_lo lb 0 1024 (by omega)
  have b1 := cl_hi lb 0 1024
  have c0 := cl_lo aa 1 4294967296 (by omega)
  have c1 := cl_hi aa 1 4294967296
  have d0 := cl_lo ab 1 4294967296 (by omega)
  have d1 := cl_hi ab 1 4294967296
  have key := j1_eq k (cl s 0 1024) (cl la 0 1024) (cl aa 1 4294967296) (cl lb 0 1024) (cl ab 1 4294967296) s0 s1 a0 a1 b0 b1 (by omega) c1 (by omega) d1
  rw [← key]
  by_cases h1 : cl s 0 1024 > cl la 0 1024
  · rw [if_pos h1, mx_id (cl s 0 1024 - cl la 0 1024) (by omega)]
    show (if cl s 0 1024 > cl lb 0 1024 then _ else _) = _
    by_cases h2 : cl s 0 1024 > cl lb 0 1024
    · rw [if_pos h2, mx_id (cl s 0 1024 - cl lb 0 1024) (by omega)]
      show croftlaw27_better.j1 _ _ _ _ _ _ (IntKind.u64.wrap (cl s 0 1024 - cl la 0 1024)) (IntKind.u64.wrap (cl s 0 1024 - cl lb 0 1024)) = _
      rw [u64_in (cl s 0 1024 - cl la 0 1024) (by omega) (by omega), u64_in (cl s 0 1024 - cl lb 0 1024) (by omega) (by omega)]
      rfl
    · rw [if_neg h2, mx_nil (cl s 0 1024 - cl lb 0 1024) (by omega)]
      show croftlaw27_better.j1 _ _ _ _ _ _ (IntKind.u64.wrap (cl s 0 1024 - cl la 0 1024)) _ = _
      rw [u64_in (cl s 0 1024 - cl la 0 1024) (by omega) (by omega)]
      rfl
  · rw [if_neg h1, mx_nil (cl s 0 1024 - cl la 0 1024) (by omega)]
    show (if cl s 0 1024 > cl lb 0 1024 then _ else _) = _
    by_cases h2 : cl s 0 1024 > cl lb 0 1024
    · rw [if_pos h2, mx_id (cl s 0 1024 - cl lb 0 1024) (by omega)]
      show croftlaw27_better.j1 _ _ _ _ _ _ _ (IntKind.u64.wrap (cl s 0 1024 - cl lb 0 1024)) = _
      rw [u64_in (cl s 0 1024 - cl lb 0 1024) (by omega) (by omega)]
      rfl
    · rw [if_neg h2, mx_nil (cl s 0 1024 - cl lb 0 1024) (by omega)]
      rfl
theorem w64_in' (n : Int) (h0 : -9223372036854775808 ≤ n) (h1 : n ≤ 9223372036854775807) : wrap64 n = n := by unfold wrap64; omega
section
variable (out : List Int) (ho : out.length ≤ 9223372036854775806)
include ho
/-- Is v one of those from place m on? -/
theorem index_eq (v : Int) (d : Nat) : ∀ K m : Nat, out.length - m = d → m ≤ out.length → ∃ t, slices_Index_int_int.l0 (d + K + 1) out v (out.length : Int) m = some t ∧ (0 ≤ t ↔ v ∈ out.drop m) := by
  induction d with
  | zero =>
    intro K m h1 h2
    obtain rfl : m = out.length := by omega
    refine ⟨-1, ?_, by simp⟩
    simp only [slices_Index_int_int.l0]
    rw [if_neg (by omega)]
  | succ d ih =>
    intro K m h1 h2
    obtain ⟨t, e1, e2⟩ := ih K (m + 1) (by omega) (by omega)
    obtain ⟨F, hF⟩ : ∃ F, d + K + 1 = F := ⟨_, rfl⟩
    rw [hF] at e1
    rw [show d + 1 + K + 1 = F + 1 by omega]
    have hm : m < out.length := by omega
    have hr : rd out (m : Int) = out[m] := by
      unfold rd
      rw [Int.toNat_natCast, List.getD_eq_getElem?_getD, List.getElem?_eq_getElem hm]
      rfl
    rw [List.drop_eq_getElem_cons hm]
    simp only [slices_Index_int_int.l0]
    rw [if_pos (by omega), if_pos (by omega), if_pos (by omega), hr]
    by_cases e : v = out[m]
    · rw [if_pos e]
      exact ⟨(m : Int), rfl, fun _ => by rw [e]; exact List.mem_cons_self, fun _ => by omega⟩
    · rw [if_neg e, w64_in' ((m : Int) + 1) (by omega) (by omega)]
      refine ⟨t, e1, ?_⟩
      rw [e2, List.mem_cons]
      exact ⟨Or.inr, fun h => h.resolve_left e⟩
end
/-- Is v one of the numbers? -/
theorem contains_eq (out : List Int) (ho : out.length ≤ 9223372036854775806) (v : Int) (k : Nat) (hk : out.length + 1 ≤ k) :
    slices_Contains_int_int.f k out v = some (decide (v ∈ out)) := by
  obtain ⟨t, e1, e2⟩ := index_eq out ho v out.length (k - (out.length + 1)) 0 (by omega) (by omega)
  rw [show out.length + (k - (out.length + 1)) + 1 = k by omega] at e1
  unfold slices_Contains_int_int.f slices_Index_int_int.f
  rw [show (0 : Int) = ((0 : Nat) : Int) from rfl, e1, Option.bind_some]
  simp only [List.drop_zero] at e2
  simp only [Int.natCast_zero, ge_iff_le, e2]
/-- Is the first segment worth more? -/
def bt (s : Int) (x y : S31) : Bool := decide (worth (cl s 0 1024) (cl y.f0 0 1024) (cl y.f1 1 4294967296) * (cl s 0 1024 + cl x.f0 0 1024) < worth (cl s 0 1024) (cl x.f0 0 1024) (cl x.f1 1 4294967296) * (cl s 0 1024 + cl y.f0 0 1024))
theorem bt_eq (s : Int) (x y : S31) : victim_Better.f s x.f0 x.f1 y.f0 y.f1 = some (bt s x y) := better_eq s x.f0 x.f1 y.f0 y.f1
theorem bt_law (k : Nat) (s : Int) (x y : S31) : croftlaw27_better.f (k + 6) s x.f0 x.f1 y.f0 y.f1 = some (bt s x y) := by rw [bett_eq, bt_eq]
/-- Is a segment left out? -/
def sk (S : Int) (L : List S31) (out : List Int) (i : Int) : Bool := decide ((rd_T31 L i).f0 < 1) || decide ((rd_T31 L i).f0 ≥ S) || decide (i ∈ out)
/-- Is segment i taken, where b is the best so far? -/
def ch (s : Int) (L : List S31) (b i : Int) (q : Bool) : Bool := if q = true then false else if b < 0 then true else bt s (rd_T31 L i) (rd_T31 L b)
/-- The best of the first m. -/
def best (s S : Int) (L : List S31) (out : List Int) : Nat → Int
  | 0 => -1
  | m + 1 => if ch s L (best s S L out m) m (sk S L out m) = true then m else best s S L out m
theorem best_lt (s S : Int) (L : List S31) (out : List Int) : ∀ m : Nat, -1 ≤ best s S L out m ∧ best s S L out m < m
  | 0 => by simp [best]
  | m + 1 => by
    have := best_lt s S L out m
    unfold best
    split <;> omega
section
variable (s a3 a4 : Int) (L : List S31) (out : List Int) (ho : out.length ≤ 9223372036854775806) (hl : L.length ≤ 40)
include ho hl
theorem pick_eq : ∀ d m : Nat, L.length - m = d → m ≤ L.length → ∀ k, out.length + 2 * d + 3 ≤ k →
    victim_Pick.l0 k s L out (best s (mn (mx s 0) 1024) L out m) L (L.length : Int) m = some (mx (best s (mn (mx s 0) 1024) L out L.length) 0, decide (best s (mn (mx s 0) 1024) L out L.length ≥ 0)) := by
  intro d
  induction d with
  | zero =>
    intro m h1 h2 k hk
    obtain rfl : m = L.length := by omega
    obtain ⟨k, rfl⟩ : ∃ j, k = j + 1 := ⟨k - 1, by omega⟩
    simp only [victim_Pick.l0]
    rw [if_neg (by omega)]
  | succ d ih =>
    intro m h1 h2 k hk
    obtain ⟨k, rfl⟩ : ∃ j, k = j + 2 := ⟨k - 2, by omega⟩
    have hb := best_lt s (mn (mx s 0) 1024) L out m
    have nx := ih (m + 1) (by omega) (by omega) k (by omega)
    have ej : ∀ q : Bool, q = sk (mn (mx s 0) 1024) L out m →
        victim_Pick.j1 (k + 1) s L out (best s (mn (mx s 0) 1024) L out m) m L (L.length : Int) m q (rd_T31 L m).f0 (rd_T31 L m).f1 = some (mx (best s (mn (mx s 0) 1024) L out L.length) 0, decide (best s (mn (mx s 0) 1024) L out L.length ≥ 0)) := by
      intro q hq
      rw [show best s (mn (mx s 0) 1024) L out (m + 1) = if ch s L (best s (mn (mx s 0) 1024) L out m) m q = true then (m : Int) else best s (mn (mx s 0) 1024) L out m by rw [hq]; rfl] at nx
      simp only [victim_Pick.j1]
      rw [w64_in' ((m : Int) + 1) (by omega) (by omega)]
      cases q with
      | true => rw [if_pos rfl]; rw [show ch s L (best s (mn (mx s 0) 1024) L out m) m true = false from rfl, if_neg (by decide)] at nx; exact nx
      | false =>
        rw [if_neg (by decide)]
        by_cases hn : best s (mn (mx s 0) 1024) L out m < 0
        · rw [if_pos hn]
          rw [show ch s L (best s (mn (mx s 0) 1024) L out m) m false = true by unfold ch; rw [if_neg (by decide), if_pos hn], if_pos rfl] at nx
          exact nx
        · rw [if_neg hn, if_pos (by omega), if_pos (by omega), bt_eq, Option.bind_some]
          rw [show ch s L (best s (mn (mx s 0) 1024) L out m) m false = bt s (rd_T31 L m) (rd_T31 L (best s (mn (mx s 0) 1024) L out m)) by unfold ch; rw [if_neg (by decide), if_neg hn]] at nx
          cases hbt : bt s (rd_T31 L m) (rd_T31 L (best s (mn (mx s 0) 1024) L out m)) with
          | true => rw [if_pos rfl]; rw [hbt, if_pos rfl] at nx; exact nx
          | false => rw [if_neg (by decide)]; rw [hbt, if_neg (by decide)] at nx; exact nx
    show victim_Pick.l0 (k + 1 + 1) _ _ _ _ _ _ _ = _
    simp only [victim_Pick.l0]
    rw [if_pos (by omega), if_pos (by omega), if_pos (by omega)]
    by_cases h1' : (rd_T31 L m).f0 < 1
    · rw [if_pos h1']
      exact ej true (by simp [sk, h1'])
    · rw [if_neg h1']
      simp only [victim_near.f, Option.bind_some]
      by_cases h2' : (rd_T31 L m).f0 ≥ mn (mx s 0) 1024
      · rw [if_pos h2']
        exact ej true (by simp only [sk, h2', decide_true, Bool.or_true, Bool.true_or])
      · rw [if_neg h2', contains_eq out ho _ _ (by omega), Option.bind_some]
        exact ej _ (by simp only [sk, h2', h1', decide_false, Bool.false_or])
omit hl in
theorem l1_ev (S b i : Int) (hi0 : 0 ≤ i) (hi1 : i < (L.length : Int)) (hb : b < (L.length : Int)) : ∀ d m : Nat, out.length - m = d → m ≤ out.length → ∀ q : Bool,
    (∃ k0, ∀ k, k0 ≤ k → croftlaw27_VictimTells.j4 k s L out a3 a4 b S i (ch s L b i (q || decide (i ∈ out.drop m))) = some true) →
    ∃ k0, ∀ k, k0 ≤ k → croftlaw27_VictimTells.l1 k s L out a3 a4 b S i q m = some true := by
  intro d
  induction d with
  | zero =>
    intro m h1 h2 q ⟨k0, hk0⟩
    obtain rfl : m = out.length := by omega
    simp only [List.drop_length, List.not_mem_nil, decide_false, Bool.or_false] at hk0
    refine ⟨k0 + 7, fun k hk => ?_⟩
    obtain ⟨k, rfl⟩ : ∃ j, k = j + 7 := ⟨k - 7, by omega⟩
    have hk1 := hk0 (k + 6) (by omega)
    show croftlaw27_VictimTells.l1 (k + 6 + 1) _ _ _ _ _ _ _ _ _ _ = _
    simp only [croftlaw27_VictimTells.l1]
    rw [if_neg (by omega)]
    cases q with
    | true => rw [if_pos rfl]; exact hk1
    | false =>
      rw [if_neg (by decide)]
      by_cases hn : b < 0
      · rw [if_pos hn]
        rw [show ch s L b i false = true by unfold ch; rw [if_neg (by decide), if_pos hn]] at hk1
        exact hk1
      · rw [if_neg hn, if_pos hi0, if_pos hi1, if_pos (by omega), if_pos hb, bt_law, Option.bind_some]
        rw [show ch s L b i false = bt s (rd_T31 L i) (rd_T31 L b) by unfold ch; rw [if_neg (by decide), if_neg hn]] at hk1
        exact hk1
  | succ d ih =>
    intro m h1 h2 q hk0
    have hm : m < out.length := by omega
    have hr : rd out (m : Int) = out[m] := by
      unfold rd
      rw [Int.toNat_natCast, List.getD_eq_getElem?_getD, List.getElem?_eq_getElem hm]
      rfl
    rw [List.drop_eq_getElem_cons hm] at hk0
    have key : ∃ k0, ∀ k, k0 ≤ k → croftlaw27_VictimTells.l1 k s L out a3 a4 b S i (q || (out[m] == i)) ((m + 1 : Nat) : Int) = some true := by
      refine ih (m + 1) (by omega) (by omega) _ ?_
      rw [show (q || (out[m] == i) || decide (i ∈ out.drop (m + 1))) = (q || decide (i ∈ out[m] :: out.drop (m + 1))) by
        rw [Bool.or_assoc]
        congr 1
        rw [Bool.eq_iff_iff]
        simp only [Bool.or_eq_true, beq_iff_eq, decide_eq_true_eq, List.mem_cons]
        constructor
        · rintro (h | h)
          · exact Or.inl h.symm
          · exact Or.inr h
        · rintro (h | h)
          · exact Or.inl h.symm
          · exact Or.inr h]
      exact hk0
    obtain ⟨k0, hk1⟩ := key
    refine ⟨k0 + 1, fun k hk => ?_⟩
    obtain ⟨k, rfl⟩ : ∃ j, k = j + 1 := ⟨k - 1, by omega⟩
    have hk2 := hk1 k (by omega)
    simp only [croftlaw27_VictimTells.l1]
    rw [if_pos (by omega), w64_in' ((m : Int) + 1) (by omega) (by omega)]
    cases q with
    | true => rw [if_pos rfl]; rw [Bool.true_or] at hk2; exact hk2
    | false => rw [if_neg (by decide), if_pos (by omega), hr]; rw [Bool.false_or] at hk2; exact hk2
theorem l0_ev (h3 : victim_Age.f a3 a4 = some (mx ((mn (mx a3 0) 4294967296) - (mn (mx a4 0) 4294967296)) 1)) : ∀ d m : Nat, L.length - m = d → m ≤ L.length →
    ∃ k0, ∀ k, k0 ≤ k → croftlaw27_VictimTells.l0 k s L out a3 a4 (best s (mn (mx s 0) 1024) L out m) (mn (mx s 0) 1024) m = some true := by
  intro d
  induction d with
  | zero =>
    intro m h1 h2
    obtain rfl : m = L.length := by omega
    refine ⟨out.length + 2 * L.length + 4, fun k hk => ?_⟩
    obtain ⟨k, rfl⟩ : ∃ j, k = j + 1 := ⟨k - 1, by omega⟩
    have hp := pick_eq s L out ho hl L.length 0 (by omega) (by omega) k (by omega)
    simp only [croftlaw27_VictimTells.l0]
    rw [if_neg (by omega), show victim_Pick.f k s L out = _ from hp, Option.bind_some]
    simp only [beq_self_eq_true, if_true, h3, Option.bind_some]
  | succ d ih =>
    intro m h1 h2
    have hb := best_lt s (mn (mx s 0) 1024) L out m
    obtain ⟨k0, hk0⟩ := ih (m + 1) (by omega) (by omega)
    have hm1 : wrap64 ((m : Int) + 1) = ((m + 1 : Nat) : Int) := by rw [w64_in' _ (by omega) (by omega)]; rfl
    have e5 : ∃ k0, ∀ k, k0 ≤ k → croftlaw27_VictimTells.j5 k s L out a3 a4 (best s (mn (mx s 0) 1024) L out (m + 1)) (mn (mx s 0) 1024) m = some true := by
      refine ⟨k0 + 7, fun k hk => ?_⟩
      obtain ⟨k, rfl⟩ : ∃ j, k = j + 7 := ⟨k - 7, by omega⟩
      have hk1 := hk0 (k + 6) (by omega)
      show croftlaw27_VictimTells.j5 (k + 6 + 1) _ _ _ _ _ _ _ _ = _
      simp only [croftlaw27_VictimTells.j5]
      rw [hm1]
      by_cases hp : (m : Int) > 0
      · rw [if_pos hp, if_pos (by omega), if_pos (by omega), w64_in' ((m : Int) - 1) (by omega) (by omega), if_pos (by omega), if_pos (by omega), bt_eq, Option.bind_some, bt_law, Option.bind_some]
        rw [if_neg (by simp)]
        exact hk1
      · rw [if_neg hp]
        exact hk1
    have e4 : ∃ k0, ∀ k, k0 ≤ k → croftlaw27_VictimTells.j4 k s L out a3 a4 (best s (mn (mx s 0) 1024) L out m) (mn (mx s 0) 1024) m (ch s L (best s (mn (mx s 0) 1024) L out m) m (sk (mn (mx s 0) 1024) L out m)) = some true := by
      obtain ⟨k1, hk1⟩ := e5
      refine ⟨k1 + 1, fun k hk => ?_⟩
      obtain ⟨k, rfl⟩ : ∃ j, k = j + 1 := ⟨k - 1, by omega⟩
      have hk2 := hk1 k (by omega)
      simp only [croftlaw27_VictimTells.j4]
      rw [show best s (mn (mx s 0) 1024) L out (m + 1) = if ch s L (best s (mn (mx s 0) 1024) L out m) m (sk (mn (mx s 0) 1024) L out m) = true then (m : Int) else best s (mn (mx s 0) 1024) L out m from rfl] at hk2
      split
      · next h => rw [if_pos h] at hk2; exact hk2
      · next h => rw [if_neg h] at hk2; exact hk2
    have e1 : ∀ q : Bool, (q || decide ((m : Int) ∈ out)) = sk (mn (mx s 0) 1024) L out m → ∃ k0, ∀ k, k0 ≤ k → croftlaw27_VictimTells.j2 k s L out a3 a4 (best s (mn (mx s 0) 1024) L out m) (mn (mx s 0) 1024) m q = some true := by
      intro q hq
      have := l1_ev s a3 a4 L out ho (mn (mx s 0) 1024) (best s (mn (mx s 0) 1024) L out m) m (by omega) (by omega) (by omega) out.length 0 (by omega) (by omega) q (by rw [List.drop_zero, hq]; exact e4)
      obtain ⟨k1, hk1⟩ := this
      refine ⟨k1 + 1, fun k hk => ?_⟩
      obtain ⟨k, rfl⟩ : ∃ j, k = j + 1 := ⟨k - 1, by omega⟩
      simp only [croftlaw27_VictimTells.j2]
      exact hk1 k (by omega)
    by_cases h1' : (rd_T31 L m).f0 < 1
    · obtain ⟨k1, hk1⟩ := e1 true (by simp [sk, h1'])
      refine ⟨k1 + 1, fun k hk => ?_⟩
      obtain ⟨k, rfl⟩ : ∃ j, k = j + 1 := ⟨k - 1, by omega⟩
      simp only [croftlaw27_VictimTells.l0]
      rw [if_pos (by omega), if_pos (by omega), if_pos h1']
      exact hk1 k (by omega)
    · obtain ⟨k1, hk1⟩ := e1 (decide ((rd_T31 L m).f0 ≥ mn (mx s 0) 1024)) (by simp only [sk, h1', decide_false, Bool.false_or])
      refine ⟨k1 + 1, fun k hk => ?_⟩
      obtain ⟨k, rfl⟩ : ∃ j, k = j + 1 := ⟨k - 1, by omega⟩
      simp only [croftlaw27_VictimTells.l0]
      rw [if_pos (by omega), if_pos (by omega), if_neg h1']
      exact hk1 k (by omega)
end
theorem age_eq (a b : Int) : victim_Age.f a b = some (mx ((mn (mx a 0) 4294967296) - (mn (mx b 0) 4294967296)) 1) := by
  simp only [victim_Age.f, victim_near.f, Option.bind_some]
  rw [w64_in']
  · have h1 : mn (mx b 0) 4294967296 ≤ 4294967296 := by unfold mn mx; split <;> split <;> omega
    have h2 : 0 ≤ mn (mx a 0) 4294967296 := by unfold mn mx; split <;> split <;> omega
    omega
  · have h1 : mn (mx a 0) 4294967296 ≤ 4294967296 := by unfold mn mx; split <;> split <;> omega
    have h2 : 0 ≤ mn (mx b 0) 4294967296 := by unfold mn mx; split <;> split <;> omega
    omega
end VictimTellsAux
open VictimTellsAux in
/-- Which of any two segments is better is as of exact products; the first of the best is picked. -/
theorem VictimTells : croftlaw27_VictimTells.Pure := by
  intro s l out a3 a4 _ _ _ _ _ ho _ _ _
  have ho' : out.length ≤ 9223372036854775806 := by omega
  have main : ∀ L : List S31, L.length ≤ 40 → ∃ k, croftlaw27_VictimTells.j0 k s L out a3 a4 = some true := by
    intro L hl
    obtain ⟨k0, hk0⟩ := l0_ev s a3 a4 L out ho' hl (age_eq a3 a4) L.length 0 (by omega) (by omega)
    exact ⟨k0 + 1, hk0 k0 (Nat.le_refl _)⟩
  unfold croftlaw27_VictimTells.f
  simp only [alive_true, Option.bind_some, if_true]
  by_cases h : (l.length : Int) > 40
  · obtain ⟨k, hk⟩ := main (l.take 40) (by rw [List.length_take]; omega)
    exact ⟨k, by rw [if_pos h, if_pos (by omega)]; exact hk⟩
  · obtain ⟨k, hk⟩ := main l (by omega)
    exact ⟨k, by rw [if_neg h]; exact hk⟩
end Go.Proofs.Ytjlkkipickeebaa.Pure
