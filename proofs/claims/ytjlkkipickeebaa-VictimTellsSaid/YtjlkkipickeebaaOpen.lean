/-
  How a row's struct arguments, and its slices of structs, are read as plain values.
  No condition: the lemmas hold of any program and any world.
-/
import Derived.Deep.Slices
import Derived.SizedLaws
import Derived.ChangeSlices
import Derived.Test.YtjlkkipickeebaaWWords
import Derived.Test.YtjlkkipickeebaaWLast
namespace Go.Proofs.Ytjlkkipickeebaa.Opening
open Go.RowKit Go.ChangeShapes Go.WideShapes Go.Deep Go.Proofs.YtjlkkipickeebaaW.PrintWords Go.Proofs.YtjlkkipickeebaaW.PrintLast

section
variable {H : Type} {enc : TypeId × Value → H} {P : Program} {w : World} {base : Nat} {spare : Nat → Bool} {held : Bool}

theorem slice_structs {S : Type} {kd : Kd S} {t e : TypeId} {a : Option Addr} {len cap : Nat} {d : DataW H} {ps : List MemPlace} (Q : S → Prop)
    (ht : P.underlying t = some (.slice e)) (hC : P.cellsOf e = kd.sz)
    (hel : ∀ (fuel : Nat) (cs : List Value) (x : DataW H × List MemPlace), DataW.trod enc P w base spare held fuel e cs = some x → ∃ s : S, Q s ∧ kd.K w s cs)
    (h : DataW.Trod enc P w base spare held t (.slice a len cap) d ps) :
    ∃ l : List S, len = l.length ∧ kd.C w a l.length l ∧ l.length ≤ maxLen ∧ (∀ x ∈ l, Q x) ∧ l.length ≤ cap := by
  obtain ⟨fuel, hf⟩ := h
  rcases open_slice ht hf with ⟨hcs, _⟩ | ⟨a', len', cap', m, n, D, Pl, hcs, _, hl, hm, hmm, _, hi⟩
  · simp [Value.cells] at hcs
    obtain ⟨rfl, rfl, rfl⟩ := hcs
    exact ⟨[], rfl, ⟨rfl, by simp, fun h => absurd h (by simp)⟩, by simp, by simp, by simp⟩
  · simp [Value.cells] at hcs
    obtain ⟨rfl, rfl, rfl⟩ := hcs
    have hlm : len ≤ m := by rw [hmm]; split <;> omega
    have key : ∀ j, j ≤ len → ∃ l : List S, l.length = j ∧ (∀ x ∈ l, Q x) ∧
        ∀ i p, l[i]? = some p → ∃ c, c.length = kd.sz ∧ kd.K w p c ∧ ∀ q u, c[q]? = some u → w.cell? (a'.add (i * kd.sz + q)) = some u := by
      intro j
      induction j with
      | zero => exact fun _ => ⟨[], rfl, by simp, fun i p hp => by simp at hp⟩
      | succ j ih =>
        intro hj
        obtain ⟨l, hl1, hq, hc⟩ := ih (by omega)
        obtain ⟨cs', hcs', htr⟩ := hi j (by omega)
        obtain ⟨s, hs, hk⟩ := hel _ _ _ htr
        obtain ⟨_, hcl, hat⟩ := World.cells?_some hcs'
        rw [hC] at hcl hat
        refine ⟨l ++ [s], by simp [hl1], fun x hx => ?_, fun i p hp => ?_⟩
        · rcases List.mem_append.1 hx with hx | hx
          · exact hq x hx
          · rw [List.mem_singleton] at hx
            exact hx ▸ hs
        · rcases Nat.lt_or_ge i l.length with hlt | hge
          · rw [List.getElem?_append_left hlt] at hp
            exact hc i p hp
          · have hi0 : i = j := by
              have := (List.getElem?_eq_some_iff.1 hp).1
              simp at this
              omega
            rw [List.getElem?_append_right hge, hi0, ← hl1, Nat.sub_self] at hp
            obtain rfl : s = p := by simpa using hp
            refine ⟨cs', hcl, hk, fun q u hu => ?_⟩
            have hq' : q < kd.sz := by
              have := (List.getElem?_eq_some_iff.1 hu).1
              omega
            rw [hi0, ← Go.Deep.add_add, hat q hq', hu]
    obtain ⟨l, hl1, hq, hc⟩ := key len (Nat.le_refl _)
    exact ⟨l, hl1.symm, ⟨rfl, by unfold maxLen at hm; omega, fun _ => ⟨a', rfl, hc⟩⟩, by omega, hq, by omega⟩

theorem sized_any {t e : TypeId} {a : Option Addr} {len cap : Nat} {d : DataW H} {ps : List MemPlace} {ts : List TypeId} {ds : List (DataW H)} {j : Nat}
    (hsz : (DataW.weightsEach P ts ds).all (· ≤ reachBytes) = true) (ht : ts[j]? = some t) (hd : ds[j]? = some d) (hu : P.underlying t = some (.slice e)) {B : Nat} (hB : P.bytesOf e = B)
    (h : DataW.Trod enc P w base spare held t (.slice a len cap) d ps) : len * B ≤ 140737488351232 := by
  obtain ⟨fuel, hf⟩ := h
  rcases open_slice hu hf with ⟨hcs, _⟩ | ⟨a', len', cap', m, n, D, Pl, hcs, _, hl, hm, hmm, hx, hi⟩
  · simp [Value.cells] at hcs
    obtain ⟨rfl, rfl, rfl⟩ := hcs
    simp
  · simp [Value.cells] at hcs
    obtain ⟨rfl, rfl, rfl⟩ := hcs
    obtain ⟨hx, _⟩ := Prod.mk.inj hx
    subst hx
    have z := sized_slice hsz ht hd hu
    rw [hB] at z
    refine Nat.le_trans (Nat.mul_le_mul_right _ ?_) z
    simp
end
end Go.Proofs.Ytjlkkipickeebaa.Opening
