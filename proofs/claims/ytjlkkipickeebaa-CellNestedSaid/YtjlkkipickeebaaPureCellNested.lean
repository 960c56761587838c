/-
  The plain half of the law CellNested: what its code computes is true, at all numbers of the kinds that come in.
  Conditions: none but the kinds' own bounds.
-/
import Derived.Test.YtjlkkipickeebaaCellA
import Derived.Test.YtjlkkipickeebaaPAx12
namespace Go.Proofs.Ytjlkkipickeebaa.Pure
open Go.RowKit Go.Proofs.Ytjlkkipickeebaa.PA Go.Proofs.YtjlkkipickeebaaW.PrintWords Go.Proofs.YtjlkkipickeebaaW.PrintLast Go.Proofs.YtjlkkipickeebaaW.PrintMore Nums CellA

theorem CellNested : croftlaw04_CellNested.Pure := by
  intro x y a b u v w0 w1 _ _ w4 w5
  have w0 := wf_u32 w0
  have w1 := wf_u32 w1
  have w4 := wf_u32 w4
  have w5 := wf_u32 w5
  unfold croftlaw04_CellNested.f
  show (croftlaw04_alive.f).bind (fun t183 => if t183 = true then ((cell_At.f x y (mn (lv a) (lv b))).bind fun bt184 => ((cell_At.f x y (mx (lv a) (lv b))).bind fun bt187 => ((cell_At.f bt187.1 bt187.2.1 bt184.2.2).bind fun bt192 => (if (bt192.1 == bt184.1 && (bt192.2.1 == bt184.2.1 && (bt192.2.2 == bt184.2.2))) = true then ((cell_Has.f bt187.1 bt187.2.1 bt187.2.2 u v).bind fun t195 => (if t195 = true then ((cell_Has.f bt184.1 bt184.2.1 bt184.2.2 u v).bind fun t196 => (if t196 = true then ((cell_Has.f bt184.1 bt184.2.1 bt184.2.2 x y).bind fun t197 => (some t197)) else (some false))) else ((cell_Has.f bt184.1 bt184.2.1 bt184.2.2 x y).bind fun t198 => (some t198)))) else (some false))))) else (some false)) = some true
  have ha := lv_bd a
  have hb := lv_bd b
  obtain ⟨c, hc, c0, c1⟩ : ∃ c, mn (lv a) (lv b) = c ∧ 0 ≤ c ∧ c ≤ 32 := ⟨_, rfl, by unfold mn; split <;> omega, by unfold mn; split <;> omega⟩
  obtain ⟨d, hd, d0, d1, hcd⟩ : ∃ d, mx (lv a) (lv b) = d ∧ 0 ≤ d ∧ d ≤ 32 ∧ c ≤ d := ⟨_, rfl, by unfold mx; split <;> omega, by unfold mx; split <;> omega, by rw [← hc]; unfold mx mn; split <;> split <;> omega⟩
  have fx := fl_bd x d w0.1
  have fy := fl_bd y d w1.1
  have gx := fl_bd x c w0.1
  have gy := fl_bd y c w1.1
  rw [alive04, hc, hd, at_eq x y c w0.1 w0.2 w1.1 w1.2, at_eq x y d w0.1 w0.2 w1.1 w1.2, lv_id c c0 c1, lv_id d d0 d1]
  simp only [Option.bind_some, if_true]
  rw [at_eq _ _ c fx.1 (by omega) fy.1 (by omega), lv_id c c0 c1]
  have ex : x / pw d * pw d / pw c = x / pw c := div_coarse _ _ c d hcd (fl_div x d)
  have ey : y / pw d * pw d / pw c = y / pw c := div_coarse _ _ c d hcd (fl_div y d)
  simp only [Option.bind_some, ex, ey, beq_self_eq_true, Bool.and_self, if_true]
  rw [has_eq _ _ d u v fx.1 (by omega) fy.1 (by omega) w4.1 w4.2 w5.1 w5.2, has_eq _ _ c u v gx.1 (by omega) gy.1 (by omega) w4.1 w4.2 w5.1 w5.2, has_eq _ _ c x y gx.1 (by omega) gy.1 (by omega) w0.1 w0.2 w1.1 w1.2]
  rw [lv_id c c0 c1, lv_id d d0 d1, fl_div, fl_div, fl_div, fl_div]
  simp only [Option.bind_some]
  by_cases h : u / pw d = x / pw d ∧ v / pw d = y / pw d
  · have h' : u / pw c = x / pw c ∧ v / pw c = y / pw c := ⟨div_coarse _ _ c d hcd h.1, div_coarse _ _ c d hcd h.2⟩
    simp [h, h']
  · rw [if_neg (by simpa using h)]
    simp
end Go.Proofs.Ytjlkkipickeebaa.Pure
