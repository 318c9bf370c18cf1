/- Plain facts on integers; nothing of the program. -/
import Derived.Test.YtnfefhphkjfhjaaPlainQ
import Derived.Test.YtnfefhphkjfhjaaPlainS
namespace Go.Proofs.Ytnfefhphkjfhjaa
open Go.RowKit
set_option linter.unusedVariables false


theorem segB_swap (a1 a2 b1 b2 : Int) : segB b1 b2 a1 a2 = segB a1 a2 b1 b2 := by
  unfold segB
  rw [v2B_swap]
  congr 1
  rw [Bool.eq_iff_iff]
  simp only [decide_eq_true_eq]
  omega
theorem dotW_swap (a1 a2 b1 b2 x y : Int) : dotW b1 b2 a1 a2 x y = dotW a1 a2 b1 b2 x y := by
  unfold dotW
  rw [Int.mul_comm (b1 - x), Int.mul_comm (b2 - y)]
theorem hasB_swap (a1 a2 b1 b2 x y : Int) : hasB b1 b2 a1 a2 x y = hasB a1 a2 b1 b2 x y := by
  unfold hasB
  rw [dotW_swap, crossV_swap12]
  congr 1
  rw [Bool.eq_iff_iff]
  simp only [decide_eq_true_eq]
  omega
theorem onB_swap (a1 a2 b1 b2 x y : Int) : onB b1 b2 a1 a2 x y = onB a1 a2 b1 b2 x y := by
  unfold onB
  rw [segB_swap, hasB_swap]
theorem segB_pts {a1 a2 b1 b2 : Int} (h : segB a1 a2 b1 b2 = true) : ptB a1 a2 = true ∧ ptB b1 b2 = true := by
  unfold segB v2B at h
  simp only [Bool.and_eq_true] at h
  exact h.1
theorem hasB_A (a1 a2 b1 b2 : Int) : hasB a1 a2 b1 b2 a1 a2 = true := by
  unfold hasB
  have h1 : crossV a1 a2 b1 b2 a1 a2 = 0 := by unfold crossV; simp
  have h2 : dotW a1 a2 b1 b2 a1 a2 = 0 := by unfold dotW; simp
  rw [h1, h2]; rfl
theorem onB_A (a1 a2 b1 b2 : Int) (h : segB a1 a2 b1 b2 = true) : onB a1 a2 b1 b2 a1 a2 = true := by
  unfold onB
  rw [h, (segB_pts h).1, hasB_A]; rfl
theorem onB_B (a1 a2 b1 b2 : Int) (h : segB a1 a2 b1 b2 = true) : onB a1 a2 b1 b2 b1 b2 = true := by
  rw [← onB_swap]
  exact onB_A _ _ _ _ (by rw [segB_swap]; exact h)
theorem onB_orient (a1 a2 b1 b2 x y : Int) (h : onB a1 a2 b1 b2 x y = true) : OrientF a1 a2 b1 b2 x y = 0 := by
  unfold onB at h
  simp only [Bool.and_eq_true] at h
  obtain ⟨h1, h2, h3⟩ := h
  have hp := segB_pts h1
  unfold hasB at h3
  simp only [Bool.and_eq_true, decide_eq_true_eq] at h3
  have hv : v3B a1 a2 b1 b2 x y = true := by simp [v3B, hp.1, hp.2, h2]
  unfold OrientF
  rw [if_pos hv, h3.1]
  rfl

end Go.Proofs.Ytnfefhphkjfhjaa
