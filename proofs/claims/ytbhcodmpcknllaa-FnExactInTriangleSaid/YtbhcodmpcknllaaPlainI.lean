/- Plain facts on integers; nothing of the program. -/
import Derived.Test.YtbhcodmpcknllaaPlainS
namespace Go.Proofs.Ytbhcodmpcknllaa
open Go.RowKit
set_option linter.unusedVariables false


def TriB (a1 a2 b1 b2 c1 c2 x y : Int) : Bool :=
  if crossV a1 a2 b1 b2 c1 c2 = 0 then hasB a1 a2 b1 b2 x y || (hasB b1 b2 c1 c2 x y || hasB c1 c2 a1 a2 x y)
  else decide (0 ≤ sgnI (crossV a1 a2 b1 b2 c1 c2) * crossV a1 a2 b1 b2 x y) && (decide (0 ≤ sgnI (crossV a1 a2 b1 b2 c1 c2) * crossV b1 b2 c1 c2 x y) && decide (0 ≤ sgnI (crossV a1 a2 b1 b2 c1 c2) * crossV c1 c2 a1 a2 x y))
def v4I (a1 a2 b1 b2 c1 c2 x y : Int) : Bool := v4B a1 a2 b1 b2 c1 c2 x y && TriB a1 a2 b1 b2 c1 c2 x y
theorem hasB_end (a1 a2 b1 b2 : Int) : hasB a1 a2 b1 b2 a1 a2 = true := by
  unfold hasB
  have h1 : crossV a1 a2 b1 b2 a1 a2 = 0 := by unfold crossV; simp
  have h2 : dotW a1 a2 b1 b2 a1 a2 = 0 := by unfold dotW; simp
  rw [h1, h2]; rfl
theorem hasB_point (a1 a2 x y : Int) : hasB a1 a2 a1 a2 x y = decide (a1 = x ∧ a2 = y) := by
  unfold hasB
  have h1 : crossV a1 a2 a1 a2 x y = 0 := by unfold crossV; simp
  rw [h1]
  unfold dotW
  have k1 := sq_nonneg (a1 - x)
  have k2 := sq_nonneg (a2 - y)
  rw [Bool.eq_iff_iff]
  simp only [decide_true, Bool.true_and, decide_eq_true_eq]
  constructor
  · intro h
    have e1 : (a1 - x) * (a1 - x) = 0 := by omega
    have e2 : (a2 - y) * (a2 - y) = 0 := by omega
    rcases Int.mul_eq_zero.1 e1 with h3 | h3 <;> rcases Int.mul_eq_zero.1 e2 with h4 | h4 <;> omega
  · rintro ⟨rfl, rfl⟩; simp
theorem hasB_rev (a1 a2 b1 b2 x y : Int) : hasB b1 b2 a1 a2 x y = hasB a1 a2 b1 b2 x y := by
  unfold hasB
  have h1 : crossV b1 b2 a1 a2 x y = -crossV a1 a2 b1 b2 x y := by
    rw [cross_uv, cross_uv]
    rw [Int.mul_comm (b1 - x), Int.mul_comm (a1 - x)]
    omega
  have h2 : dotW b1 b2 a1 a2 x y = dotW a1 a2 b1 b2 x y := by unfold dotW; rw [Int.mul_comm (b1 - x), Int.mul_comm (b2 - y)]
  rw [h1, h2]
  congr 1
  rw [Bool.eq_iff_iff]
  simp only [decide_eq_true_eq]
  omega
theorem tri_line (a1 a2 b1 b2 c1 c2 x y : Int) (h : crossV a1 a2 b1 b2 c1 c2 = 0) : TriB a1 a2 b1 b2 c1 c2 x y =
    (decide (a1 = x ∧ a2 = y) || (!decide (a1 = b1 ∧ a2 = b2) && hasB a1 a2 b1 b2 x y || (!decide (b1 = c1 ∧ b2 = c2) && hasB b1 b2 c1 c2 x y || !decide (a1 = c1 ∧ a2 = c2) && hasB a1 a2 c1 c2 x y))) := by
  unfold TriB
  rw [if_pos h, hasB_rev a1 a2 c1 c2]
  by_cases q : a1 = x ∧ a2 = y
  · obtain ⟨rfl, rfl⟩ := q
    rw [hasB_end]; simp
  · have dq : decide (a1 = x ∧ a2 = y) = false := by simpa using q
    rw [dq, Bool.false_or]
    have e1 : (!decide (a1 = b1 ∧ a2 = b2) && hasB a1 a2 b1 b2 x y) = hasB a1 a2 b1 b2 x y := by
      by_cases e : a1 = b1 ∧ a2 = b2
      · obtain ⟨rfl, rfl⟩ := e; rw [hasB_point, dq]; simp
      · have : decide (a1 = b1 ∧ a2 = b2) = false := by simpa using e
        rw [this]; simp
    have e3 : (!decide (a1 = c1 ∧ a2 = c2) && hasB a1 a2 c1 c2 x y) = hasB a1 a2 c1 c2 x y := by
      by_cases e : a1 = c1 ∧ a2 = c2
      · obtain ⟨rfl, rfl⟩ := e; rw [hasB_point, dq]; simp
      · have : decide (a1 = c1 ∧ a2 = c2) = false := by simpa using e
        rw [this]; simp
    rw [e1, e3]
    by_cases e : b1 = c1 ∧ b2 = c2
    · obtain ⟨rfl, rfl⟩ := e
      have : decide (b1 = b1 ∧ b2 = b2) = true := by simp
      rw [this, hasB_point]
      by_cases f : b1 = x ∧ b2 = y
      · obtain ⟨rfl, rfl⟩ := f
        have : hasB a1 a2 b1 b2 b1 b2 = true := by rw [← hasB_rev]; exact hasB_end _ _ _ _
        rw [this]; simp
      · have : decide (b1 = x ∧ b2 = y) = false := by simpa using f
        rw [this]; simp
    · have : decide (b1 = c1 ∧ b2 = c2) = false := by simpa using e
      rw [this]; simp
theorem sgn_mul_nn (s t : Int) : decide (0 ≤ sgnI t * sgnI s) = decide (0 ≤ sgnI s * t) := by
  rw [Bool.eq_iff_iff]
  simp only [decide_eq_true_eq]
  unfold sgnI
  split <;> split <;> (try split) <;> (try split) <;> omega
theorem tri_area (a1 a2 b1 b2 c1 c2 x y : Int) (h : ¬ crossV a1 a2 b1 b2 c1 c2 = 0) : TriB a1 a2 b1 b2 c1 c2 x y =
    (decide (0 ≤ sgnI (crossV a1 a2 b1 b2 x y) * sgnI (crossV a1 a2 b1 b2 c1 c2)) && (decide (0 ≤ sgnI (crossV b1 b2 c1 c2 x y) * sgnI (crossV a1 a2 b1 b2 c1 c2)) && decide (0 ≤ sgnI (crossV c1 c2 a1 a2 x y) * sgnI (crossV a1 a2 b1 b2 c1 c2)))) := by
  unfold TriB
  rw [if_neg h, sgn_mul_nn, sgn_mul_nn, sgn_mul_nn]
theorem sgnI_zero_iff (n : Int) : sgnI n = 0 ↔ n = 0 := by unfold sgnI; split <;> (try split) <;> omega
theorem sgn_bd1 (n : Int) : -1 ≤ sgnI n ∧ sgnI n ≤ 1 := by unfold sgnI; split <;> (try split) <;> omega
theorem cross_bd1 (a1 a2 b1 b2 c1 c2 : Int) (h1 : -1000 ≤ a1 ∧ a1 ≤ 1000) (h2 : -1000 ≤ a2 ∧ a2 ≤ 1000) (h3 : -1000 ≤ b1 ∧ b1 ≤ 1000) (h4 : -1000 ≤ b2 ∧ b2 ≤ 1000) (h5 : -1000 ≤ c1 ∧ c1 ≤ 1000) (h6 : -1000 ≤ c2 ∧ c2 ≤ 1000) :
    -8000000 ≤ crossV a1 a2 b1 b2 c1 c2 ∧ crossV a1 a2 b1 b2 c1 c2 ≤ 8000000 := by
  have m1 := mul_bd (b1 - a1) (c2 - a2) 2000 2000 (by omega) (by omega) (by omega) (by omega)
  have m2 := mul_bd (b2 - a2) (c1 - a1) 2000 2000 (by omega) (by omega) (by omega) (by omega)
  unfold crossV; omega

end Go.Proofs.Ytbhcodmpcknllaa
