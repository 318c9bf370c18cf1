/- Plain facts on integers; nothing of the program. -/
import Derived.Test.YtbhcodmpcknllaaPlain
namespace Go.Proofs.Ytbhcodmpcknllaa
open Go.RowKit
set_option linter.unusedVariables false


def mx2 (a b : Int) : Int := if a < b then b else a
def mn2 (a b : Int) : Int := if b < a then b else a
def btwB (a1 a2 b1 b2 x y : Int) : Bool := inB x (mn2 a1 b1) (mx2 a1 b1) && inB y (mn2 a2 b2) (mx2 a2 b2)
def dotW (a1 a2 b1 b2 x y : Int) : Int := (a1 - x) * (b1 - x) + (a2 - y) * (b2 - y)
def hasB (a1 a2 b1 b2 x y : Int) : Bool := decide (crossV a1 a2 b1 b2 x y = 0) && decide (dotW a1 a2 b1 b2 x y ≤ 0)
def onB (a1 a2 b1 b2 x y : Int) : Bool := segB a1 a2 b1 b2 && (ptB x y && hasB a1 a2 b1 b2 x y)
theorem sq_nonneg (k : Int) : 0 ≤ k * k := by
  by_cases h : 0 ≤ k
  · exact Int.mul_nonneg h h
  · have := Int.mul_nonneg (show 0 ≤ -k by omega) (show 0 ≤ -k by omega); rwa [Int.neg_mul_neg] at this
theorem mul_np (u v : Int) : u * v ≤ 0 ↔ (u ≤ 0 ∧ 0 ≤ v) ∨ (0 ≤ u ∧ v ≤ 0) := by
  constructor
  · intro h
    by_cases hu : u = 0
    · omega
    · by_cases hv : v = 0
      · omega
      · by_cases h1 : 0 < u
        · by_cases h2 : 0 < v
          · have := Int.mul_pos h1 h2; omega
          · omega
        · by_cases h2 : 0 < v
          · omega
          · have := Int.mul_pos (show 0 < -u by omega) (show 0 < -v by omega); rw [Int.neg_mul_neg] at this; omega
  · rintro (⟨h1, h2⟩ | ⟨h1, h2⟩)
    · have := Int.mul_nonneg (show 0 ≤ -u by omega) h2; rw [Int.neg_mul] at this; omega
    · have := Int.mul_nonneg h1 (show 0 ≤ -v by omega); rw [Int.mul_neg] at this; omega
theorem sum_np (P Q K : Int) (h : P * Q = K * K) : P + Q ≤ 0 ↔ P ≤ 0 ∧ Q ≤ 0 := by
  have hk := sq_nonneg K
  constructor
  · intro hs
    by_cases hP : 0 < P
    · have := Int.mul_pos hP (show 0 < -Q by omega); rw [Int.mul_neg] at this; omega
    · by_cases hQ : 0 < Q
      · have := Int.mul_pos (show 0 < -P by omega) hQ; rw [Int.neg_mul] at this; omega
      · omega
  · omega
theorem cross_uv (a1 a2 b1 b2 x y : Int) : crossV a1 a2 b1 b2 x y = (a1 - x) * (b2 - y) - (b1 - x) * (a2 - y) := by
  unfold crossV
  simp only [Int.sub_mul, Int.mul_sub]
  have e1 := Int.mul_comm a1 b2
  have e2 := Int.mul_comm a2 b1
  have e3 := Int.mul_comm a1 a2
  have e4 := Int.mul_comm a2 x
  have e5 := Int.mul_comm x y
  have e6 := Int.mul_comm b2 x
  have e7 := Int.mul_comm b2 a1
  omega
theorem btw_iff (a b x : Int) : (mn2 a b ≤ x ∧ x ≤ mx2 a b) ↔ (a - x) * (b - x) ≤ 0 := by
  rw [mul_np]
  unfold mn2 mx2
  constructor
  · intro h
    split at h <;> split at h <;> omega
  · intro h
    split <;> split <;> omega
theorem btw_has (a1 a2 b1 b2 x y : Int) (h : crossV a1 a2 b1 b2 x y = 0) : btwB a1 a2 b1 b2 x y = decide (dotW a1 a2 b1 b2 x y ≤ 0) := by
  rw [cross_uv] at h
  have hk : (a1 - x) * (b2 - y) = (b1 - x) * (a2 - y) := by omega
  have hp : (a1 - x) * (b1 - x) * ((a2 - y) * (b2 - y)) = (a1 - x) * (b2 - y) * ((a1 - x) * (b2 - y)) := by
    generalize a1 - x = u1 at *
    generalize b1 - x = v1 at *
    generalize a2 - y = u2 at *
    generalize b2 - y = v2 at *
    have e : u1 * v1 * (u2 * v2) = u1 * v2 * (v1 * u2) := by
      rw [Int.mul_assoc, Int.mul_assoc]
      congr 1
      rw [← Int.mul_assoc, ← Int.mul_assoc, Int.mul_comm (v1 * u2) v2, Int.mul_assoc]
    rw [e, hk]
  have hs := sum_np _ _ _ hp
  unfold btwB inB dotW
  rw [Bool.eq_iff_iff]
  simp only [Bool.and_eq_true, decide_eq_true_eq, btw_iff]
  exact hs.symm
theorem has_eq (a1 a2 b1 b2 x y : Int) : (decide (crossV a1 a2 b1 b2 x y = 0) && btwB a1 a2 b1 b2 x y) = hasB a1 a2 b1 b2 x y := by
  unfold hasB
  by_cases h : crossV a1 a2 b1 b2 x y = 0
  · rw [btw_has _ _ _ _ _ _ h]
  · simp [h]
theorem segB_true {a1 a2 b1 b2 : Int} (e : segB a1 a2 b1 b2 = true) : ((-1000 ≤ a1 ∧ a1 ≤ 1000) ∧ (-1000 ≤ a2 ∧ a2 ≤ 1000)) ∧ ((-1000 ≤ b1 ∧ b1 ≤ 1000) ∧ (-1000 ≤ b2 ∧ b2 ≤ 1000)) := by
  unfold segB v2B at e; simp only [Bool.and_eq_true] at e; exact ⟨ptB_true e.1.1, ptB_true e.1.2⟩

end Go.Proofs.Ytbhcodmpcknllaa
