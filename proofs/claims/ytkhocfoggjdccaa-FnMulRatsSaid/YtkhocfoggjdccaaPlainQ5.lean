/- Plain facts on integers; nothing of the program. -/
import Derived.Test.YtkhocfoggjdccaaPlainQ4
import Derived.Test.YtkhocfoggjdccaaPlainT
namespace Go.Proofs.Ytkhocfoggjdccaa
open Go.RowKit
set_option linter.unusedVariables false


theorem mulBig_iff (x y : Int) : mulBig x y = decide (100000000000 < iabs x * iabs y) := by
  unfold mulBig
  rw [Bool.eq_iff_iff]
  by_cases h : x = 0
  · subst h; simp [iabs]
  · have hx : 0 < iabs x := by unfold iabs; omega
    have : (x == 0) = false := by simp [h]
    rw [this]
    simp only [Bool.not_false, Bool.true_and, decide_eq_true_eq]
    rw [Int.ediv_lt_iff_lt_mul hx, Int.mul_comm]
theorem mulBig_swap (x y : Int) : mulBig x y = mulBig y x := by rw [mulBig_iff, mulBig_iff, Int.mul_comm]
theorem mulOk_swap (n d m k : Int) : mulOk m k n d = mulOk n d m k := by
  unfold mulOk rr
  rw [mulBig_swap, Bool.and_comm (ratB m k)]
theorem Mu_swap (n d m k : Int) : MuN m k n d = MuN n d m k ∧ MuD m k n d = MuD n d m k ∧ MuB m k n d = MuB n d m k := by
  unfold MuN MuD MuB
  rw [mulOk_swap, Int.mul_comm (redN m d), Int.mul_comm (redD m d)]
  exact ⟨rfl, rfl, rfl⟩
theorem red_one (n : Int) : redN n 1 = n ∧ redD n 1 = 1 := red_unique n 1 n 1 (by omega) (by omega) (by simp) (by omega)
theorem red_inv (d : Int) (h : 0 < d) : redN 1 d = 1 ∧ redD 1 d = d := red_unique 1 d 1 d (by omega) h (by simp) (by omega)
theorem mu_one (n d : Int) (h : ratB n d = true) : MuN n d 1 1 = n ∧ MuD n d 1 1 = d ∧ MuB n d 1 1 = true := by
  have b := ratB_true h
  have hb : mulBig n 1 = false := by
    rw [mulBig_iff]
    have : iabs 1 = 1 := rfl
    rw [this, Int.mul_one]
    unfold iabs
    simp only [decide_eq_false_iff_not]
    omega
  obtain ⟨o1, o2⟩ := red_one n
  obtain ⟨i1, i2⟩ := red_inv d (by omega)
  have hk : mulOk n d 1 1 = true := by simp [mulOk, rr, h, ratB_one, o1, i1, hb]
  unfold MuN MuD MuB okN okD
  rw [if_pos hk, if_pos hk, hk, o1, o2, i1, i2, Int.mul_one, Int.one_mul, h]
  exact ⟨rfl, rfl, rfl⟩
theorem redN_sign (n d : Int) (h : 0 < d) : (redN n d = 0 ↔ n = 0) ∧ (0 < redN n d ↔ 0 < n) := by
  obtain ⟨r1, r2, _⟩ := red_pos n d h
  generalize redN n d = x at *
  generalize redD n d = y at *
  constructor
  · constructor
    · intro e; rw [e, Int.zero_mul] at r1
      rcases Int.mul_eq_zero.1 r1.symm with h' | h' <;> omega
    · intro e; rw [e, Int.zero_mul] at r1
      rcases Int.mul_eq_zero.1 r1 with h' | h' <;> omega
  · constructor
    · intro e
      have := Int.mul_pos e h
      rw [r1] at this
      exact Int.pos_of_mul_pos_left this r2
    · intro e
      have := Int.mul_pos e r2
      rw [← r1] at this
      exact Int.pos_of_mul_pos_left this h
theorem MuB_t {n d m k : Int} (h : MuB n d m k = true) : ratB n d = true ∧ ratB m k = true ∧ ratB (MuN n d m k) (MuD n d m k) = true ∧ MuN n d m k = redN n k * redN m d := by
  unfold MuB at h
  rw [Bool.and_eq_true] at h
  obtain ⟨hr, h3⟩ := h
  have e1 : MuN n d m k = redN n k * redN m d := by unfold MuN okN; rw [if_pos hr, if_pos h3]
  have e2 : MuD n d m k = redD n k * redD m d := by unfold MuD okD; rw [if_pos hr, if_pos h3]
  unfold mulOk rr at hr
  simp only [Bool.and_eq_true] at hr
  refine ⟨hr.1.1, hr.1.2, ?_, e1⟩
  rw [e1, e2]; exact h3
theorem mu_zero (n d m k : Int) (h : MuB n d m k = true) : MuN n d m k = 0 ↔ (n = 0 ∨ m = 0) := by
  obtain ⟨h1, h2, _, e⟩ := MuB_t h
  have b1 := ratB_true h1
  have b2 := ratB_true h2
  rw [e, Int.mul_eq_zero, (redN_sign n k (by omega)).1, (redN_sign m d (by omega)).1]
theorem mu_pos (n d m k : Int) (h : MuB n d m k = true) : 0 < MuN n d m k ↔ ((0 < n ∧ 0 < m) ∨ (n < 0 ∧ m < 0)) := by
  obtain ⟨h1, h2, _, e⟩ := MuB_t h
  have b1 := ratB_true h1
  have b2 := ratB_true h2
  rw [e]
  have s1 := redN_sign n k (by omega)
  have s2 := redN_sign m d (by omega)
  generalize redN n k = x at *
  generalize redN m d = y at *
  constructor
  · intro hp
    by_cases hx : 0 < x
    · have := Int.pos_of_mul_pos_right hp hx
      omega
    · have hx0 : x ≠ 0 := by intro e0; rw [e0, Int.zero_mul] at hp; omega
      have : y < 0 := by
        apply Classical.byContradiction
        intro hy
        have := Int.mul_nonneg (show 0 ≤ -x by omega) (show 0 ≤ y by omega)
        rw [Int.neg_mul] at this
        omega
      omega
  · rintro (⟨a, b⟩ | ⟨a, b⟩)
    · exact Int.mul_pos (by omega) (by omega)
    · have := Int.mul_pos (show 0 < -x by omega) (show 0 < -y by omega)
      rwa [Int.neg_mul_neg] at this

end Go.Proofs.Ytkhocfoggjdccaa
