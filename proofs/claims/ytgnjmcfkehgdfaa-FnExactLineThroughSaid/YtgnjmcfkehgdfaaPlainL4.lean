/- Plain facts on integers; nothing of the program. -/
import Derived.Test.YtgnjmcfkehgdfaaPlain
namespace Go.Proofs.Ytgnjmcfkehgdfaa
open Go.RowKit
set_option linter.unusedVariables false


def ltS (A B : Int) : Int := if A < 0 ∨ (A = 0 ∧ B < 0) then -1 else 1
def ltA (a1 a2 b1 b2 : Int) : Int := ltS (b2 - a2) (a1 - b1) * ((b2 - a2) / gcdI (b2 - a2) (a1 - b1))
def ltB (a1 a2 b1 b2 : Int) : Int := ltS (b2 - a2) (a1 - b1) * ((a1 - b1) / gcdI (b2 - a2) (a1 - b1))
def ltC (a1 a2 b1 b2 : Int) : Int := ltA a1 a2 b1 b2 * a1 + ltB a1 a2 b1 b2 * a2
def ltOk (a1 a2 b1 b2 : Int) : Bool := v2B a1 a2 b1 b2 && decide (¬ (a1 = b1 ∧ a2 = b2))
def LtA (a1 a2 b1 b2 : Int) : Int := if ltOk a1 a2 b1 b2 = true then ltA a1 a2 b1 b2 else 0
def LtB (a1 a2 b1 b2 : Int) : Int := if ltOk a1 a2 b1 b2 = true then ltB a1 a2 b1 b2 else 0
def LtC (a1 a2 b1 b2 : Int) : Int := if ltOk a1 a2 b1 b2 = true then ltC a1 a2 b1 b2 else 0
theorem iabs_nn1 (n : Int) : 0 ≤ iabs n := by unfold iabs; omega
theorem gcd_pos2 (A B : Int) (h : ¬ (A = 0 ∧ B = 0)) : 1 ≤ gcdI A B := by
  unfold gcdI
  have : Int.gcd A B ≠ 0 := fun e => h ⟨Int.eq_zero_of_gcd_eq_zero_left e, Int.eq_zero_of_gcd_eq_zero_right e⟩
  omega
theorem gcd_dvd_mk (A B C g : Int) (h : gcdI A B = g) (hC : g ∣ C) : gcdI g C = g := by
  unfold gcdI at *
  have hg : 0 ≤ g := by omega
  have e : Int.gcd g C = g.natAbs := by
    show Nat.gcd g.natAbs C.natAbs = g.natAbs
    exact Nat.gcd_eq_left (Int.natAbs_dvd_natAbs.2 hC)
  rw [e]; omega
theorem lt_gcd (A B a1 a2 : Int) : gcdI (gcdI A (iabs B)) (iabs (A * a1 + B * a2)) = gcdI A B := by
  rw [gcdI_abs2, gcdI_abs2]
  exact gcd_dvd_mk A B _ _ rfl (Int.dvd_add (Int.dvd_mul_of_dvd_left (gcdI_dvd1 A B)) (Int.dvd_mul_of_dvd_left (gcdI_dvd2 A B)))
theorem lt_gcd_neg (A B a1 a2 : Int) : gcdI (gcdI (-A) (iabs (-B))) (iabs (-(A * a1 + B * a2))) = gcdI A B := by
  have h := lt_gcd (-A) (-B) a1 a2
  have e : -A * a1 + -B * a2 = -(A * a1 + B * a2) := by rw [Int.neg_mul, Int.neg_mul]; omega
  rw [e] at h
  rw [h, gcdI_neg1, gcdI_neg2]
theorem ediv_sum (A B a1 a2 g : Int) (hg : g ≠ 0) (h1 : g ∣ A) (h2 : g ∣ B) : (A * a1 + B * a2).tdiv g = A / g * a1 + B / g * a2 := by
  rw [Int.tdiv_eq_ediv_of_dvd (Int.dvd_add (Int.dvd_mul_of_dvd_left h1) (Int.dvd_mul_of_dvd_left h2))]
  obtain ⟨x, rfl⟩ := h1
  obtain ⟨y, rfl⟩ := h2
  rw [Int.mul_ediv_cancel_left _ hg, Int.mul_ediv_cancel_left _ hg]
  have e : g * x * a1 + g * y * a2 = g * (x * a1 + y * a2) := by rw [Int.mul_add, Int.mul_assoc, Int.mul_assoc]
  rw [e, Int.mul_ediv_cancel_left _ hg]
/-- What the two programs compute: from the reference's three quotients, and from the program's two. -/
theorem lt_pos (a1 a2 b1 b2 : Int) (hne : ¬ (a1 = b1 ∧ a2 = b2)) (h : ¬ (b2 - a2 < 0 ∨ (b2 - a2 = 0 ∧ a1 - b1 < 0))) :
    (b2 - a2).tdiv (gcdI (b2 - a2) (a1 - b1)) = ltA a1 a2 b1 b2 ∧ (a1 - b1).tdiv (gcdI (b2 - a2) (a1 - b1)) = ltB a1 a2 b1 b2 ∧
    ((b2 - a2) * a1 + (a1 - b1) * a2).tdiv (gcdI (b2 - a2) (a1 - b1)) = ltC a1 a2 b1 b2 := by
  have hg := gcd_pos2 (b2 - a2) (a1 - b1) (by omega)
  have s1 : ltS (b2 - a2) (a1 - b1) = 1 := by unfold ltS; rw [if_neg h]
  have d1 := gcdI_dvd1 (b2 - a2) (a1 - b1)
  have d2 := gcdI_dvd2 (b2 - a2) (a1 - b1)
  unfold ltC ltA ltB
  rw [s1, Int.one_mul, Int.one_mul]
  exact ⟨Int.tdiv_eq_ediv_of_dvd d1, Int.tdiv_eq_ediv_of_dvd d2, ediv_sum _ _ _ _ _ (by omega) d1 d2⟩
theorem lt_neg (a1 a2 b1 b2 : Int) (hne : ¬ (a1 = b1 ∧ a2 = b2)) (h : b2 - a2 < 0 ∨ (b2 - a2 = 0 ∧ a1 - b1 < 0)) :
    (-(b2 - a2)).tdiv (gcdI (b2 - a2) (a1 - b1)) = ltA a1 a2 b1 b2 ∧ (-(a1 - b1)).tdiv (gcdI (b2 - a2) (a1 - b1)) = ltB a1 a2 b1 b2 ∧
    (-((b2 - a2) * a1 + (a1 - b1) * a2)).tdiv (gcdI (b2 - a2) (a1 - b1)) = ltC a1 a2 b1 b2 ∧
    (b2 - a2).tdiv (-gcdI (b2 - a2) (a1 - b1)) = ltA a1 a2 b1 b2 ∧ (a1 - b1).tdiv (-gcdI (b2 - a2) (a1 - b1)) = ltB a1 a2 b1 b2 := by
  have hg := gcd_pos2 (b2 - a2) (a1 - b1) (by omega)
  have s1 : ltS (b2 - a2) (a1 - b1) = -1 := by unfold ltS; rw [if_pos h]
  have d1 := gcdI_dvd1 (b2 - a2) (a1 - b1)
  have d2 := gcdI_dvd2 (b2 - a2) (a1 - b1)
  have e1 : (-(b2 - a2)).tdiv (gcdI (b2 - a2) (a1 - b1)) = ltA a1 a2 b1 b2 := by
    unfold ltA; rw [s1, Int.neg_tdiv, Int.tdiv_eq_ediv_of_dvd d1, Int.neg_mul, Int.one_mul]
  have e2 : (-(a1 - b1)).tdiv (gcdI (b2 - a2) (a1 - b1)) = ltB a1 a2 b1 b2 := by
    unfold ltB; rw [s1, Int.neg_tdiv, Int.tdiv_eq_ediv_of_dvd d2, Int.neg_mul, Int.one_mul]
  have e3 : (-((b2 - a2) * a1 + (a1 - b1) * a2)).tdiv (gcdI (b2 - a2) (a1 - b1)) = ltC a1 a2 b1 b2 := by
    unfold ltC ltA ltB
    rw [s1, Int.neg_tdiv, ediv_sum _ _ _ _ _ (by omega) d1 d2]
    simp only [Int.neg_mul, Int.one_mul]
    omega
  exact ⟨e1, e2, e3, by rw [Int.tdiv_neg, ← Int.neg_tdiv]; exact e1, by rw [Int.tdiv_neg, ← Int.neg_tdiv]; exact e2⟩
theorem lt_bd (a1 a2 b1 b2 : Int) (hv : v2B a1 a2 b1 b2 = true) : (-2000 ≤ ltA a1 a2 b1 b2 ∧ ltA a1 a2 b1 b2 ≤ 2000) ∧ (-2000 ≤ ltB a1 a2 b1 b2 ∧ ltB a1 a2 b1 b2 ≤ 2000) := by
  unfold v2B at hv
  simp only [Bool.and_eq_true] at hv
  have ha := ptB_true hv.1
  have hb := ptB_true hv.2
  have d1 := Int.tdiv_eq_ediv_of_dvd (gcdI_dvd1 (b2 - a2) (a1 - b1))
  have d2 := Int.tdiv_eq_ediv_of_dvd (gcdI_dvd2 (b2 - a2) (a1 - b1))
  have t1 := tdiv_bd (b2 - a2) (gcdI (b2 - a2) (a1 - b1)) 2000 (by omega)
  have t2 := tdiv_bd (a1 - b1) (gcdI (b2 - a2) (a1 - b1)) 2000 (by omega)
  rw [d1] at t1
  rw [d2] at t2
  unfold ltA ltB ltS
  split <;> omega

end Go.Proofs.Ytgnjmcfkehgdfaa
