/- Plain facts on integers; nothing of the program. -/
import Derived.Test.YtgnjmcfkehgdfaaPlain
namespace Go.Proofs.Ytgnjmcfkehgdfaa
open Go.RowKit
set_option linter.unusedVariables false


def icV (p1 p2 q1 q2 r1 r2 : Int) : Int := (p1 * p1 + p2 * p2) * (q1 * r2 - q2 * r1) - (q1 * q1 + q2 * q2) * (p1 * r2 - p2 * r1) + (r1 * r1 + r2 * r2) * (p1 * q2 - p2 * q1)
theorem ic_impl (p1 p2 q1 q2 r1 r2 : Int) : (p1 * p1 + p2 * p2) * (q1 * r2 - q2 * r1) + (q1 * q1 + q2 * q2) * (r1 * p2 - r2 * p1) + (r1 * r1 + r2 * r2) * (p1 * q2 - p2 * q1) = icV p1 p2 q1 q2 r1 r2 := by
  unfold icV
  have e : r1 * p2 - r2 * p1 = -(p1 * r2 - p2 * r1) := by rw [Int.mul_comm r1, Int.mul_comm r2]; omega
  rw [e, Int.mul_neg]; omega
def icD (a1 a2 b1 b2 c1 c2 d1 d2 : Int) : Int := icV (a1 - d1) (a2 - d2) (b1 - d1) (b2 - d2) (c1 - d1) (c2 - d2)
def icOk (a1 a2 b1 b2 c1 c2 d1 d2 : Int) : Bool := v4B a1 a2 b1 b2 c1 c2 d1 d2 && decide (¬ crossV a1 a2 b1 b2 c1 c2 = 0)
def IcF (a1 a2 b1 b2 c1 c2 d1 d2 : Int) : Int := if icOk a1 a2 b1 b2 c1 c2 d1 d2 = true then sgnI (icD a1 a2 b1 b2 c1 c2 d1 d2) * sgnI (crossV a1 a2 b1 b2 c1 c2) else 2
theorem ic_bds (p1 p2 q1 q2 r1 r2 : Int) (h1 : -2000 ≤ p1 ∧ p1 ≤ 2000) (h2 : -2000 ≤ p2 ∧ p2 ≤ 2000) (h3 : -2000 ≤ q1 ∧ q1 ≤ 2000) (h4 : -2000 ≤ q2 ∧ q2 ≤ 2000) (h5 : -2000 ≤ r1 ∧ r1 ≤ 2000) (h6 : -2000 ≤ r2 ∧ r2 ≤ 2000) :
    (-4000000 ≤ p1 * p1 ∧ p1 * p1 ≤ 4000000) ∧ (-4000000 ≤ p2 * p2 ∧ p2 * p2 ≤ 4000000) ∧ (-4000000 ≤ q1 * r2 ∧ q1 * r2 ≤ 4000000) ∧ (-4000000 ≤ q2 * r1 ∧ q2 * r1 ≤ 4000000) ∧ (-64000000000000 ≤ (p1 * p1 + p2 * p2) * (q1 * r2 - q2 * r1) ∧ (p1 * p1 + p2 * p2) * (q1 * r2 - q2 * r1) ≤ 64000000000000) := by
  have m1 := mul_bd p1 p1 2000 2000 h1 h1 (by omega) (by omega)
  have m2 := mul_bd p2 p2 2000 2000 h2 h2 (by omega) (by omega)
  have m3 := mul_bd q1 r2 2000 2000 h3 h6 (by omega) (by omega)
  have m4 := mul_bd q2 r1 2000 2000 h4 h5 (by omega) (by omega)
  have m5 := mul_bd (p1 * p1 + p2 * p2) (q1 * r2 - q2 * r1) 8000000 8000000 (by omega) (by omega) (by omega) (by omega)
  omega
theorem sgn_b1 (n : Int) : -1 ≤ sgnI n ∧ sgnI n ≤ 1 := by unfold sgnI; split <;> (try split) <;> omega
theorem sgn_z (n : Int) : sgnI n = 0 ↔ n = 0 := by unfold sgnI; split <;> (try split) <;> omega
theorem cross_b8 (a1 a2 b1 b2 c1 c2 : Int) (h1 : -1000 ≤ a1 ∧ a1 ≤ 1000) (h2 : -1000 ≤ a2 ∧ a2 ≤ 1000) (h3 : -1000 ≤ b1 ∧ b1 ≤ 1000) (h4 : -1000 ≤ b2 ∧ b2 ≤ 1000) (h5 : -1000 ≤ c1 ∧ c1 ≤ 1000) (h6 : -1000 ≤ c2 ∧ c2 ≤ 1000) :
    -8000000 ≤ crossV a1 a2 b1 b2 c1 c2 ∧ crossV a1 a2 b1 b2 c1 c2 ≤ 8000000 := by
  have m1 := mul_bd (b1 - a1) (c2 - a2) 2000 2000 (by omega) (by omega) (by omega) (by omega)
  have m2 := mul_bd (b2 - a2) (c1 - a1) 2000 2000 (by omega) (by omega) (by omega) (by omega)
  unfold crossV; omega

end Go.Proofs.Ytgnjmcfkehgdfaa
