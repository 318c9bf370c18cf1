/- Plain facts on integers; nothing of the program. -/
import Derived.Test.YtkhocfoggjdccaaPlainS
namespace Go.Proofs.Ytkhocfoggjdccaa
open Go.RowKit
set_option linter.unusedVariables false


def dotV (a1 a2 b1 b2 c1 c2 : Int) : Int := (b1 - a1) * (c1 - a1) + (b2 - a2) * (c2 - a2)
def NumV (a1 a2 b1 b2 x y : Int) : Int := if dotV a1 a2 b1 b2 x y ≤ 0 then farV a1 a2 x y else if dotV b1 b2 a1 a2 x y ≤ 0 then farV b1 b2 x y else crossV a1 a2 b1 b2 x y * crossV a1 a2 b1 b2 x y
def DenV (a1 a2 b1 b2 x y : Int) : Int := if dotV a1 a2 b1 b2 x y ≤ 0 then 1 else if dotV b1 b2 a1 a2 x y ≤ 0 then 1 else farV a1 a2 b1 b2
def ctsB (a1 a2 b1 b2 x y n : Int) : Bool := segB a1 a2 b1 b2 && (ptB x y && inB n 0 8000000)
def CtsF (a1 a2 b1 b2 x y n : Int) : Int := if ctsB a1 a2 b1 b2 x y n = true then sgnI (NumV a1 a2 b1 b2 x y - n * DenV a1 a2 b1 b2 x y) else 2
theorem cross_bd0 (a1 a2 b1 b2 c1 c2 : Int) (h1 : -1000 ≤ a1 ∧ a1 ≤ 1000) (h2 : -1000 ≤ a2 ∧ a2 ≤ 1000) (h3 : -1000 ≤ b1 ∧ b1 ≤ 1000) (h4 : -1000 ≤ b2 ∧ b2 ≤ 1000) (h5 : -1000 ≤ c1 ∧ c1 ≤ 1000) (h6 : -1000 ≤ c2 ∧ c2 ≤ 1000) :
    -8000000 ≤ crossV a1 a2 b1 b2 c1 c2 ∧ crossV a1 a2 b1 b2 c1 c2 ≤ 8000000 := by
  have m1 := mul_bd (b1 - a1) (c2 - a2) 2000 2000 (by omega) (by omega) (by omega) (by omega)
  have m2 := mul_bd (b2 - a2) (c1 - a1) 2000 2000 (by omega) (by omega) (by omega) (by omega)
  unfold crossV; omega
theorem far_bd0 (a1 a2 b1 b2 : Int) (h1 : -1000 ≤ a1 ∧ a1 ≤ 1000) (h2 : -1000 ≤ a2 ∧ a2 ≤ 1000) (h3 : -1000 ≤ b1 ∧ b1 ≤ 1000) (h4 : -1000 ≤ b2 ∧ b2 ≤ 1000) : -8000000 ≤ farV a1 a2 b1 b2 ∧ farV a1 a2 b1 b2 ≤ 8000000 := by
  have m1 := mul_bd (b1 - a1) (b1 - a1) 2000 2000 (by omega) (by omega) (by omega) (by omega)
  have m2 := mul_bd (b2 - a2) (b2 - a2) 2000 2000 (by omega) (by omega) (by omega) (by omega)
  unfold farV; omega
theorem dotV_flip (a1 a2 b1 b2 x y : Int) : (b1 - a1) * (x - b1) + (b2 - a2) * (y - b2) = -dotV b1 b2 a1 a2 x y := by
  have e1 : b1 - a1 = -(a1 - b1) := by omega
  have e2 : b2 - a2 = -(a2 - b2) := by omega
  unfold dotV
  rw [e1, e2, Int.neg_mul, Int.neg_mul]; omega
theorem num_bd0 (a1 a2 b1 b2 x y : Int) (h1 : -1000 ≤ a1 ∧ a1 ≤ 1000) (h2 : -1000 ≤ a2 ∧ a2 ≤ 1000) (h3 : -1000 ≤ b1 ∧ b1 ≤ 1000) (h4 : -1000 ≤ b2 ∧ b2 ≤ 1000) (h5 : -1000 ≤ x ∧ x ≤ 1000) (h6 : -1000 ≤ y ∧ y ≤ 1000) :
    (-64000000000000 ≤ NumV a1 a2 b1 b2 x y ∧ NumV a1 a2 b1 b2 x y ≤ 64000000000000) ∧ (-8000000 ≤ DenV a1 a2 b1 b2 x y ∧ DenV a1 a2 b1 b2 x y ≤ 8000000) := by
  have c := cross_bd0 a1 a2 b1 b2 x y h1 h2 h3 h4 h5 h6
  have f1 := far_bd0 a1 a2 x y h1 h2 h5 h6
  have f2 := far_bd0 b1 b2 x y h3 h4 h5 h6
  have f3 := far_bd0 a1 a2 b1 b2 h1 h2 h3 h4
  have m := mul_bd _ _ 8000000 8000000 c c (by omega) (by omega)
  unfold NumV DenV
  constructor
  · split
    · omega
    · split <;> omega
  · split
    · omega
    · split <;> omega

end Go.Proofs.Ytkhocfoggjdccaa
