/- Plain facts on integers; nothing of the program. -/
import Derived.Test.YtbfeaiaoelkggaaPlainMP
namespace Go.Proofs.Ytbfeaiaoelkggaa
open Go.RowKit
set_option linter.unusedVariables false


theorem mm_assoc (x y z u p q r s X Y : Int) : mpP (mm x y p r) (mm x y q s) (mm z u p r) (mm z u q s) (X, Y) = mpP x y z u (mpP p q r s (X, Y)) := by
  have key : ∀ (x y p r q s X Y : Int), (x * p + y * r) * X + (x * q + y * s) * Y = x * (p * X + q * Y) + y * (r * X + s * Y) := by
    intro x y p r q s X Y
    simp only [Int.add_mul, Int.mul_add, Int.mul_assoc]
    omega
  unfold mpP mm
  simp only [key]
theorem one_list (X Y : Int) (hx : -4 ≤ X ∧ X ≤ 4) (hy : -4 ≤ Y ∧ Y ≤ 4) : listB [(X, Y)] = true := by
  simp [listB, ptB, inB]; omega

end Go.Proofs.Ytbfeaiaoelkggaa
