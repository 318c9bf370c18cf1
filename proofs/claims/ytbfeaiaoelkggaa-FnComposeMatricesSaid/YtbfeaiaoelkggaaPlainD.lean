/- Plain facts on integers; nothing of the program. -/
import Derived.Test.YtbfeaiaoelkggaaPlain
namespace Go.Proofs.Ytbfeaiaoelkggaa
open Go.RowKit
set_option linter.unusedVariables false


def mm (a b x y : Int) : Int := a * x + b * y
def cmB (a b c d e f g h : Int) : Bool := matB a b c d && (matB e f g h && matB (mm a b e g) (mm a b f h) (mm c d e g) (mm c d f h))
def CmA (a b c d e f g h : Int) : Int := if cmB a b c d e f g h = true then mm a b e g else 0
def CmB (a b c d e f g h : Int) : Int := if cmB a b c d e f g h = true then mm a b f h else 0
def CmC (a b c d e f g h : Int) : Int := if cmB a b c d e f g h = true then mm c d e g else 0
def CmD (a b c d e f g h : Int) : Int := if cmB a b c d e f g h = true then mm c d f h else 0
theorem mm_bd (a b x y : Int) (h1 : -1000 ≤ a ∧ a ≤ 1000) (h2 : -1000 ≤ b ∧ b ≤ 1000) (h3 : -1000 ≤ x ∧ x ≤ 1000) (h4 : -1000 ≤ y ∧ y ≤ 1000) : -2000000 ≤ mm a b x y ∧ mm a b x y ≤ 2000000 := by
  have m1 := mul_bd a x 1000 1000 h1 h3 (by omega) (by omega)
  have m2 := mul_bd b y 1000 1000 h2 h4 (by omega) (by omega)
  unfold mm; omega
def okm (a b c d v : Int) : Int := if matB a b c d = true then v else 0
def invB (a b c d : Int) : Bool := matB a b c d && (detV a b c d == 1 || detV a b c d == -1)
def InA (a b c d : Int) : Int := if invB a b c d = true then detV a b c d * d else 0
def InB (a b c d : Int) : Int := if invB a b c d = true then -detV a b c d * b else 0
def InC (a b c d : Int) : Int := if invB a b c d = true then -detV a b c d * c else 0
def InD (a b c d : Int) : Int := if invB a b c d = true then detV a b c d * a else 0


theorem cm_eqs (a b c d p q r s : Int) (ha : matB a b c d = true) (hb : matB p q r s = true) :
    CmA a b c d p q r s = okm (mm a b p r) (mm a b q s) (mm c d p r) (mm c d q s) (mm a b p r) ∧ CmB a b c d p q r s = okm (mm a b p r) (mm a b q s) (mm c d p r) (mm c d q s) (mm a b q s) ∧
    CmC a b c d p q r s = okm (mm a b p r) (mm a b q s) (mm c d p r) (mm c d q s) (mm c d p r) ∧ CmD a b c d p q r s = okm (mm a b p r) (mm a b q s) (mm c d p r) (mm c d q s) (mm c d q s) ∧
    cmB a b c d p q r s = matB (mm a b p r) (mm a b q s) (mm c d p r) (mm c d q s) := by
  simp [CmA, CmB, CmC, CmD, cmB, ha, hb, okm]

end Go.Proofs.Ytbfeaiaoelkggaa
