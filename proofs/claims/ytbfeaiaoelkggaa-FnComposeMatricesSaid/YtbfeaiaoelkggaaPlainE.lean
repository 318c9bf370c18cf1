/- Plain facts on integers; nothing of the program. -/
import Derived.Test.YtbfeaiaoelkggaaPlainD
namespace Go.Proofs.Ytbfeaiaoelkggaa
open Go.RowKit
set_option linter.unusedVariables false


theorem det_bd (a b c d : Int) (h : matB a b c d = true) : -2000000 ≤ detV a b c d ∧ detV a b c d ≤ 2000000 := by
  obtain ⟨h1, h2, h3, h4⟩ := matB_true h
  have m1 := mul_bd a d 1000 1000 h1 h4 (by omega) (by omega)
  have m2 := mul_bd b c 1000 1000 h2 h3 (by omega) (by omega)
  unfold detV; omega

end Go.Proofs.Ytbfeaiaoelkggaa
