/- Contracts of functions that this seat's statements reach: each is shown to compute a plain Lean function, and to leave what was there as it was. No conditions but those in each theorem. -/
import Derived.Test.YtbfeaiaoelkggaaRowsP2
namespace Go.Proofs.Ytbfeaiaoelkggaa
open Go.RowKit
set_option linter.unusedVariables false


theorem one_row {w : World} {b : Nat} {x y : Int} (h0 : w.cell? ⟨b, 0, none⟩ = some (.int .i64 x)) (h1 : w.cell? ⟨b, 1, none⟩ = some (.int .i64 y)) : rowOfPoint w b 0 [(x, y)] := by
  intro j hj
  match j, hj with
  | 0, _ => exact ⟨by simpa using h0, by simpa using h1⟩
  | j + 1, hj => exact absurd hj (by simp)

end Go.Proofs.Ytbfeaiaoelkggaa
