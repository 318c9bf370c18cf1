/- Contracts of functions that this seat's statements reach: each is shown to compute a plain Lean function, and to leave what was there as it was. No conditions but those in each theorem. -/
import Derived.Test.YtbfeaiaoelkggaaRowsH2
import Derived.Laws.MakeOwn
import Derived.OwnWalk
namespace Go.Proofs.Ytbfeaiaoelkggaa
open Go.RowKit
set_option linter.unusedVariables false


end Go.Proofs.Ytbfeaiaoelkggaa
