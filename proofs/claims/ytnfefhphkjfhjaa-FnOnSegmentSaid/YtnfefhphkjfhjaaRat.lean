/- Contracts of functions that this seat's statements reach: each is shown to compute a plain Lean function, and to leave what was there as it was. No conditions but those in each theorem. -/
import Derived.Test.YtnfefhphkjfhjaaBase
namespace Go.Proofs.Ytnfefhphkjfhjaa
open Go.RowKit
set_option linter.unusedVariables false

open Go.Sort

end Go.Proofs.Ytnfefhphkjfhjaa
