/- Plain facts on integers; nothing of the program. -/
import Derived.Test.YtbfeaiaoelkggaaPlainD
import Derived.Test.YtbfeaiaoelkggaaPlainL
namespace Go.Proofs.Ytbfeaiaoelkggaa
open Go.RowKit
set_option linter.unusedVariables false


def mpP (a b c d : Int) (z : Int × Int) : Int × Int := (mm a b z.1 z.2, mm c d z.1 z.2)
theorem take_map_snoc {α β : Type} [Inhabited α] (f : α → β) (zs : List α) (k : Nat) (h : k < zs.length) : (zs.take (k + 1)).map f = (zs.take k).map f ++ [f zs[k]!] := by
  rw [List.take_succ_eq_append_getElem h, List.map_append, getElem!_pos zs k h]; rfl

end Go.Proofs.Ytbfeaiaoelkggaa
