/- Plain facts on integers; nothing of the program. -/
import Derived.Test.YtbfeaiaoelkggaaPlain
namespace Go.Proofs.Ytbfeaiaoelkggaa
open Go.RowKit
set_option linter.unusedVariables false


def hpB (a b c : Int) : Bool := inB a (-2000) 2000 && (inB b (-2000) 2000 && ((a != 0 || b != 0) && inB c (-4000000) 4000000))
def halvesB (zs : List (Int × Int × Int)) : Bool := (zs.all fun z => hpB z.1 z.2.1 z.2.2) && decide (zs.length ≤ 8)
theorem all_of_pre {α : Type} [Inhabited α] (p : α → Bool) (zs : List α) (h : ∀ j, j < zs.length → p zs[j]! = true) : zs.all p = true := by
  rw [List.all_eq_true]
  intro x hx
  obtain ⟨j, hj, rfl⟩ := List.getElem_of_mem hx
  have := h j hj
  rwa [getElem!_pos zs j hj] at this
theorem not_all_at {α : Type} [Inhabited α] (p : α → Bool) (zs : List α) (j : Nat) (hj : j < zs.length) (h : p zs[j]! = false) : zs.all p = false := by
  rw [List.all_eq_false]
  refine ⟨zs[j], List.getElem_mem hj, ?_⟩
  rw [← getElem!_pos zs j hj, h]
  simp

end Go.Proofs.Ytbfeaiaoelkggaa
