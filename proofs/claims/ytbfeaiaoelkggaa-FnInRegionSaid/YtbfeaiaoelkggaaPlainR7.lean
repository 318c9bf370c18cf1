/- Plain facts on integers; nothing of the program. -/
import Derived.Test.YtbfeaiaoelkggaaPlainH
namespace Go.Proofs.Ytbfeaiaoelkggaa
open Go.RowKit
set_option linter.unusedVariables false


theorem halvesB_at {zs : List (Int × Int × Int)} (h : halvesB zs = true) {z : Int × Int × Int} (hz : z ∈ zs) : (-2000 ≤ z.1 ∧ z.1 ≤ 2000) ∧ (-2000 ≤ z.2.1 ∧ z.2.1 ≤ 2000) ∧ (-4000000 ≤ z.2.2 ∧ z.2.2 ≤ 4000000) := by
  unfold halvesB at h
  simp only [Bool.and_eq_true, List.all_eq_true, decide_eq_true_eq] at h
  have := h.1 z hz
  unfold hpB at this
  simp only [Bool.and_eq_true] at this
  exact ⟨inB_true this.1, inB_true this.2.1, inB_true this.2.2.2⟩
theorem halvesB_len {zs : List (Int × Int × Int)} (h : halvesB zs = true) : zs.length ≤ 8 := by
  unfold halvesB at h
  simp only [Bool.and_eq_true, decide_eq_true_eq] at h
  exact h.2
def inrP (x y : Int) (z : Int × Int × Int) : Bool := decide (z.1 * x + z.2.1 * y ≤ z.2.2)
def inrB (zs : List (Int × Int × Int)) (x y : Int) : Bool := zs.all (inrP x y)
def InrV (zs : List (Int × Int × Int)) (x y : Int) : Bool := halvesB zs && (ptB x y && inrB zs x y)
theorem inrB_any (zs : List (Int × Int × Int)) (x y : Int) : inrB zs x y = !(zs.any fun z => !inrP x y z) := by unfold inrB; rw [List.all_eq_not_any_not]

end Go.Proofs.Ytbfeaiaoelkggaa
