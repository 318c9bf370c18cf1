/- Plain facts on integers; nothing of the program. -/
import Derived.Test.YtbfeaiaoelkggaaPlainR7
namespace Go.Proofs.Ytbfeaiaoelkggaa
open Go.RowKit
set_option linter.unusedVariables false


def preB (zs : List (Int × Int × Int)) (x y : Int) (k : Nat) : Bool := (zs.take k).all (inrP x y)
theorem preB_succ {zs : List (Int × Int × Int)} {x y : Int} {k : Nat} (h : k < zs.length) : preB zs x y (k + 1) = (preB zs x y k && inrP x y zs[k]!) := by
  unfold preB
  rw [List.take_succ_eq_append_getElem h, List.all_append, getElem!_pos zs k h]
  simp
theorem preB_all (zs : List (Int × Int × Int)) (x y : Int) : preB zs x y zs.length = inrB zs x y := by unfold preB inrB; rw [List.take_length]
theorem inrV_yes {zs : List (Int × Int × Int)} {x y : Int} (h : halvesB zs = true) (hq : ptB x y = true) : InrV zs x y = inrB zs x y := by unfold InrV; rw [h, hq]; rfl
theorem inrV_no {zs : List (Int × Int × Int)} {x y : Int} (h : (halvesB zs && ptB x y) = false) : InrV zs x y = false := by unfold InrV; rw [← Bool.and_assoc, h]; rfl
theorem inrV_one {zs : List (Int × Int × Int)} {x y : Int} (h : halvesB zs = true) (hq : ptB x y = true) {k : Nat} (hk : k < zs.length) : InrV [zs[k]!] x y = inrP x y zs[k]! := by
  have e : halvesB [zs[k]!] = true := by
    unfold halvesB at h ⊢
    simp only [Bool.and_eq_true, List.all_eq_true, decide_eq_true_eq] at h ⊢
    refine ⟨fun z hz => ?_, by simp⟩
    rw [List.mem_singleton] at hz
    subst hz
    rw [getElem!_pos zs k hk]
    exact h.1 _ (List.getElem_mem _)
  rw [inrV_yes e hq]
  simp [inrB]
theorem inrV_nil {x y : Int} (hq : ptB x y = true) : InrV [] x y = true := by unfold InrV; rw [hq]; rfl

end Go.Proofs.Ytbfeaiaoelkggaa
