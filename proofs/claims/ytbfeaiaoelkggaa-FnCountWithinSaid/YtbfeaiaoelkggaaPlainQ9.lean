/- Plain facts on integers; nothing of the program. -/
import Derived.Test.YtbfeaiaoelkggaaPlainL
namespace Go.Proofs.Ytbfeaiaoelkggaa
open Go.RowKit
set_option linter.unusedVariables false


theorem countP_mono {α : Type} (p q : α → Bool) (h : ∀ x, p x = true → q x = true) : ∀ l : List α, l.countP p ≤ l.countP q
  | [] => by simp
  | a :: l => by
    have ih := countP_mono p q h l
    rw [List.countP_cons, List.countP_cons]
    by_cases e : p a = true
    · rw [if_pos e, if_pos (h a e)]; omega
    · rw [if_neg e]; split <;> omega
theorem cw_mono (zs : List (Int × Int)) (x y m m' : Int) (h : m ≤ m') (k : Nat) : cwK zs x y m k ≤ cwK zs x y m' k := by
  unfold cwK
  have := countP_mono (fun z : Int × Int => decide (farV z.1 z.2 x y ≤ m)) (fun z : Int × Int => decide (farV z.1 z.2 x y ≤ m')) (fun z e => by simp at e ⊢; omega) (zs.take k)
  omega
theorem cw_all {zs : List (Int × Int)} {x y : Int} (h : listB zs = true) (hq : ptB x y = true) : cwK zs x y 8000000 zs.length = zs.length := by
  unfold cwK
  rw [List.take_length]
  have e : zs.countP (fun z => decide (farV z.1 z.2 x y ≤ 8000000)) = zs.length := by
    rw [List.countP_eq_length]
    intro z hz
    obtain ⟨j, hj, rfl⟩ := List.getElem_of_mem hz
    have h1 := listB_at h hj
    rw [getElem!_pos zs j hj] at h1
    have h2 := ptB_true hq
    exact decide_eq_true (far_top _ _ _ _ h1.1 h1.2 h2.1 h2.2)
  rw [e]
theorem cw_none (zs : List (Int × Int)) (x y : Int) : cwK zs x y (-1) zs.length = 0 := by
  unfold cwK
  have e : (zs.take zs.length).countP (fun z => decide (farV z.1 z.2 x y ≤ -1)) = 0 := by
    rw [List.countP_eq_zero]
    intro z _
    have := farV_nn z.1 z.2 x y
    simp; omega
  rw [e]; rfl
theorem cwV_no {zs : List (Int × Int)} {x y : Int} (h : (listB zs && ptB x y) = false) (m : Int) : CwV zs x y m = -1 := by unfold CwV; rw [if_neg (by simp [h])]
theorem cwV_yes {zs : List (Int × Int)} {x y : Int} (h : (listB zs && ptB x y) = true) (m : Int) : CwV zs x y m = cwK zs x y m zs.length := by unfold CwV; rw [if_pos h]

end Go.Proofs.Ytbfeaiaoelkggaa
