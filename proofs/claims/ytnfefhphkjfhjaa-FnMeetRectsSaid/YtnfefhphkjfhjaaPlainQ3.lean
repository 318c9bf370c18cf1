/- Plain facts on integers; nothing of the program. -/
import Derived.Test.YtnfefhphkjfhjaaPlainR
namespace Go.Proofs.Ytnfefhphkjfhjaa
open Go.RowKit
set_option linter.unusedVariables false


theorem mxI_comm (a b : Int) : mxI a b = mxI b a := by unfold mxI; split <;> split <;> omega
theorem mnI_comm (a b : Int) : mnI a b = mnI b a := by unfold mnI; split <;> split <;> omega
theorem mxI_same (a : Int) : mxI a a = a := by unfold mxI; split <;> rfl
theorem mnI_same (a : Int) : mnI a a = a := by unfold mnI; split <;> rfl
theorem mxI_abs (a p : Int) : mxI (mxI a p) a = mxI a p := by unfold mxI; split <;> split <;> omega
theorem mnI_abs (a p : Int) : mnI (mnI a p) a = mnI a p := by unfold mnI; split <;> split <;> omega
theorem mtB_swap (a b c d p q r s : Int) : mtB p q r s a b c d = mtB a b c d p q r s := by
  unfold mtB
  rw [mxI_comm p a, mxI_comm q b, mnI_comm r c, mnI_comm s d]
  cases rectB a b c d <;> cases rectB p q r s <;> rfl
theorem Mt_swap (a b c d p q r s : Int) : MtA p q r s a b c d = MtA a b c d p q r s ∧ MtB p q r s a b c d = MtB a b c d p q r s ∧ MtC p q r s a b c d = MtC a b c d p q r s ∧ MtD p q r s a b c d = MtD a b c d p q r s := by
  unfold MtA MtB MtC MtD
  rw [mtB_swap, mxI_comm p a, mxI_comm q b, mnI_comm r c, mnI_comm s d]
  exact ⟨rfl, rfl, rfl, rfl⟩
theorem mt_own (a b c d : Int) (h : rectB a b c d = true) : mtB a b c d a b c d = true ∧ MtA a b c d a b c d = a ∧ MtB a b c d a b c d = b ∧ MtC a b c d a b c d = c ∧ MtD a b c d a b c d = d := by
  have hm : mtB a b c d a b c d = true := by
    unfold mtB; rw [mxI_same, mxI_same, mnI_same, mnI_same, h]; rfl
  unfold MtA MtB MtC MtD
  rw [if_pos hm, if_pos hm, if_pos hm, if_pos hm, mxI_same, mxI_same, mnI_same, mnI_same]
  exact ⟨hm, rfl, rfl, rfl, rfl⟩
theorem mt_again (a b c d p q r s : Int) (h : mtB a b c d p q r s = true) : rectB a b c d = true ∧
    mtB (mxI a p) (mxI b q) (mnI c r) (mnI d s) a b c d = true ∧ MtA (mxI a p) (mxI b q) (mnI c r) (mnI d s) a b c d = mxI a p ∧ MtB (mxI a p) (mxI b q) (mnI c r) (mnI d s) a b c d = mxI b q ∧
    MtC (mxI a p) (mxI b q) (mnI c r) (mnI d s) a b c d = mnI c r ∧ MtD (mxI a p) (mxI b q) (mnI c r) (mnI d s) a b c d = mnI d s := by
  have h0 := h
  unfold mtB at h
  simp only [Bool.and_eq_true] at h
  obtain ⟨h1, h2, h3⟩ := h
  have hm : mtB (mxI a p) (mxI b q) (mnI c r) (mnI d s) a b c d = true := by
    unfold mtB; rw [mxI_abs, mxI_abs, mnI_abs, mnI_abs, h1, h3]; rfl
  unfold MtA MtB MtC MtD
  rw [if_pos hm, if_pos hm, if_pos hm, if_pos hm, mxI_abs, mxI_abs, mnI_abs, mnI_abs]
  exact ⟨h1, hm, rfl, rfl, rfl, rfl⟩

end Go.Proofs.Ytnfefhphkjfhjaa
