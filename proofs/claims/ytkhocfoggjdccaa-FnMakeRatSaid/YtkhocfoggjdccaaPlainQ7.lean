/- Plain facts on integers; nothing of the program. -/
import Derived.Test.YtkhocfoggjdccaaPlainQ4
namespace Go.Proofs.Ytkhocfoggjdccaa
open Go.RowKit
set_option linter.unusedVariables false


theorem red_prop (N D : Int) (hD : D ≠ 0) : redN N D * D = N * redD N D := by
  by_cases hp : 0 < D
  · exact (red_pos N D hp).1
  · have k := (red_pos (-N) (-D) (by omega)).1
    rw [redD_flip] at k
    rcases red_flip N D with f | f
    · rw [f, Int.mul_neg, Int.neg_mul] at k
      omega
    · omega
theorem mk_flip (N D : Int) : MkN (-N) (-D) = MkN N D ∧ MkD (-N) (-D) = MkD N D ∧ MkB (-N) (-D) = MkB N D := by
  have hb : mkB (-N) (-D) = mkB N D := by
    unfold mkB inB
    rw [Bool.eq_iff_iff]
    simp
    omega
  by_cases h0 : D = 0
  · have h1 : mkB N D = false := by subst h0; rfl
    unfold MkN MkD MkB
    rw [hb, h1]
    exact ⟨rfl, rfl, rfl⟩
  · have e := (red_flip N D).resolve_right h0
    unfold MkN MkD MkB
    rw [hb, e, redD_flip]
    exact ⟨rfl, rfl, rfl⟩
theorem MkB_t {N D : Int} (h : MkB N D = true) : D ≠ 0 ∧ MkN N D = redN N D ∧ MkD N D = redD N D ∧ ratB (MkN N D) (MkD N D) = true := by
  unfold MkB at h
  rw [Bool.and_eq_true] at h
  obtain ⟨h1, h2⟩ := h
  have e1 : MkN N D = redN N D := by unfold MkN okN; rw [if_pos h1, if_pos h2]
  have e2 : MkD N D = redD N D := by unfold MkD okD; rw [if_pos h1, if_pos h2]
  refine ⟨?_, e1, e2, by rw [e1, e2]; exact h2⟩
  intro h0
  subst h0
  simp [mkB] at h1

end Go.Proofs.Ytkhocfoggjdccaa
