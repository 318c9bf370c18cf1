/- Plain facts on integers; nothing of the program. -/
import Derived.Test.YtbfeaiaoelkggaaPlainE
namespace Go.Proofs.Ytbfeaiaoelkggaa
open Go.RowKit
set_option linter.unusedVariables false


theorem unitB : matB 1 0 0 1 = true := by decide
theorem cm_right (a b c d : Int) (h : matB a b c d = true) : cmB a b c d 1 0 0 1 = true ∧ CmA a b c d 1 0 0 1 = a ∧ CmB a b c d 1 0 0 1 = b ∧ CmC a b c d 1 0 0 1 = c ∧ CmD a b c d 1 0 0 1 = d := by
  have e1 : mm a b 1 0 = a := by unfold mm; simp
  have e2 : mm a b 0 1 = b := by unfold mm; simp
  have e3 : mm c d 1 0 = c := by unfold mm; simp
  have e4 : mm c d 0 1 = d := by unfold mm; simp
  have hc : cmB a b c d 1 0 0 1 = true := by unfold cmB; rw [e1, e2, e3, e4, h, unitB]; rfl
  unfold CmA CmB CmC CmD
  rw [if_pos hc, if_pos hc, if_pos hc, if_pos hc]
  exact ⟨hc, e1, e2, e3, e4⟩
theorem cm_left (a b c d : Int) (h : matB a b c d = true) : cmB 1 0 0 1 a b c d = true ∧ CmA 1 0 0 1 a b c d = a ∧ CmB 1 0 0 1 a b c d = b ∧ CmC 1 0 0 1 a b c d = c ∧ CmD 1 0 0 1 a b c d = d := by
  have e1 : mm 1 0 a c = a := by unfold mm; simp
  have e2 : mm 1 0 b d = b := by unfold mm; simp
  have e3 : mm 0 1 a c = c := by unfold mm; simp
  have e4 : mm 0 1 b d = d := by unfold mm; simp
  have hc : cmB 1 0 0 1 a b c d = true := by unfold cmB; rw [e1, e2, e3, e4, h, unitB]; rfl
  unfold CmA CmB CmC CmD
  rw [if_pos hc, if_pos hc, if_pos hc, if_pos hc]
  exact ⟨hc, e1, e2, e3, e4⟩
theorem cm_no (a b c d : Int) (h : matB a b c d = false) (p q r s : Int) : (cmB a b c d p q r s = false ∧ CmA a b c d p q r s = 0 ∧ CmB a b c d p q r s = 0 ∧ CmC a b c d p q r s = 0 ∧ CmD a b c d p q r s = 0) ∧
    (cmB p q r s a b c d = false ∧ CmA p q r s a b c d = 0 ∧ CmB p q r s a b c d = 0 ∧ CmC p q r s a b c d = 0 ∧ CmD p q r s a b c d = 0) := by
  have h1 : cmB a b c d p q r s = false := by simp [cmB, h]
  have h2 : cmB p q r s a b c d = false := by simp [cmB, h]
  constructor
  · simp [CmA, CmB, CmC, CmD, h1]
  · simp [CmA, CmB, CmC, CmD, h2]
theorem cmB_t {a b c d p q r s : Int} (h : cmB a b c d p q r s = true) : matB a b c d = true ∧ matB p q r s = true ∧ matB (mm a b p r) (mm a b q s) (mm c d p r) (mm c d q s) = true ∧
    CmA a b c d p q r s = mm a b p r ∧ CmB a b c d p q r s = mm a b q s ∧ CmC a b c d p q r s = mm c d p r ∧ CmD a b c d p q r s = mm c d q s := by
  have h0 := h
  unfold cmB at h
  simp only [Bool.and_eq_true] at h
  unfold CmA CmB CmC CmD
  rw [if_pos h0, if_pos h0, if_pos h0, if_pos h0]
  exact ⟨h.1, h.2.1, h.2.2, rfl, rfl, rfl, rfl⟩
theorem det_mul (a b c d p q r s : Int) : detV (mm a b p r) (mm a b q s) (mm c d p r) (mm c d q s) = detV a b c d * detV p q r s := by
  unfold detV mm
  simp only [Int.add_mul, Int.mul_add, Int.sub_mul, Int.mul_sub]
  have f1 : a * p * (c * q) = a * c * (p * q) := by ac_rfl
  have f2 : a * q * (c * p) = a * c * (p * q) := by ac_rfl
  have f3 : b * r * (d * s) = b * d * (r * s) := by ac_rfl
  have f4 : b * s * (d * r) = b * d * (r * s) := by ac_rfl
  have f5 : a * p * (d * s) = a * d * (p * s) := by ac_rfl
  have f6 : b * r * (c * q) = b * c * (q * r) := by ac_rfl
  have f7 : a * q * (d * r) = a * d * (q * r) := by ac_rfl
  have f8 : b * s * (c * p) = b * c * (p * s) := by ac_rfl
  omega
theorem det_unit : DetF 1 0 0 1 = 1 := by decide
theorem inv_all (a b c d D : Int) (h : matB a b c d = true) (hD : detV a b c d = D) (h1 : D = 1 ∨ D = -1) :
    matB (D * d) (-D * b) (-D * c) (D * a) = true ∧ detV (D * d) (-D * b) (-D * c) (D * a) = D ∧ D * D = 1 ∧
    mm a b (D * d) (-D * c) = 1 ∧ mm a b (-D * b) (D * a) = 0 ∧ mm c d (D * d) (-D * c) = 0 ∧ mm c d (-D * b) (D * a) = 1 ∧
    mm (D * d) (-D * b) a c = 1 ∧ mm (D * d) (-D * b) b d = 0 ∧ mm (-D * c) (D * a) a c = 0 ∧ mm (-D * c) (D * a) b d = 1 ∧
    D * (D * a) = a ∧ -D * (-D * b) = b ∧ -D * (-D * c) = c ∧ D * (D * d) = d := by
  obtain ⟨⟨la, ua⟩, ⟨lb, ub⟩, ⟨lc, uc⟩, ⟨ld, ud⟩⟩ := matB_true h
  unfold detV at hD
  have c1 := Int.mul_comm a d
  have c2 := Int.mul_comm b c
  have c3 := Int.mul_comm a b
  have c4 := Int.mul_comm c d
  have c5 := Int.mul_comm a c
  have c6 := Int.mul_comm b d
  unfold matB inB detV mm
  rcases h1 with rfl | rfl
  · simp only [Int.one_mul, Int.neg_mul, Int.mul_neg, Int.neg_neg, Bool.and_eq_true, decide_eq_true_eq]
    refine ⟨⟨⟨?_, ?_⟩, ⟨?_, ?_⟩, ⟨?_, ?_⟩, ?_, ?_⟩, ?_, ?_, ?_, ?_, ?_, ?_, ?_, ?_, ?_, ?_, ?_, ?_, ?_, ?_⟩ <;> first | omega | (simp; done)
  · simp only [Int.one_mul, Int.neg_mul, Int.mul_neg, Int.neg_neg, Bool.and_eq_true, decide_eq_true_eq]
    refine ⟨⟨⟨?_, ?_⟩, ⟨?_, ?_⟩, ⟨?_, ?_⟩, ?_, ?_⟩, ?_, ?_, ?_, ?_, ?_, ?_, ?_, ?_, ?_, ?_, ?_, ?_, ?_, ?_⟩ <;> first | omega | (simp; done)
theorem inv_yes (a b c d D : Int) (h : matB a b c d = true) (hD : detV a b c d = D) (h1 : D = 1 ∨ D = -1) :
    invB a b c d = true ∧ InA a b c d = D * d ∧ InB a b c d = -D * b ∧ InC a b c d = -D * c ∧ InD a b c d = D * a := by
  have hv : invB a b c d = true := by
    unfold invB; rw [h, hD]; rcases h1 with rfl | rfl <;> rfl
  unfold InA InB InC InD
  rw [if_pos hv, if_pos hv, if_pos hv, if_pos hv, hD]
  exact ⟨hv, rfl, rfl, rfl, rfl⟩
theorem cm_known (a b c d p q r s x y z u : Int) (h1 : matB a b c d = true) (h2 : matB p q r s = true) (hx : mm a b p r = x) (hy : mm a b q s = y) (hz : mm c d p r = z) (hu : mm c d q s = u) (h3 : matB x y z u = true) :
    cmB a b c d p q r s = true ∧ CmA a b c d p q r s = x ∧ CmB a b c d p q r s = y ∧ CmC a b c d p q r s = z ∧ CmD a b c d p q r s = u := by
  have hc : cmB a b c d p q r s = true := by unfold cmB; rw [hx, hy, hz, hu, h1, h2, h3]; rfl
  unfold CmA CmB CmC CmD
  rw [if_pos hc, if_pos hc, if_pos hc, if_pos hc]
  exact ⟨hc, hx, hy, hz, hu⟩

end Go.Proofs.Ytbfeaiaoelkggaa
