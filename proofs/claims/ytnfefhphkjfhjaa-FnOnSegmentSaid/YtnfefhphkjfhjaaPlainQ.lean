/- Plain facts on integers; nothing of the program. -/
import Derived.Test.YtnfefhphkjfhjaaPlain
namespace Go.Proofs.Ytnfefhphkjfhjaa
open Go.RowKit
set_option linter.unusedVariables false


theorem v3B_swap12 (a1 a2 b1 b2 c1 c2 : Int) : v3B b1 b2 a1 a2 c1 c2 = v3B a1 a2 b1 b2 c1 c2 := by
  unfold v3B; cases ptB a1 a2 <;> cases ptB b1 b2 <;> rfl
theorem v3B_rot (a1 a2 b1 b2 c1 c2 : Int) : v3B b1 b2 c1 c2 a1 a2 = v3B a1 a2 b1 b2 c1 c2 := by
  unfold v3B; cases ptB a1 a2 <;> cases ptB b1 b2 <;> cases ptB c1 c2 <;> rfl
theorem v3B_swap23 (a1 a2 b1 b2 c1 c2 : Int) : v3B a1 a2 c1 c2 b1 b2 = v3B a1 a2 b1 b2 c1 c2 := by
  unfold v3B; cases ptB a1 a2 <;> cases ptB b1 b2 <;> cases ptB c1 c2 <;> rfl
theorem v2B_swap (a1 a2 b1 b2 : Int) : v2B b1 b2 a1 a2 = v2B a1 a2 b1 b2 := by
  unfold v2B; exact Bool.and_comm _ _
theorem crossV_flat (a1 a2 b1 b2 c1 c2 : Int) : crossV a1 a2 b1 b2 c1 c2 = b1 * c2 - b1 * a2 - a1 * c2 + a1 * a2 - (b2 * c1 - b2 * a1 - a2 * c1 + a2 * a1) := by
  unfold crossV; simp only [Int.sub_mul, Int.mul_sub]; omega
theorem crossV_swap12 (a1 a2 b1 b2 c1 c2 : Int) : crossV b1 b2 a1 a2 c1 c2 = -crossV a1 a2 b1 b2 c1 c2 := by
  rw [crossV_flat, crossV_flat]
  have e1 := Int.mul_comm a1 b2
  have e2 := Int.mul_comm a2 b1
  have e3 := Int.mul_comm a1 a2
  have e4 := Int.mul_comm b1 b2
  omega
theorem crossV_rot (a1 a2 b1 b2 c1 c2 : Int) : crossV b1 b2 c1 c2 a1 a2 = crossV a1 a2 b1 b2 c1 c2 := by
  rw [crossV_flat, crossV_flat]
  have e1 := Int.mul_comm a1 b2
  have e2 := Int.mul_comm a2 b1
  have e3 := Int.mul_comm a1 a2
  have e4 := Int.mul_comm b1 b2
  have e5 := Int.mul_comm a1 c2
  have e6 := Int.mul_comm a2 c1
  have e7 := Int.mul_comm b1 c2
  have e8 := Int.mul_comm b2 c1
  omega
theorem crossV_swap23 (a1 a2 b1 b2 c1 c2 : Int) : crossV a1 a2 c1 c2 b1 b2 = -crossV a1 a2 b1 b2 c1 c2 := by
  rw [crossV_flat, crossV_flat]
  have e1 := Int.mul_comm c1 b2
  have e2 := Int.mul_comm c1 a2
  have e3 := Int.mul_comm a1 b2
  have e4 := Int.mul_comm c2 b1
  have e5 := Int.mul_comm c2 a1
  have e6 := Int.mul_comm a2 b1
  have e7 := Int.mul_comm a1 a2
  omega
theorem crossV_same (a1 a2 c1 c2 : Int) : crossV a1 a2 a1 a2 c1 c2 = 0 := by
  unfold crossV; simp
theorem crossV_bd (a1 a2 b1 b2 c1 c2 : Int) (h : v3B a1 a2 b1 b2 c1 c2 = true) : -8000000 ≤ crossV a1 a2 b1 b2 c1 c2 ∧ crossV a1 a2 b1 b2 c1 c2 ≤ 8000000 := by
  unfold v3B at h
  simp only [Bool.and_eq_true] at h
  obtain ⟨ha, hb, hc⟩ := h
  have ha := ptB_true ha
  have hb := ptB_true hb
  have hc := ptB_true hc
  have m1 := mul_bd (b1 - a1) (c2 - a2) 2000 2000 (by omega) (by omega) (by omega) (by omega)
  have m2 := mul_bd (b2 - a2) (c1 - a1) 2000 2000 (by omega) (by omega) (by omega) (by omega)
  unfold crossV
  omega
theorem CrossF_bd (a1 a2 b1 b2 c1 c2 : Int) : -8000000 ≤ CrossF a1 a2 b1 b2 c1 c2 ∧ CrossF a1 a2 b1 b2 c1 c2 ≤ 8000000 := by
  unfold CrossF
  by_cases h : v3B a1 a2 b1 b2 c1 c2 = true
  · rw [if_pos h]; exact crossV_bd _ _ _ _ _ _ h
  · rw [if_neg h]; omega
theorem CrossF_swap12 (a1 a2 b1 b2 c1 c2 : Int) : CrossF b1 b2 a1 a2 c1 c2 = -CrossF a1 a2 b1 b2 c1 c2 := by
  unfold CrossF
  rw [v3B_swap12, crossV_swap12]
  split <;> simp
theorem CrossF_rot (a1 a2 b1 b2 c1 c2 : Int) : CrossF b1 b2 c1 c2 a1 a2 = CrossF a1 a2 b1 b2 c1 c2 := by
  unfold CrossF
  rw [v3B_rot, crossV_rot]
theorem CrossF_same (a1 a2 c1 c2 : Int) : CrossF a1 a2 a1 a2 c1 c2 = 0 := by
  unfold CrossF
  rw [crossV_same]
  split <;> rfl
theorem OrientF_swap23 (a1 a2 b1 b2 c1 c2 : Int) (h : v3B a1 a2 b1 b2 c1 c2 = true) : OrientF a1 a2 c1 c2 b1 b2 = sgnI (-crossV a1 a2 b1 b2 c1 c2) := by
  unfold OrientF
  rw [v3B_swap23, if_pos h, crossV_swap23]
theorem farV_nonneg (a1 a2 b1 b2 : Int) : 0 ≤ farV a1 a2 b1 b2 := by
  unfold farV
  have h1 : 0 ≤ (b1 - a1) * (b1 - a1) := by
    by_cases h : 0 ≤ b1 - a1
    · exact Int.mul_nonneg h h
    · have := Int.mul_nonneg (show 0 ≤ -(b1 - a1) by omega) (show 0 ≤ -(b1 - a1) by omega); rwa [Int.neg_mul_neg] at this
  have h2 : 0 ≤ (b2 - a2) * (b2 - a2) := by
    by_cases h : 0 ≤ b2 - a2
    · exact Int.mul_nonneg h h
    · have := Int.mul_nonneg (show 0 ≤ -(b2 - a2) by omega) (show 0 ≤ -(b2 - a2) by omega); rwa [Int.neg_mul_neg] at this
  omega
theorem farV_swap (a1 a2 b1 b2 : Int) : farV b1 b2 a1 a2 = farV a1 a2 b1 b2 := by
  unfold farV; rw [sq_sub a1 b1, sq_sub a2 b2]
theorem farV_bd (a1 a2 b1 b2 : Int) (h : v2B a1 a2 b1 b2 = true) : farV a1 a2 b1 b2 ≤ 8000000 := by
  unfold v2B at h
  simp only [Bool.and_eq_true] at h
  have ha := ptB_true h.1
  have hb := ptB_true h.2
  have m1 := mul_bd (b1 - a1) (b1 - a1) 2000 2000 (by omega) (by omega) (by omega) (by omega)
  have m2 := mul_bd (b2 - a2) (b2 - a2) 2000 2000 (by omega) (by omega) (by omega) (by omega)
  unfold farV; omega
theorem sq_pos_ne (x : Int) (h : x ≠ 0) : 0 < x * x := by
  by_cases h1 : 0 < x
  · exact Int.mul_pos h1 h1
  · have := Int.mul_pos (show 0 < -x by omega) (show 0 < -x by omega); rwa [Int.neg_mul_neg] at this
theorem farV_zero (a1 a2 b1 b2 : Int) : farV a1 a2 b1 b2 = 0 ↔ (a1 = b1 ∧ a2 = b2) := by
  constructor
  · intro h
    have n1 : 0 ≤ (b1 - a1) * (b1 - a1) := by
      by_cases e : b1 - a1 = 0
      · rw [e]; simp
      · exact Int.le_of_lt (sq_pos_ne _ e)
    have n2 : 0 ≤ (b2 - a2) * (b2 - a2) := by
      by_cases e : b2 - a2 = 0
      · rw [e]; simp
      · exact Int.le_of_lt (sq_pos_ne _ e)
    unfold farV at h
    constructor
    · apply Classical.byContradiction
      intro e
      have := sq_pos_ne (b1 - a1) (by omega)
      omega
    · apply Classical.byContradiction
      intro e
      have := sq_pos_ne (b2 - a2) (by omega)
      omega
  · rintro ⟨rfl, rfl⟩; unfold farV; simp
theorem DistF_swap (a1 a2 b1 b2 : Int) : DistF b1 b2 a1 a2 = DistF a1 a2 b1 b2 := by
  unfold DistF; rw [v2B_swap, farV_swap]
theorem iabs_nn (n : Int) : 0 ≤ iabs n := by unfold iabs; omega
theorem iabs_neg' (n : Int) : iabs (-n) = iabs n := by unfold iabs; omega
theorem iabs_sub (a b : Int) : iabs (a - b) = iabs (b - a) := by unfold iabs; omega
theorem iabs_sq (n : Int) : iabs n * iabs n = n * n := by
  by_cases h : 0 ≤ n
  · rw [iabs_of_nonneg (by omega)]
  · rw [iabs_of_neg (by omega), Int.neg_mul_neg]
theorem manV_swap (a1 a2 b1 b2 : Int) : manV b1 b2 a1 a2 = manV a1 a2 b1 b2 := by
  unfold manV; rw [iabs_sub, iabs_sub b2 a2]
theorem ManF_swap (a1 a2 b1 b2 : Int) : ManF b1 b2 a1 a2 = ManF a1 a2 b1 b2 := by
  unfold ManF; rw [v2B_swap, manV_swap]
theorem manV_bd (a1 a2 b1 b2 : Int) (h : v2B a1 a2 b1 b2 = true) : 0 ≤ manV a1 a2 b1 b2 ∧ manV a1 a2 b1 b2 ≤ 4000 := by
  unfold v2B at h
  simp only [Bool.and_eq_true] at h
  have ha := ptB_true h.1
  have hb := ptB_true h.2
  unfold manV iabs; omega
theorem manV_zero (a1 a2 b1 b2 : Int) : manV a1 a2 b1 b2 = 0 ↔ (a1 = b1 ∧ a2 = b2) := by
  unfold manV iabs; omega
theorem manV_far (a1 a2 b1 b2 : Int) : farV a1 a2 b1 b2 ≤ manV a1 a2 b1 b2 * manV a1 a2 b1 b2 ∧ manV a1 a2 b1 b2 * manV a1 a2 b1 b2 ≤ 2 * farV a1 a2 b1 b2 := by
  have e1 := iabs_sq (a1 - b1)
  have e2 := iabs_sq (a2 - b2)
  have e3 := sq_sub a1 b1
  have e4 := sq_sub a2 b2
  have p1 := iabs_nn (a1 - b1)
  have p2 := iabs_nn (a2 - b2)
  unfold manV farV
  generalize iabs (a1 - b1) = u at *
  generalize iabs (a2 - b2) = v at *
  have h1 := Int.mul_nonneg p1 p2
  have h2 : 0 ≤ (u - v) * (u - v) := by
    by_cases e : u - v = 0
    · rw [e]; simp
    · exact Int.le_of_lt (sq_pos_ne _ e)
  simp only [Int.add_mul, Int.mul_add, Int.sub_mul, Int.mul_sub] at h2 ⊢
  have c := Int.mul_comm u v
  simp only [Int.sub_mul, Int.mul_sub] at e1 e2 e3 e4
  omega
theorem manV_tri (a1 a2 b1 b2 c1 c2 : Int) : manV a1 a2 b1 b2 ≤ manV a1 a2 c1 c2 + manV c1 c2 b1 b2 := by
  unfold manV iabs; omega
theorem manV_flip (a1 a2 b1 b2 : Int) : manV a2 a1 b2 b1 = manV a1 a2 b1 b2 := by
  unfold manV; omega
theorem v2B_flip (a1 a2 b1 b2 : Int) : v2B a2 a1 b2 b1 = v2B a1 a2 b1 b2 := by
  unfold v2B ptB; rw [Bool.and_comm (inB a2 _ _), Bool.and_comm (inB b2 _ _)]
theorem HeightF_dual (x y m b : Int) : HeightF m b x y = HeightF x y m b := by
  unfold HeightF
  rw [Bool.and_comm (ptB m b), Int.mul_comm x m]
  have e : b - (m * x - y) = y - (m * x - b) := by omega
  rw [e]
theorem sgnI_mono {a b : Int} (h : a ≤ b) : sgnI a ≤ sgnI b := by
  unfold sgnI; split <;> split <;> (try split) <;> (try split) <;> omega
theorem sgnI_rng (a : Int) : -1 ≤ sgnI a ∧ sgnI a ≤ 1 := by
  unfold sgnI; split <;> (try split) <;> omega
theorem sgnI_neg (a : Int) : sgnI (-a) = -sgnI a := by
  unfold sgnI; split <;> split <;> (try split) <;> (try split) <;> omega
theorem ptB_mk {x y : Int} (h1 : -1000 ≤ x) (h2 : x ≤ 1000) (h3 : -1000 ≤ y) (h4 : y ≤ 1000) : ptB x y = true := by
  simp [ptB, inB, h1, h2, h3, h4]

end Go.Proofs.Ytnfefhphkjfhjaa
