/- Plain facts on integers; nothing of the program. -/
import Derived.Test.YtkhocfoggjdccaaPlainC
namespace Go.Proofs.Ytkhocfoggjdccaa
open Go.RowKit
set_option linter.unusedVariables false


theorem ratB_gcd {n d : Int} (e : ratB n d = true) : Int.gcd n d = 1 := by
  unfold ratB gcdI at e
  simp only [Bool.and_eq_true, decide_eq_true_eq] at e
  omega
theorem ratB_mk {n d : Int} (h1 : -100000000000 ≤ n) (h2 : n ≤ 100000000000) (h3 : 1 ≤ d) (h4 : d ≤ 20000000) (h5 : Int.gcd n d = 1) : ratB n d = true := by
  unfold ratB inB gcdI
  simp [h1, h2, h3, h4, h5]
theorem cop_eq (x y n d : Int) (hy : 0 < y) (hd : 0 < d) (h1 : Int.gcd x y = 1) (h2 : Int.gcd n d = 1) (h : x * d = n * y) : x = n ∧ y = d := by
  have e : x.natAbs * d.natAbs = n.natAbs * y.natAbs := by rw [← Int.natAbs_mul, ← Int.natAbs_mul, h]
  have c1 : Nat.Coprime y.natAbs x.natAbs := by
    show Nat.gcd y.natAbs x.natAbs = 1
    rw [Nat.gcd_comm]; exact h1
  have c2 : Nat.Coprime d.natAbs n.natAbs := by
    show Nat.gcd d.natAbs n.natAbs = 1
    rw [Nat.gcd_comm]; exact h2
  have d1 : y.natAbs ∣ d.natAbs := c1.dvd_of_dvd_mul_left (by rw [e]; exact Nat.dvd_mul_left _ _)
  have d2 : d.natAbs ∣ y.natAbs := c2.dvd_of_dvd_mul_left (by rw [← e]; exact Nat.dvd_mul_left _ _)
  have ey : y.natAbs = d.natAbs := Nat.dvd_antisymm d1 d2
  have eyd : y = d := by omega
  subst eyd
  exact ⟨Int.eq_of_mul_eq_mul_right (by omega) h, rfl⟩
theorem red_flip (N D : Int) : redN (-N) (-D) = redN N D ∨ D = 0 := by
  by_cases h0 : D = 0
  · exact .inr h0
  · left
    unfold redN
    rw [gcdI_neg1, gcdI_neg2]
    by_cases h : D < 0
    · rw [if_pos h, if_neg (by omega)]
    · rw [if_neg h, if_pos (by omega), Int.neg_neg]
theorem redD_flip (N D : Int) : redD (-N) (-D) = redD N D := by
  unfold redD
  rw [gcdI_neg1, gcdI_neg2]
  have : iabs (-D) = iabs D := by unfold iabs; omega
  rw [this]
theorem red_pos (N D : Int) (hD : 0 < D) : redN N D * D = N * redD N D ∧ 0 < redD N D ∧ Int.gcd (redN N D) (redD N D) = 1 := by
  have hg : 0 < Int.gcd N D := Int.gcd_pos_of_ne_zero_right N (by omega)
  have h1 : redN N D = N / (Int.gcd N D : Int) := by unfold redN gcdI; rw [if_neg (by omega)]
  have h2 : redD N D = D / (Int.gcd N D : Int) := by unfold redD gcdI; rw [iabs_of_nonneg (by omega)]
  have k1 := Int.ediv_mul_cancel (Int.gcd_dvd_left (a := N) (b := D))
  have k2 := Int.ediv_mul_cancel (Int.gcd_dvd_right (a := N) (b := D))
  refine ⟨?_, ?_, ?_⟩
  · rw [h1, h2]
    have e1 : N / (Int.gcd N D : Int) * D = N / (Int.gcd N D : Int) * (D / (Int.gcd N D : Int) * (Int.gcd N D : Int)) := by rw [k2]
    have e2 : N * (D / (Int.gcd N D : Int)) = N / (Int.gcd N D : Int) * (Int.gcd N D : Int) * (D / (Int.gcd N D : Int)) := by rw [k1]
    rw [e1, e2, Int.mul_assoc, Int.mul_comm (D / _) _]
  · rw [h2]
    exact Int.ediv_pos_of_pos_of_dvd hD (by omega) (Int.gcd_dvd_right (a := N) (b := D))
  · rw [h1, h2]
    exact Int.gcd_ediv_gcd_ediv_gcd hg
theorem red_unique (N D n d : Int) (hD : D ≠ 0) (hd : 0 < d) (h : Int.gcd n d = 1) (e : N * d = n * D) : redN N D = n ∧ redD N D = d := by
  have key : ∀ N D : Int, 0 < D → N * d = n * D → redN N D = n ∧ redD N D = d := by
    intro N D hD e
    obtain ⟨r1, r2, r3⟩ := red_pos N D hD
    refine cop_eq _ _ _ _ r2 hd r3 h ?_
    apply Int.eq_of_mul_eq_mul_right (show D ≠ 0 by omega)
    have s1 : redN N D * d * D = redN N D * D * d := by rw [Int.mul_assoc, Int.mul_comm d D, ← Int.mul_assoc]
    have s2 : N * redD N D * d = N * d * redD N D := by rw [Int.mul_assoc, Int.mul_comm (redD N D) d, ← Int.mul_assoc]
    rw [s1, r1, s2, e, Int.mul_assoc, Int.mul_comm D, ← Int.mul_assoc]
  by_cases hp : 0 < D
  · exact key N D hp e
  · have k := key (-N) (-D) (by omega) (by rw [Int.neg_mul, e, Int.mul_neg])
    rw [redD_flip] at k
    rcases red_flip N D with f | f
    · rw [f] at k; exact k
    · omega
theorem CmpF_val (n d m k : Int) (h1 : ratB n d = true) (h2 : ratB m k = true) : CmpF n d m k = sgnI (n * k - m * d) := by simp [CmpF, h1, h2]
theorem CmpF_eq (n d m k : Int) (h1 : ratB n d = true) (h2 : ratB m k = true) : n * k - m * d = 0 ↔ (n = m ∧ d = k) := by
  constructor
  · intro h
    have b1 := ratB_true h1
    have b2 := ratB_true h2
    exact cop_eq n d m k (by omega) (by omega) (ratB_gcd h1) (ratB_gcd h2) (by omega)
  · rintro ⟨rfl, rfl⟩; omega
theorem floor_facts (n d : Int) (h : ratB n d = true) : n / d * d ≤ n ∧ n < (n / d + 1) * d ∧ (n / d + 1) * d = n / d * d + d ∧ -100000000000 ≤ n / d ∧ n / d ≤ 100000000000 := by
  obtain ⟨⟨l, u⟩, ⟨l2, u2⟩⟩ := ratB_true h
  have h1 := Int.ediv_mul_le n (show d ≠ 0 by omega)
  have h2 := Int.lt_ediv_add_one_mul_self n (show 0 < d by omega)
  have h3 : (n / d + 1) * d = n / d * d + d := by rw [Int.add_mul, Int.one_mul]
  refine ⟨h1, h2, h3, ?_, ?_⟩
  · exact (Int.le_ediv_iff_mul_le (by omega)).2 (by omega)
  · have := Int.ediv_le_ediv (show 0 < d by omega) u
    have h5 : (100000000000 : Int) / d ≤ 100000000000 := Int.ediv_le_self _ (by omega)
    omega
theorem gcd_shift (n d : Int) : Int.gcd (n + d) d = Int.gcd n d := by
  simp
theorem ratB_one : ratB 1 1 = true := by decide
theorem add_one (n d : Int) (h : ratB n d = true) : AddB n d 1 1 = ratB (n + d) d ∧ (ratB (n + d) d = true → AddN n d 1 1 = n + d ∧ AddD n d 1 1 = d) := by
  have b := ratB_true h
  have hr : rr n d 1 1 = true := by simp [rr, h, ratB_one]
  have k := red_unique (n * 1 + 1 * d) (d * 1) (n + d) d (by omega) (by omega) (by rw [gcd_shift]; exact ratB_gcd h) (by rw [Int.mul_one, Int.one_mul, Int.mul_one])
  constructor
  · unfold AddB; rw [hr, k.1, k.2]; rfl
  · intro h2
    unfold AddN AddD okN okD
    rw [if_pos hr, if_pos hr, k.1, k.2, if_pos h2, if_pos h2]
    exact ⟨rfl, rfl⟩
theorem add_one_no (n d : Int) (h : ratB n d = false) : AddB n d 1 1 = false := by
  simp [AddB, rr, h]
theorem floor_shift (n d : Int) (h : ratB (n + d) d = true) : (n + d) / d = n / d + 1 := by
  have b := ratB_true h
  exact Int.add_ediv_of_dvd_right (Int.dvd_refl d) |>.trans (by rw [Int.ediv_self (by omega)])
theorem ratB_neg (n d : Int) : ratB (-n) d = ratB n d := by
  unfold ratB inB
  rw [gcdI_neg1]
  congr 1
  rw [Bool.eq_iff_iff]; simp; omega
theorem AddB_t {n d m k : Int} (h : AddB n d m k = true) : ratB n d = true ∧ ratB m k = true ∧ ratB (AddN n d m k) (AddD n d m k) = true ∧ AddN n d m k = redN (n * k + m * d) (d * k) ∧ AddD n d m k = redD (n * k + m * d) (d * k) := by
  unfold AddB at h
  rw [Bool.and_eq_true] at h
  obtain ⟨hr, h3⟩ := h
  have e1 : AddN n d m k = redN (n * k + m * d) (d * k) := by unfold AddN okN; rw [if_pos hr, if_pos h3]
  have e2 : AddD n d m k = redD (n * k + m * d) (d * k) := by unfold AddD okD; rw [if_pos hr, if_pos h3]
  unfold rr at hr
  rw [Bool.and_eq_true] at hr
  refine ⟨hr.1, hr.2, ?_, e1, e2⟩
  rw [e1, e2]; exact h3
theorem sub_back (n d m k : Int) (h : AddB n d m k = true) :
    AddB (AddN n d m k) (AddD n d m k) (-m) k = true ∧ AddN (AddN n d m k) (AddD n d m k) (-m) k = n ∧ AddD (AddN n d m k) (AddD n d m k) (-m) k = d := by
  obtain ⟨h1, h2, h3, e1, e2⟩ := AddB_t h
  have b1 := ratB_true h1
  have b2 := ratB_true h2
  have b3 := ratB_true h3
  have hdk : 0 < d * k := Int.mul_pos (by omega) (by omega)
  have hp := (red_pos (n * k + m * d) (d * k) hdk).1
  rw [← e1, ← e2] at hp
  generalize AddN n d m k = A at *
  generalize AddD n d m k = D at *
  have hr : rr A D (-m) k = true := by simp [rr, h3, ratB_neg, h2]
  have hDk : D * k ≠ 0 := Int.mul_ne_zero (by omega) (by omega)
  have u := red_unique (A * k + -m * D) (D * k) n d hDk (by omega) (ratB_gcd h1) (by
    have s1 : A * (d * k) = A * k * d := by rw [Int.mul_comm d k, ← Int.mul_assoc]
    have s2 : (n * k + m * d) * D = n * k * D + m * d * D := Int.add_mul _ _ _
    have s3 : (A * k + -m * D) * d = A * k * d + -m * D * d := Int.add_mul _ _ _
    have s4 : m * d * D = m * D * d := by rw [Int.mul_assoc, Int.mul_comm d D, ← Int.mul_assoc]
    have s5 : -m * D * d = -(m * D * d) := by rw [Int.neg_mul, Int.neg_mul]
    have s6 : n * (D * k) = n * k * D := by rw [Int.mul_comm D k, ← Int.mul_assoc]
    omega)
  have hB : AddB A D (-m) k = true := by unfold AddB; rw [hr, u.1, u.2, h1]; rfl
  obtain ⟨_, _, _, f1, f2⟩ := AddB_t hB
  exact ⟨hB, f1.trans u.1, f2.trans u.2⟩

end Go.Proofs.Ytkhocfoggjdccaa
