/- Plain facts on integers; nothing of the program. -/
import Derived.WalkKit
namespace Go.Proofs.Ytbfeaiaoelkggaa
open Go.RowKit
set_option linter.unusedVariables false


def inB (n l h : Int) : Bool := decide (l ≤ n ∧ n ≤ h)
def ptB (x y : Int) : Bool := inB x (-1000) 1000 && inB y (-1000) 1000
def iabs (n : Int) : Int := (n.natAbs : Int)
def gcdI (a b : Int) : Int := (Int.gcd a b : Int)

theorem inB_true {n l h : Int} (e : inB n l h = true) : l ≤ n ∧ n ≤ h := by simpa [inB] using e
theorem inB_false {n l h : Int} (e : inB n l h = false) : ¬ (l ≤ n ∧ n ≤ h) := by simpa [inB] using e
theorem ptB_true {x y : Int} (e : ptB x y = true) : (-1000 ≤ x ∧ x ≤ 1000) ∧ (-1000 ≤ y ∧ y ≤ 1000) := by
  unfold ptB at e; rw [Bool.and_eq_true] at e; exact ⟨inB_true e.1, inB_true e.2⟩
theorem iabs_of_neg {n : Int} (h : n < 0) : iabs n = -n := by unfold iabs; omega
theorem iabs_of_nonneg {n : Int} (h : ¬ n < 0) : iabs n = n := by unfold iabs; omega
theorem gcdI_zero (a : Int) : gcdI a 0 = iabs a := by unfold gcdI iabs; simp [Int.gcd]
theorem gcdI_step (a b : Int) : gcdI b (a.tmod b) = gcdI a b := by
  unfold gcdI Int.gcd
  rw [Int.natAbs_tmod, Nat.gcd_comm b.natAbs, ← Nat.gcd_rec, Nat.gcd_comm]
theorem gcdI_abs (a b : Int) : gcdI (iabs a) b = gcdI a b := by unfold gcdI iabs Int.gcd; simp
theorem gcdI_abs2 (a b : Int) : gcdI a (iabs b) = gcdI a b := by unfold gcdI iabs Int.gcd; simp
theorem tmod_small (a b : Int) (hb : b ≠ 0) : (a.tmod b).natAbs < b.natAbs := by
  rw [Int.natAbs_tmod]; exact Nat.mod_lt _ (by omega)
theorem emod_small (a b : Int) (hb : 0 < b) : 0 ≤ a % b ∧ a % b < b := ⟨Int.emod_nonneg _ (by omega), Int.emod_lt_of_pos _ hb⟩
theorem gcdI_estep (a b : Int) (ha : 0 ≤ a) : gcdI b (a % b) = gcdI a b := by
  rw [← Int.tmod_eq_emod_of_nonneg ha]; exact gcdI_step a b


theorem mul_bd (x a n m : Int) (hx : -n ≤ x ∧ x ≤ n) (ha : -m ≤ a ∧ a ≤ m) (hn : 0 ≤ n) (hm : 0 ≤ m) : -(n * m) ≤ x * a ∧ x * a ≤ n * m := by
  have h : (x * a).natAbs ≤ (n * m).natAbs := by
    rw [Int.natAbs_mul, Int.natAbs_mul]
    exact Nat.mul_le_mul (by omega) (by omega)
  have h0 : 0 ≤ n * m := Int.mul_nonneg hn hm
  omega
def crossV (a1 a2 b1 b2 c1 c2 : Int) : Int := (b1 - a1) * (c2 - a2) - (b2 - a2) * (c1 - a1)
def farV (a1 a2 b1 b2 : Int) : Int := (b1 - a1) * (b1 - a1) + (b2 - a2) * (b2 - a2)
def manV (a1 a2 b1 b2 : Int) : Int := iabs (a1 - b1) + iabs (a2 - b2)
theorem sq_sub (a b : Int) : (a - b) * (a - b) = (b - a) * (b - a) := by
  have h : a - b = -(b - a) := by omega
  rw [h, Int.neg_mul_neg]
def v2B (a1 a2 b1 b2 : Int) : Bool := ptB a1 a2 && ptB b1 b2
def v3B (a1 a2 b1 b2 c1 c2 : Int) : Bool := ptB a1 a2 && (ptB b1 b2 && ptB c1 c2)
def v4B (a1 a2 b1 b2 c1 c2 d1 d2 : Int) : Bool := ptB a1 a2 && (ptB b1 b2 && (ptB c1 c2 && ptB d1 d2))


def CrossF (a1 a2 b1 b2 c1 c2 : Int) : Int := if v3B a1 a2 b1 b2 c1 c2 = true then crossV a1 a2 b1 b2 c1 c2 else 0
def DistF (a1 a2 b1 b2 : Int) : Int := if v2B a1 a2 b1 b2 = true then farV a1 a2 b1 b2 else -1
def ManF (a1 a2 b1 b2 : Int) : Int := if v2B a1 a2 b1 b2 = true then manV a1 a2 b1 b2 else -1
def matB (a b c d : Int) : Bool := inB a (-1000) 1000 && (inB b (-1000) 1000 && (inB c (-1000) 1000 && inB d (-1000) 1000))
def detV (a b c d : Int) : Int := a * d - b * c
def DetF (a b c d : Int) : Int := if matB a b c d = true then detV a b c d else 0
theorem matB_true {a b c d : Int} (e : matB a b c d = true) : (-1000 ≤ a ∧ a ≤ 1000) ∧ (-1000 ≤ b ∧ b ≤ 1000) ∧ (-1000 ≤ c ∧ c ≤ 1000) ∧ (-1000 ≤ d ∧ d ≤ 1000) := by
  unfold matB at e; simp only [Bool.and_eq_true] at e; exact ⟨inB_true e.1, inB_true e.2.1, inB_true e.2.2.1, inB_true e.2.2.2⟩


def DgX (x y : Int) : Int := if ptB x y = true then x else 0
def DgY (x y : Int) : Int := if ptB x y = true then y else 0
def ratB (n d : Int) : Bool := inB n (-100000000000) 100000000000 && (inB d 1 20000000 && decide (gcdI n d = 1))
def lineB (a b c : Int) : Bool := inB a 0 2000 && (inB b (-2000) 2000 && (inB c (-4000000) 4000000 && (decide (0 < a ∨ 0 < b) && decide (gcdI (gcdI a b) c = 1))))
def segB (a1 a2 b1 b2 : Int) : Bool := v2B a1 a2 b1 b2 && decide (¬ (a1 = b1 ∧ a2 = b2))
theorem tmod_bd (x y n : Int) (hy : y ≠ 0) (h : -n ≤ y ∧ y ≤ n) : -n ≤ x.tmod y ∧ x.tmod y ≤ n := by
  have h1 := tmod_small x y hy
  generalize x.tmod y = t at h1
  omega
theorem gcdI_nonneg (a b : Int) : 0 ≤ gcdI a b := by unfold gcdI; omega
theorem gcdI_le (a b n : Int) (ha : -n ≤ a ∧ a ≤ n) (hb : -n ≤ b ∧ b ≤ n) : gcdI a b ≤ n := by
  unfold gcdI Int.gcd
  by_cases h : a = 0
  · subst h; simp; omega
  · have := Nat.gcd_le_left b.natAbs (m := a.natAbs) (by omega); omega


def sgnI (n : Int) : Int := if n < 0 then -1 else if 0 < n then 1 else 0
def cmpI (x y : Int) : Int := if x < y then -1 else if y < x then 1 else 0
theorem cmpI_zero (n : Int) : cmpI n 0 = sgnI n := rfl
theorem cmpI_sub (x y : Int) : cmpI x y = sgnI (x - y) := by
  unfold cmpI sgnI
  by_cases h : x < y
  · have h1 : x - y < 0 := by omega
    simp [h, h1]
  · have h1 : ¬ x - y < 0 := by omega
    by_cases h2 : y < x
    · simp [h, h1, h2]
    · simp [h, h1, h2]
def OrientF (a1 a2 b1 b2 c1 c2 : Int) : Int := if v3B a1 a2 b1 b2 c1 c2 = true then sgnI (crossV a1 a2 b1 b2 c1 c2) else 2
def HeightF (x y m b : Int) : Int := if (ptB x y && ptB m b) = true then sgnI (y - (m * x - b)) else 2
def CmpF (n d m k : Int) : Int := if (ratB n d && ratB m k) = true then sgnI (n * k - m * d) else 2
def FloorF (n d : Int) : Int := if ratB n d = true then n / d else 0
theorem ratB_true {n d : Int} (e : ratB n d = true) : (-100000000000 ≤ n ∧ n ≤ 100000000000) ∧ (1 ≤ d ∧ d ≤ 20000000) := by
  unfold ratB at e; simp only [Bool.and_eq_true] at e; exact ⟨inB_true e.1, inB_true e.2.1⟩
theorem floor_tdiv (n d : Int) (hd : 0 < d) : n / d = if n.tmod d < 0 then n.tdiv d - 1 else n.tdiv d := by
  have h1 := Int.mul_tdiv_add_tmod n d
  have h2 := tmod_small n d (by omega)
  generalize n.tdiv d = t at *
  generalize n.tmod d = r at *
  split
  · have h3 : d * (t - 1) = d * t - d := by rw [Int.mul_sub, Int.mul_one]
    exact ((Int.ediv_emod_unique hd).2 ⟨(by omega : (r + d) + d * (t - 1) = n), by omega, by omega⟩).1
  · exact ((Int.ediv_emod_unique hd).2 ⟨(by omega : r + d * t = n), by omega, by omega⟩).1
theorem floor_lt (n d : Int) (hd : 0 < d) : (n < n.tdiv d * d) ↔ n.tmod d < 0 := by
  have h1 := Int.mul_tdiv_add_tmod n d
  rw [Int.mul_comm]
  omega
theorem tdiv_bd (x g n : Int) (h : -n ≤ x ∧ x ≤ n) : -n ≤ x.tdiv g ∧ x.tdiv g ≤ n := by
  have h1 : (x.tdiv g).natAbs ≤ x.natAbs := by rw [Int.natAbs_tdiv]; exact Nat.div_le_self _ _
  generalize x.tdiv g = t at h1
  omega
def redN (num den : Int) : Int := (if den < 0 then -num else num) / gcdI num den
def redD (num den : Int) : Int := iabs den / gcdI num den
theorem gcdI_dvd1 (a b : Int) : gcdI a b ∣ a := by unfold gcdI; exact Int.gcd_dvd_left ..
theorem gcdI_dvd2 (a b : Int) : gcdI a b ∣ b := by unfold gcdI; exact Int.gcd_dvd_right ..
theorem gcdI_pos (a b : Int) (hb : b ≠ 0) : 1 ≤ gcdI a b := by
  unfold gcdI
  have : 0 < Int.gcd a b := Int.gcd_pos_of_ne_zero_right a hb
  omega
theorem redN_pos (num den : Int) (h : ¬ den < 0) : num.tdiv (gcdI num den) = redN num den := by
  unfold redN; rw [if_neg h]; exact Int.tdiv_eq_ediv_of_dvd (gcdI_dvd1 _ _)
theorem redD_pos (num den : Int) (h : ¬ den < 0) : den.tdiv (gcdI num den) = redD num den := by
  unfold redD; rw [iabs_of_nonneg h]; exact Int.tdiv_eq_ediv_of_dvd (gcdI_dvd2 _ _)
theorem redN_neg (num den : Int) (h : den < 0) : num.tdiv (-gcdI num den) = redN num den := by
  unfold redN; rw [if_pos h, Int.tdiv_neg, ← Int.neg_tdiv]; exact Int.tdiv_eq_ediv_of_dvd ((Int.dvd_neg).2 (gcdI_dvd1 _ _))
theorem redD_neg (num den : Int) (h : den < 0) : den.tdiv (-gcdI num den) = redD num den := by
  unfold redD; rw [iabs_of_neg h, Int.tdiv_neg, ← Int.neg_tdiv]; exact Int.tdiv_eq_ediv_of_dvd ((Int.dvd_neg).2 (gcdI_dvd2 _ _))
theorem redN_neg' (num den : Int) (h : den < 0) : (-num).tdiv (gcdI num den) = redN num den := by
  unfold redN; rw [if_pos h]; exact Int.tdiv_eq_ediv_of_dvd ((Int.dvd_neg).2 (gcdI_dvd1 _ _))
theorem redD_neg' (num den : Int) (h : den < 0) : (-den).tdiv (gcdI num den) = redD num den := by
  unfold redD; rw [iabs_of_neg h]; exact Int.tdiv_eq_ediv_of_dvd ((Int.dvd_neg).2 (gcdI_dvd2 _ _))
theorem gcdI_neg1 (a b : Int) : gcdI (-a) b = gcdI a b := by unfold gcdI Int.gcd; rw [Int.natAbs_neg]
theorem gcdI_neg2 (a b : Int) : gcdI a (-b) = gcdI a b := by unfold gcdI Int.gcd; rw [Int.natAbs_neg]
theorem gcd_iabs (num den : Int) (h : ¬ den < 0) : gcdI (iabs num) den = gcdI num den := gcdI_abs _ _
theorem gcd_iabs' (num den : Int) (h : den < 0) : gcdI (iabs (-num)) (-den) = gcdI num den := by rw [gcdI_abs, gcdI_neg1, gcdI_neg2]
theorem redN_bd (num den n : Int) (h : -n ≤ num ∧ num ≤ n) : -n ≤ redN num den ∧ redN num den ≤ n := by
  by_cases hd : den < 0
  · rw [← redN_neg' num den hd]; exact tdiv_bd _ _ _ (by omega)
  · rw [← redN_pos num den hd]; exact tdiv_bd _ _ _ h
theorem redD_bd (num den n : Int) (h : -n ≤ den ∧ den ≤ n) : -n ≤ redD num den ∧ redD num den ≤ n := by
  by_cases hd : den < 0
  · rw [← redD_neg' num den hd]; exact tdiv_bd _ _ _ (by omega)
  · rw [← redD_pos num den hd]; exact tdiv_bd _ _ _ h
def okN (n d : Int) : Int := if ratB n d = true then n else 0
def okD (n d : Int) : Int := if ratB n d = true then d else 0

end Go.Proofs.Ytbfeaiaoelkggaa
