/- Plain facts on integers; nothing of the program. -/
import Derived.WalkKit
namespace Go.Proofs.Ytckaikammpiliaa
open Go.RowKit
set_option linter.unusedVariables false


def inB (n l h : Int) : Bool := decide (l ≤ n ∧ n ≤ h)
def ptB (x y : Int) : Bool := inB x (-1000) 1000 && inB y (-1000) 1000
def iabs (n : Int) : Int := (n.natAbs : Int)
def gcdI (a b : Int) : Int := (Int.gcd a b : Int)

theorem inB_true {n l h : Int} (e : inB n l h = true) : l ≤ n ∧ n ≤ h := by simpa [inB] using e
theorem inB_false {n l h : Int} (e : inB n l h = false) : ¬ (l ≤ n ∧ n ≤ h) := by simpa [inB] using e
theorem ptB_true {x y : Int} (e : ptB x y = true) : (-1000 ≤ x ∧ x ≤ 1000) ∧ (-1000 ≤ y ∧ y ≤ 1000) := by
  unfold ptB at e; rw [Bool.and_eq_true] at e; exact ⟨inB_true e.1, inB_true e.2⟩
theorem iabs_of_neg {n : Int} (h : n < 0) : iabs n = -n := by unfold iabs; omega
theorem iabs_of_nonneg {n : Int} (h : ¬ n < 0) : iabs n = n := by unfold iabs; omega
theorem gcdI_zero (a : Int) : gcdI a 0 = iabs a := by unfold gcdI iabs; simp [Int.gcd]
theorem gcdI_step (a b : Int) : gcdI b (a.tmod b) = gcdI a b := by
  unfold gcdI Int.gcd
  rw [Int.natAbs_tmod, Nat.gcd_comm b.natAbs, ← Nat.gcd_rec, Nat.gcd_comm]
theorem gcdI_abs (a b : Int) : gcdI (iabs a) b = gcdI a b := by unfold gcdI iabs Int.gcd; simp
theorem gcdI_abs2 (a b : Int) : gcdI a (iabs b) = gcdI a b := by unfold gcdI iabs Int.gcd; simp
theorem tmod_small (a b : Int) (hb : b ≠ 0) : (a.tmod b).natAbs < b.natAbs := by
  rw [Int.natAbs_tmod]; exact Nat.mod_lt _ (by omega)
theorem emod_small (a b : Int) (hb : 0 < b) : 0 ≤ a % b ∧ a % b < b := ⟨Int.emod_nonneg _ (by omega), Int.emod_lt_of_pos _ hb⟩
theorem gcdI_estep (a b : Int) (ha : 0 ≤ a) : gcdI b (a % b) = gcdI a b := by
  rw [← Int.tmod_eq_emod_of_nonneg ha]; exact gcdI_step a b


theorem mul_bd (x a n m : Int) (hx : -n ≤ x ∧ x ≤ n) (ha : -m ≤ a ∧ a ≤ m) (hn : 0 ≤ n) (hm : 0 ≤ m) : -(n * m) ≤ x * a ∧ x * a ≤ n * m := by
  have h : (x * a).natAbs ≤ (n * m).natAbs := by
    rw [Int.natAbs_mul, Int.natAbs_mul]
    exact Nat.mul_le_mul (by omega) (by omega)
  have h0 : 0 ≤ n * m := Int.mul_nonneg hn hm
  omega
def crossV (a1 a2 b1 b2 c1 c2 : Int) : Int := (b1 - a1) * (c2 - a2) - (b2 - a2) * (c1 - a1)
def farV (a1 a2 b1 b2 : Int) : Int := (b1 - a1) * (b1 - a1) + (b2 - a2) * (b2 - a2)
def manV (a1 a2 b1 b2 : Int) : Int := iabs (a1 - b1) + iabs (a2 - b2)
theorem sq_sub (a b : Int) : (a - b) * (a - b) = (b - a) * (b - a) := by
  have h : a - b = -(b - a) := by omega
  rw [h, Int.neg_mul_neg]
def v2B (a1 a2 b1 b2 : Int) : Bool := ptB a1 a2 && ptB b1 b2
def v3B (a1 a2 b1 b2 c1 c2 : Int) : Bool := ptB a1 a2 && (ptB b1 b2 && ptB c1 c2)
def v4B (a1 a2 b1 b2 c1 c2 d1 d2 : Int) : Bool := ptB a1 a2 && (ptB b1 b2 && (ptB c1 c2 && ptB d1 d2))


def CrossF (a1 a2 b1 b2 c1 c2 : Int) : Int := if v3B a1 a2 b1 b2 c1 c2 = true then crossV a1 a2 b1 b2 c1 c2 else 0
def DistF (a1 a2 b1 b2 : Int) : Int := if v2B a1 a2 b1 b2 = true then farV a1 a2 b1 b2 else -1
def ManF (a1 a2 b1 b2 : Int) : Int := if v2B a1 a2 b1 b2 = true then manV a1 a2 b1 b2 else -1
def matB (a b c d : Int) : Bool := inB a (-1000) 1000 && (inB b (-1000) 1000 && (inB c (-1000) 1000 && inB d (-1000) 1000))
def detV (a b c d : Int) : Int := a * d - b * c
def DetF (a b c d : Int) : Int := if matB a b c d = true then detV a b c d else 0
theorem matB_true {a b c d : Int} (e : matB a b c d = true) : (-1000 ≤ a ∧ a ≤ 1000) ∧ (-1000 ≤ b ∧ b ≤ 1000) ∧ (-1000 ≤ c ∧ c ≤ 1000) ∧ (-1000 ≤ d ∧ d ≤ 1000) := by
  unfold matB at e; simp only [Bool.and_eq_true] at e; exact ⟨inB_true e.1, inB_true e.2.1, inB_true e.2.2.1, inB_true e.2.2.2⟩

end Go.Proofs.Ytckaikammpiliaa
