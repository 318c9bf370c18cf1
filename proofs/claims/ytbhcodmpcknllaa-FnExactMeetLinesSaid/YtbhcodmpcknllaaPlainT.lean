/- Plain facts on integers; nothing of the program. -/
import Derived.Test.YtbhcodmpcknllaaPlainC
namespace Go.Proofs.Ytbhcodmpcknllaa
open Go.RowKit
set_option linter.unusedVariables false


def mulBig (x y : Int) : Bool := !(x == 0) && decide (100000000000 / iabs x < iabs y)
def mulOk (n d m k : Int) : Bool := rr n d m k && !(mulBig (redN n k) (redN m d))
def MuN (n d m k : Int) : Int := if mulOk n d m k = true then okN (redN n k * redN m d) (redD n k * redD m d) else 0
def MuD (n d m k : Int) : Int := if mulOk n d m k = true then okD (redN n k * redN m d) (redD n k * redD m d) else 0
def MuB (n d m k : Int) : Bool := mulOk n d m k && ratB (redN n k * redN m d) (redD n k * redD m d)
theorem mul_small (x y : Int) (h : x = 0 ∨ iabs y ≤ 100000000000 / iabs x) : -100000000000 ≤ x * y ∧ x * y ≤ 100000000000 := by
  by_cases h0 : x = 0
  · subst h0; simp
  · have h1 : iabs y ≤ 100000000000 / iabs x := by omega
    have hx : 0 < iabs x := by unfold iabs; omega
    have h2 : iabs y * iabs x ≤ 100000000000 := by
      have h3 := Int.mul_le_mul_of_nonneg_right h1 (show 0 ≤ iabs x by omega)
      have h4 := Int.ediv_mul_le 100000000000 (show iabs x ≠ 0 by omega)
      omega
    have h5 : iabs (x * y) = iabs y * iabs x := by unfold iabs; rw [Int.natAbs_mul, Int.natCast_mul, Int.mul_comm]
    rw [← h5] at h2
    unfold iabs at h2
    omega
theorem iabs_nn0 (n : Int) : 0 ≤ iabs n := by unfold iabs; omega
def SideF (a b c x y : Int) : Int := if (lineB a b c && ptB x y) = true then sgnI (a * x + b * y - c) else 2
theorem lineB_true {a b c : Int} (e : lineB a b c = true) : (0 ≤ a ∧ a ≤ 2000) ∧ (-2000 ≤ b ∧ b ≤ 2000) ∧ (-4000000 ≤ c ∧ c ≤ 4000000) := by
  unfold lineB at e; simp only [Bool.and_eq_true] at e; exact ⟨inB_true e.1, inB_true e.2.1, inB_true e.2.2.1⟩

end Go.Proofs.Ytbhcodmpcknllaa
