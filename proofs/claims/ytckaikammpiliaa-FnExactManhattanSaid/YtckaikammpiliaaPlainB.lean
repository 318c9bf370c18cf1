/- Plain facts on integers; nothing of the program. -/
import Derived.Test.YtckaikammpiliaaPlain
namespace Go.Proofs.Ytckaikammpiliaa
open Go.RowKit
set_option linter.unusedVariables false


def DgX (x y : Int) : Int := if ptB x y = true then x else 0
def DgY (x y : Int) : Int := if ptB x y = true then y else 0
def ratB (n d : Int) : Bool := inB n (-100000000000) 100000000000 && (inB d 1 20000000 && decide (gcdI n d = 1))
def lineB (a b c : Int) : Bool := inB a 0 2000 && (inB b (-2000) 2000 && (inB c (-4000000) 4000000 && (decide (0 < a ∨ 0 < b) && decide (gcdI (gcdI a b) c = 1))))
def segB (a1 a2 b1 b2 : Int) : Bool := v2B a1 a2 b1 b2 && decide (¬ (a1 = b1 ∧ a2 = b2))
theorem tmod_bd (x y n : Int) (hy : y ≠ 0) (h : -n ≤ y ∧ y ≤ n) : -n ≤ x.tmod y ∧ x.tmod y ≤ n := by
  have h1 := tmod_small x y hy
  generalize x.tmod y = t at h1
  omega
theorem gcdI_nonneg (a b : Int) : 0 ≤ gcdI a b := by unfold gcdI; omega
theorem gcdI_le (a b n : Int) (ha : -n ≤ a ∧ a ≤ n) (hb : -n ≤ b ∧ b ≤ n) : gcdI a b ≤ n := by
  unfold gcdI Int.gcd
  by_cases h : a = 0
  · subst h; simp; omega
  · have := Nat.gcd_le_left b.natAbs (m := a.natAbs) (by omega); omega

end Go.Proofs.Ytckaikammpiliaa
