/- Plain facts on integers; nothing of the program. -/
import Derived.Test.YtgnjmcfkehgdfaaPlain
namespace Go.Proofs.Ytgnjmcfkehgdfaa
open Go.RowKit
set_option linter.unusedVariables false


def soD (d k : Int) : Int := d / gcdI d k
def soK (d k : Int) : Int := k / gcdI d k
def soOk (n d m k : Int) : Bool := ratB n d && (ratB m k && (decide (soD d k * k ≤ 20000000) && (decide (iabs n ≤ 10000 * d) && decide (iabs m ≤ 10000 * k))))
def soV (a b c n d m k : Int) : Int := sgnI (a * (n * soK d k) + b * (m * soD d k) - c * soD d k * k)
def SoF (a b c n d m k : Int) : Int := if (lineB a b c && soOk n d m k) = true then soV a b c n d m k else 2
theorem so_div (d k : Int) (hd : 1 ≤ d) (hk : 1 ≤ k) : 1 ≤ gcdI d k ∧ gcdI d k ≤ d ∧ d.tdiv (gcdI d k) = soD d k ∧ k.tdiv (gcdI d k) = soK d k ∧ (1 ≤ soD d k ∧ soD d k ≤ d) ∧ (1 ≤ soK d k ∧ soK d k ≤ k) ∧ soD d k * k = d * soK d k := by
  have hg0 := gcdI_nonneg d k
  have hgz : gcdI d k ≠ 0 := fun e => by
    unfold gcdI at e
    have : Int.gcd d k = 0 := by omega
    have := Int.eq_zero_of_gcd_eq_zero_left this
    omega
  have h1 : gcdI d k ∣ d := Int.gcd_dvd_left ..
  have h2 : gcdI d k ∣ k := Int.gcd_dvd_right ..
  have hl : gcdI d k ≤ d := Int.le_of_dvd (by omega) h1
  unfold soD soK
  have e1 := Int.tdiv_eq_ediv_of_nonneg (a := d) (b := gcdI d k) (by omega)
  have e2 := Int.tdiv_eq_ediv_of_nonneg (a := k) (b := gcdI d k) (by omega)
  generalize gcdI d k = g at *
  obtain ⟨x, rfl⟩ := h1
  obtain ⟨y, rfl⟩ := h2
  have g1 : 1 ≤ g := by omega
  rw [Int.mul_ediv_cancel_left _ hgz, Int.mul_ediv_cancel_left _ hgz] at *
  have hx : 1 ≤ x := by
    rcases Int.lt_or_le x 1 with h | h
    · have := Int.mul_nonneg (show 0 ≤ g by omega) (show 0 ≤ -x by omega)
      rw [Int.mul_neg] at this; omega
    · exact h
  have hy : 1 ≤ y := by
    rcases Int.lt_or_le y 1 with h | h
    · have := Int.mul_nonneg (show 0 ≤ g by omega) (show 0 ≤ -y by omega)
      rw [Int.mul_neg] at this; omega
    · exact h
  have k1 : 0 ≤ (g - 1) * x := Int.mul_nonneg (by omega) (by omega)
  have k2 : 0 ≤ (g - 1) * y := Int.mul_nonneg (by omega) (by omega)
  rw [Int.sub_mul, Int.one_mul] at k1 k2
  refine ⟨g1, hl, e1, e2, ⟨hx, by omega⟩, ⟨hy, by omega⟩, ?_⟩
  rw [← Int.mul_assoc, Int.mul_comm x g]
theorem so_quo (d k : Int) (hd : 1 ≤ d) (hk : 1 ≤ k) : (soD d k * k).tdiv d = soK d k ∧ (soD d k * k).tdiv k = soD d k := by
  obtain ⟨-, -, -, -, ⟨p1, -⟩, ⟨q1, -⟩, e⟩ := so_div d k hd hk
  have h0 : 0 ≤ soD d k * k := Int.mul_nonneg (by omega) (by omega)
  constructor
  · rw [Int.tdiv_eq_ediv_of_nonneg h0, e, Int.mul_ediv_cancel_left _ (by omega)]
  · rw [Int.tdiv_eq_ediv_of_nonneg h0, Int.mul_ediv_cancel _ (by omega)]
theorem mul_le_of (n x y z : Int) (h : -(10000 * x) ≤ n ∧ n ≤ 10000 * x) (hy : 0 ≤ y) (hz : x * y ≤ z) : -(10000 * z) ≤ n * y ∧ n * y ≤ 10000 * z := by
  have a1 : 0 ≤ (10000 * x - n) * y := Int.mul_nonneg (by omega) hy
  have a2 : 0 ≤ (10000 * x + n) * y := Int.mul_nonneg (by omega) hy
  rw [Int.sub_mul, Int.mul_assoc] at a1
  rw [Int.add_mul, Int.mul_assoc] at a2
  omega
theorem so_bds (n d m k : Int) (hd : 1 ≤ d) (hk : 1 ≤ k) (hz : soD d k * k ≤ 20000000) (hn : iabs n ≤ 10000 * d) (hm : iabs m ≤ 10000 * k) : (-200000000000 ≤ n * soK d k ∧ n * soK d k ≤ 200000000000) ∧ (-200000000000 ≤ m * soD d k ∧ m * soD d k ≤ 200000000000) := by
  obtain ⟨-, -, -, -, ⟨p1, -⟩, ⟨q1, -⟩, e⟩ := so_div d k hd hk
  unfold iabs at hn hm
  have h1 := mul_le_of n d (soK d k) 20000000 (by omega) (by omega) (by omega)
  have h2 := mul_le_of m k (soD d k) 20000000 (by omega) (by omega) (by rw [Int.mul_comm]; exact hz)
  omega
theorem lineB_tr {a b c : Int} (e : lineB a b c = true) : (0 ≤ a ∧ a ≤ 2000) ∧ (-2000 ≤ b ∧ b ≤ 2000) ∧ (-4000000 ≤ c ∧ c ≤ 4000000) := by
  unfold lineB at e; simp only [Bool.and_eq_true] at e; exact ⟨inB_true e.1, inB_true e.2.1, inB_true e.2.2.1⟩
theorem so_flat (a b c n d m k : Int) : a * n * soK d k + b * m * soD d k - c * (soD d k * k) = a * (n * soK d k) + b * (m * soD d k) - c * soD d k * k := by
  rw [Int.mul_assoc a, Int.mul_assoc b, ← Int.mul_assoc c]

end Go.Proofs.Ytgnjmcfkehgdfaa
