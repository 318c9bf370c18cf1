/- Contracts of functions that this seat's statements reach: each is shown to compute a plain Lean function, and to leave what was there as it was. No conditions but those in each theorem. -/
import Derived.Test.YtckaikammpiliaaFns4
import Derived.IntWalk
namespace Go.Proofs.Ytckaikammpiliaa
open Go.RowKit
set_option linter.unusedVariables false

open Go.Sort

set_option maxHeartbeats 400000 in
theorem impl_divisor (a : Int) (b : Int) (w : World) (h0 : -9000000000000000000 ≤ a) (h1 : a ≤ 9000000000000000000) (h2 : -9000000000000000000 ≤ b) (h3 : b ≤ 9000000000000000000) :
    Calls Try.prog 69 #[.int .i64 a, .int .i64 b] w fun e w' => e = .returned (.int .i64 (gcdI a b)) ∧ Below w.heap.size w w' := by
  obtain ⟨g, hg⟩ : ∃ g, g = gcdI a b := ⟨_, rfl⟩
  rw [← hg]
  have HG := Lib.hid hg
  clear hg
  go_enter Try.func69, Try.ntmps69
  go_wp2
  go_loopw [0, 1] (fun va vb wr => ∃ x y : Int, va = .int .i64 x ∧ vb = .int .i64 y ∧ -9000000000000000000 ≤ x ∧ x ≤ 9000000000000000000 ∧ -9000000000000000000 ≤ y ∧ y ≤ 9000000000000000000 ∧ Hid (g = gcdI x y) ∧ Below w.heap.size w wr) (fun _ vb _ => (intOf vb).natAbs)
  case atStart => exact ⟨a, b, rfl, rfl, by omega, by omega, by omega, by omega, HG, Below.refl _ _⟩
  case round =>
    obtain ⟨x, y, rfl, rfl, hx0, hx1, hy0, hy1, HE, BW⟩ := hrel
    by_cases hy : y = 0
    · subst hy
      go_wp2_with (first | (go_at_call 75; refine (impl_abs _ _ (by omega) (by omega)).mono ?_; rintro e w' ⟨rfl, rfl⟩))
      go_ret
      exact ⟨ret_int (by rw [HE.out, gcdI_zero]), BW⟩
    · have hyb : (y == 0) = false := by simp [hy]
      have hyn : (y != 0) = true := by simp [hy]
      have hm := tmod_small x y hy
      obtain ⟨ht1, ht2⟩ := tmod_bd x y 9000000000000000000 hy ⟨hy0, hy1⟩
      have HM := Lib.hid hm
      clear hm
      have hs := Lib.hid (gcdI_step x y)
      go_wp2
      have hwr : IntKind.i64.wrap (x.tmod y) = x.tmod y := IntWalk.i64_in _ (by omega)
      go_quiet (fail)
      clear hwr
      go_wp2
      go_roundw
      case rel => exact ⟨y, x.tmod y, rfl, rfl, by omega, by omega, by omega, by omega, by rw [HE.out, hs.out]; rfl, bl_drewN BW _⟩
      case measure => simp only [intOf]; exact HM.out

end Go.Proofs.Ytckaikammpiliaa
