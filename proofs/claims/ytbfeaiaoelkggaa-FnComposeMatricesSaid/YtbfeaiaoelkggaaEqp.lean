/- Contracts of functions that this seat's statements reach: each is shown to compute a plain Lean function, and to leave what was there as it was. No conditions but those in each theorem. -/
import Derived.Test.YtbfeaiaoelkggaaRowsP2
namespace Go.Proofs.Ytbfeaiaoelkggaa
open Go.RowKit
set_option linter.unusedVariables false

open Go.Sort

set_option maxHeartbeats 1000000 in
theorem laws_equalPoints (b q n c c2 : Nat) (zs : List (Int × Int)) (w : World) (hn : n ≤ 1048576) (hz : zs.length = n) (hb0 : b < w.heap.size) (hr : rowOfPoint w b 0 zs) (hq0 : q < w.heap.size) (hrq : rowOfPoint w q 0 zs) :
    Calls Try.prog 11 #[.slice (some ⟨b, 0, none⟩) n c, .slice (some ⟨q, 0, none⟩) n c2] w fun e w' => e = .returned (.bool true) ∧ Below w.heap.size w w' := by
  have HZ := Lib.hid hz
  have HR := Lib.hid hr
  have HQ := Lib.hid hrq
  have hb := Lib.hid hb0
  have hq := Lib.hid hq0
  clear hz hr hb0 hrq hq0
  go_enter Try.func11, Try.ntmps11
  go_wp2
  go_loopg [5] n (fun gg s5 wr => ∃ kk : Nat, kk ≤ n ∧ n - kk ≤ gg ∧ s5 = .int .i64 kk ∧ Aside (Below w.heap.size w wr))
  case atStart => exact ⟨0, Nat.zero_le _, by omega, rfl, Below.refl _ w⟩
  case round =>
    obtain ⟨kk, hkk, hg, rfl, BW⟩ := hrel
    by_cases hlt : kk < n
    · have hltz : (kk : Int) < (n : Int) := by omega
      have fc0 := (BW.out.cell (p := ⟨b, 0 + kk * 2, none⟩) hb.out).trans (HR.out kk (by rw [HZ.out]; exact hlt)).1
      have fc1 := (BW.out.cell (p := ⟨b, 0 + kk * 2 + 1, none⟩) hb.out).trans (HR.out kk (by rw [HZ.out]; exact hlt)).2
      have fc2 := (BW.out.cell (p := ⟨q, 0 + kk * 2, none⟩) hq.out).trans (HQ.out kk (by rw [HZ.out]; exact hlt)).1
      have fc3 := (BW.out.cell (p := ⟨q, 0 + kk * 2 + 1, none⟩) hq.out).trans (HQ.out kk (by rw [HZ.out]; exact hlt)).2
      simp only [Nat.zero_add] at fc0 fc1 fc2 fc3
      generalize zs[kk]! = y at fc0 fc1 fc2 fc3
      have e1 : (y.1 == y.1) = true := by simp
      have e2 : (y.2 == y.2) = true := by simp
      go_wp2
      have k0 := cell_regrown fc0
      have k1 := cell_regrown fc1
      have k2 := cell_regrown fc2
      have k3 := cell_regrown fc3
      clear fc0 fc1 fc2 fc3
      refine wp_region_quiet_below (by kernel_rfl) (by kernel_rfl) ?_
      repeat (go_big_quiet_step (fail))
      refine wpQuiet_nil ?_
      intro _ hw'
      obtain ⟨⟨dq, osq⟩, hw''⟩ := hw'
      subst hw''
      clear k0 k1 k2 k3
      have B1 := Lib.hid (bl_call (below_regrown _ dq osq) BW.out)
      go_wp2
      go_roundg (n - (kk + 1))
      case measure => omega
      case rel => exact ⟨kk + 1, by omega, by omega, by go_num, B1.out⟩
    · have hltz : ¬ (kk : Int) < (n : Int) := by omega
      go_wp2
      go_ret
      exact ⟨rfl, BW.out⟩

end Go.Proofs.Ytbfeaiaoelkggaa
