/- Contracts of functions that this seat's statements reach: each is shown to compute a plain Lean function, and to leave what was there as it was. No conditions but those in each theorem. -/
import Derived.Test.YtgnjmcfkehgdfaaRowsH4
namespace Go.Proofs.Ytgnjmcfkehgdfaa
open Go.RowKit
set_option linter.unusedVariables false

open Go.Sort

theorem laws_eqHalfPlane (a : Int) (b : Int) (c : Int) (w : World) :
    Calls Try.prog 60 #[.agg #[.int .i64 a, .int .i64 b, .int .i64 c], .agg #[.int .i64 a, .int .i64 b, .int .i64 c]] w fun e w' => e = .returned (.bool true) ∧ Below w.heap.size w w' := by
  go_enter Try.func60, Try.ntmps60
  go_wp2
  all_goals go_ret
  all_goals exact ⟨rfl, (by (repeat (first | with_reducible exact Below.refl _ _ | with_reducible refine bl_alloc ?_ _ | with_reducible refine bl_drew ?_ | with_reducible refine bl_set ?_ (by first | (simp; done) | (simp; omega)) _ | with_reducible refine bl_call (by assumption) ?_)))⟩

set_option maxHeartbeats 1000000 in
theorem laws_eqHalfPlaneS (b q n c c2 : Nat) (zs : List (Int × Int × Int)) (w : World) (hn : n ≤ 1048576) (hz : zs.length = n) (hb0 : b < w.heap.size) (hr : rowOfHalfPlane w b 0 zs) (hq0 : q < w.heap.size) (hrq : rowOfHalfPlane w q 0 zs) :
    Calls Try.prog 29 #[.slice (some ⟨b, 0, none⟩) n c, .slice (some ⟨q, 0, none⟩) n c2] w fun e w' => e = .returned (.bool true) ∧ Below w.heap.size w w' := by
  have HZ := Lib.hid hz
  have HR := Lib.hid hr
  have HQ := Lib.hid hrq
  have hb := Lib.hid hb0
  have hq := Lib.hid hq0
  clear hz hr hb0 hrq hq0
  go_enter Try.func29, Try.ntmps29
  go_wp2
  go_loopg [5] n (fun gg s5 wr => ∃ kk : Nat, kk ≤ n ∧ n - kk ≤ gg ∧ s5 = .int .i64 kk ∧ Aside (Below w.heap.size w wr))
  case atStart => exact ⟨0, Nat.zero_le _, by omega, rfl, Below.refl _ w⟩
  case round =>
    obtain ⟨kk, hkk, hg, rfl, BW⟩ := hrel
    by_cases hlt : kk < n
    · have hltz : (kk : Int) < (n : Int) := by omega
      have fc0 := (BW.out.cell (p := ⟨b, 0 + kk * 3, none⟩) hb.out).trans (HR.out kk (by rw [HZ.out]; exact hlt)).1
      have fc1 := (BW.out.cell (p := ⟨b, 0 + kk * 3 + 1, none⟩) hb.out).trans (HR.out kk (by rw [HZ.out]; exact hlt)).2.1
      have fc2 := (BW.out.cell (p := ⟨b, 0 + kk * 3 + 2, none⟩) hb.out).trans (HR.out kk (by rw [HZ.out]; exact hlt)).2.2
      have fc3 := (BW.out.cell (p := ⟨q, 0 + kk * 3, none⟩) hq.out).trans (HQ.out kk (by rw [HZ.out]; exact hlt)).1
      have fc4 := (BW.out.cell (p := ⟨q, 0 + kk * 3 + 1, none⟩) hq.out).trans (HQ.out kk (by rw [HZ.out]; exact hlt)).2.1
      have fc5 := (BW.out.cell (p := ⟨q, 0 + kk * 3 + 2, none⟩) hq.out).trans (HQ.out kk (by rw [HZ.out]; exact hlt)).2.2
      simp only [Nat.zero_add] at fc0 fc1 fc2 fc3 fc4 fc5
      generalize hy : zs[kk]! = y at fc0 fc1 fc2 fc3 fc4 fc5
      clear hy
      go_wp2
      have k0 := cell_regrown fc0
      have k1 := cell_regrown fc1
      have k2 := cell_regrown fc2
      have k3 := cell_regrown fc3
      have k4 := cell_regrown fc4
      have k5 := cell_regrown fc5
      clear fc0 fc1 fc2 fc3 fc4 fc5
      refine wp_region_quiet_below (by kernel_rfl) (by kernel_rfl) ?_
      repeat (go_big_quiet_step ((first | (go_at_call 60; exact Calls.regrown_of (laws_eqHalfPlane _ _ _ _)))))
      refine wpQuiet_nil ?_
      intro _ hw'
      obtain ⟨⟨dq, osq⟩, hw''⟩ := hw'
      subst hw''
      have B1 := Lib.hid (bl_call (below_regrown _ dq osq) BW.out)
      go_wp2
      go_roundg (n - (kk + 1))
      case measure => omega
      case rel => exact ⟨kk + 1, by omega, by omega, by go_num, B1.out⟩
    · have hltz : ¬ (kk : Int) < (n : Int) := by omega
      go_wp2
      go_ret
      exact ⟨rfl, BW.out⟩

theorem impl_ValidHalves_1 (x : Int) (y : Int) (z : Int) (w : World) :
    Calls Try.prog 87 #[.agg #[.int .i64 x, .int .i64 y, .int .i64 z]] w fun e w' => e = .returned (.bool (!hpB x y z)) ∧ Below w.heap.size w w' := by
  go_enter Try.func87, Try.ntmps87
  go_wp2_with (first | (go_at_call 88; refine (impl_HalfPlane_valid _ _ _ _).mono ?_; rintro e w' ⟨rfl, hb⟩; obtain ⟨hc, hf⟩ := bcell hb; have hz0 : w.heap.size < w'.heap.size := (by ((have := hb.size; try simp at this); omega))))
  all_goals go_ret
  all_goals exact ⟨rfl, (by (repeat (first | with_reducible exact Below.refl _ _ | with_reducible refine bl_alloc ?_ _ | with_reducible refine bl_drew ?_ | with_reducible refine bl_set ?_ (by first | (simp; done) | (simp; omega)) _ | with_reducible refine bl_call (by assumption) ?_)))⟩

theorem impl_ValidHalves (b off n c : Nat) (zs : List (Int × Int × Int)) (w : World) (hn : n ≤ 1048576) (hz : zs.length = n) (hb : b < w.heap.size) (hr : rowOfHalfPlane w b off zs) :
    Calls Try.prog 56 #[.slice (some ⟨b, off, none⟩) n c] w fun e w' => e = .returned (.bool (zs.all (fun z : Int × Int × Int => hpB z.1 z.2.1 z.2.2) && decide (zs.length ≤ 8))) ∧ Below w.heap.size w w' := by
  have hp : predOfHalfPlane 87 #[] (fun z : Int × Int × Int => !hpB z.1 z.2.1 z.2.2) zs w := fun W x _ hW => (impl_ValidHalves_1 x.1 x.2.1 x.2.2 W).mono fun _ _ ⟨he, hw⟩ => ⟨he, bl_call hw hW⟩
  have eg : ∀ args w, (callFunc 87 args).run Try.prog w = .ok (.enter 87 args) w := enters_of Try.func87 (by kernel_rfl) rfl
  have ha : (zs.all (fun z : Int × Int × Int => hpB z.1 z.2.1 z.2.2)) = !(zs.any (fun z : Int × Int × Int => !hpB z.1 z.2.1 z.2.2)) := by rw [List.all_eq_not_any_not]
  rw [ha]
  have HI := Lib.hid (containsFunc_HalfPlane (fun z : Int × Int × Int => !hpB z.1 z.2.1 z.2.2) 87 #[] eg b off n c zs w hp hz (by omega) hb hr)
  clear hp hr ha
  generalize (zs.any (fun z : Int × Int × Int => !hpB z.1 z.2.1 z.2.2)) = r at HI ⊢
  rw [hz]
  clear hz
  by_cases hm : n ≤ 8
  · have hmz : (n : Int) ≤ 8 := by omega
    have hd : (!r && decide (n ≤ 8)) = !r := by simp [hm]
    rw [hd]
    clear hd
    go_enter Try.func56, Try.ntmps56
    go_wp2_with (go_at_call 57; refine HI.out.mono ?_; rintro e w' ⟨rfl, hb'⟩)
    go_ret
    exact ⟨rfl, hb'⟩
  · have hmz : ¬ (n : Int) ≤ 8 := by omega
    have hd : (!r && decide (n ≤ 8)) = false := by simp [hm]
    rw [hd]
    clear hd
    go_enter Try.func56, Try.ntmps56
    go_wp2
    go_ret
    exact ⟨rfl, Below.refl _ _⟩

end Go.Proofs.Ytgnjmcfkehgdfaa
