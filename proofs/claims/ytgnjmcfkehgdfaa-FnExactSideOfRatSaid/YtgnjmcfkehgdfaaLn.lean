/- Contracts of functions that this seat's statements reach: each is shown to compute a plain Lean function, and to leave what was there as it was. No conditions but those in each theorem. -/
import Derived.Test.YtgnjmcfkehgdfaaBase
namespace Go.Proofs.Ytgnjmcfkehgdfaa
open Go.RowKit
set_option linter.unusedVariables false

open Go.Sort

set_option maxHeartbeats 1000000 in
theorem impl_Line_valid (a : Int) (b : Int) (c : Int) (w : World) :
    Calls Try.prog 74 #[.agg #[.int .i64 a, .int .i64 b, .int .i64 c]] w fun e w' => e = .returned (.bool (lineB a b c)) ∧ Below w.heap.size w w' := by
  cases q1 : inB a 0 2000 with
  | false =>
    have hr : lineB a b c = false := by simp [lineB, q1]
    rw [hr]
    clear hr
    go_enter Try.func74, Try.ntmps74
    go_wp2_with (first | (go_at_call 84; refine (impl_within _ _ _ _).mono ?_; rintro e w' ⟨rfl, rfl⟩))
    go_ret
    exact ⟨rfl, (by (repeat (first | with_reducible exact Below.refl _ _ | with_reducible refine bl_alloc ?_ _ | with_reducible refine bl_drew ?_ | with_reducible refine bl_set ?_ (by first | (simp; done) | (simp; omega)) _ | with_reducible refine bl_call (by assumption) ?_)))⟩
  | true =>
    cases q2 : inB b (-2000) 2000 with
    | false =>
      have hr : lineB a b c = false := by simp [lineB, q1, q2]
      rw [hr]
      clear hr
      go_enter Try.func74, Try.ntmps74
      go_wp2_with (first | (go_at_call 84; refine (impl_within _ _ _ _).mono ?_; rintro e w' ⟨rfl, rfl⟩))
      go_ret
      exact ⟨rfl, (by (repeat (first | with_reducible exact Below.refl _ _ | with_reducible refine bl_alloc ?_ _ | with_reducible refine bl_drew ?_ | with_reducible refine bl_set ?_ (by first | (simp; done) | (simp; omega)) _ | with_reducible refine bl_call (by assumption) ?_)))⟩
    | true =>
      cases q3 : inB c (-4000000) 4000000 with
      | false =>
        have hr : lineB a b c = false := by simp [lineB, q1, q2, q3]
        rw [hr]
        clear hr
        go_enter Try.func74, Try.ntmps74
        go_wp2_with (first | (go_at_call 84; refine (impl_within _ _ _ _).mono ?_; rintro e w' ⟨rfl, rfl⟩))
        go_ret
        exact ⟨rfl, (by (repeat (first | with_reducible exact Below.refl _ _ | with_reducible refine bl_alloc ?_ _ | with_reducible refine bl_drew ?_ | with_reducible refine bl_set ?_ (by first | (simp; done) | (simp; omega)) _ | with_reducible refine bl_call (by assumption) ?_)))⟩
      | true =>
        obtain ⟨l1, u1⟩ := inB_true q1
        obtain ⟨l2, u2⟩ := inB_true q2
        obtain ⟨l3, u3⟩ := inB_true q3
        by_cases pa : 0 < a
        · have hr : lineB a b c = (gcdI (gcdI a b) c == 1) := by rw [Bool.eq_iff_iff]; simp [lineB, q1, q2, q3, pa]
          rw [hr]
          clear hr
          have g1 := gcdI_nonneg a b
          have g2 := gcdI_le a b 2000 (by omega) (by omega)
          have fc0 : (w.alloc (Obj.cells #[.int .i64 a, .int .i64 b, .int .i64 c] 25)).cell? ⟨w.heap.size, 0, none⟩ = some (.int .i64 a) := by simp [go_sem]
          have fc1 : (w.alloc (Obj.cells #[.int .i64 a, .int .i64 b, .int .i64 c] 25)).cell? ⟨w.heap.size, 1, none⟩ = some (.int .i64 b) := by simp [go_sem]
          have fc2 : (w.alloc (Obj.cells #[.int .i64 a, .int .i64 b, .int .i64 c] 25)).cell? ⟨w.heap.size, 2, none⟩ = some (.int .i64 c) := by simp [go_sem]
          go_enter Try.func74, Try.ntmps74
          go_wp2_with (first | (go_at_call 84; refine (impl_within _ _ _ _).mono ?_; rintro e w' ⟨rfl, rfl⟩))
          have k0 := cell_regrown fc0
          have k1 := cell_regrown fc1
          have k2 := cell_regrown fc2
          clear fc0 fc1 fc2
          refine wp_region_quiet_below (by kernel_rfl) (by kernel_rfl) ?_
          repeat (go_big_quiet_step ((first | (go_at_call 44; with_reducible exact Calls.regrown_of (impl_divisor _ _ _ (by omega) (by omega) (by omega) (by omega))))))
          refine wpQuiet_nil ?_
          intro _ hw'
          obtain ⟨⟨dq, osq⟩, hw''⟩ := hw'
          subst hw''
          go_wp2
          go_ret
          exact ⟨ret_bool (by rfl), bl_call (below_regrown _ dq osq) (by (repeat (first | with_reducible exact Below.refl _ _ | with_reducible refine bl_alloc ?_ _ | with_reducible refine bl_drew ?_ | with_reducible refine bl_set ?_ (by first | (simp; done) | (simp; omega)) _ | with_reducible refine bl_call (by assumption) ?_)))⟩
        · by_cases pb : 0 < b
          · have da : decide (0 < a) = false := by simpa using pa
            have hr : lineB a b c = (gcdI (gcdI a b) c == 1) := by rw [Bool.eq_iff_iff]; simp [lineB, q1, q2, q3, pa, pb]
            rw [hr]
            clear hr
            have g1 := gcdI_nonneg a b
            have g2 := gcdI_le a b 2000 (by omega) (by omega)
            have fc0 : (w.alloc (Obj.cells #[.int .i64 a, .int .i64 b, .int .i64 c] 25)).cell? ⟨w.heap.size, 0, none⟩ = some (.int .i64 a) := by simp [go_sem]
            have fc1 : (w.alloc (Obj.cells #[.int .i64 a, .int .i64 b, .int .i64 c] 25)).cell? ⟨w.heap.size, 1, none⟩ = some (.int .i64 b) := by simp [go_sem]
            have fc2 : (w.alloc (Obj.cells #[.int .i64 a, .int .i64 b, .int .i64 c] 25)).cell? ⟨w.heap.size, 2, none⟩ = some (.int .i64 c) := by simp [go_sem]
            go_enter Try.func74, Try.ntmps74
            go_wp2_with (first | (go_at_call 84; refine (impl_within _ _ _ _).mono ?_; rintro e w' ⟨rfl, rfl⟩))
            have k0 := cell_regrown fc0
            have k1 := cell_regrown fc1
            have k2 := cell_regrown fc2
            clear fc0 fc1 fc2
            refine wp_region_quiet_below (by kernel_rfl) (by kernel_rfl) ?_
            repeat (go_big_quiet_step ((first | (go_at_call 44; with_reducible exact Calls.regrown_of (impl_divisor _ _ _ (by omega) (by omega) (by omega) (by omega))))))
            refine wpQuiet_nil ?_
            intro _ hw'
            obtain ⟨⟨dq, osq⟩, hw''⟩ := hw'
            subst hw''
            go_wp2
            go_ret
            exact ⟨ret_bool (by rfl), bl_call (below_regrown _ dq osq) (by (repeat (first | with_reducible exact Below.refl _ _ | with_reducible refine bl_alloc ?_ _ | with_reducible refine bl_drew ?_ | with_reducible refine bl_set ?_ (by first | (simp; done) | (simp; omega)) _ | with_reducible refine bl_call (by assumption) ?_)))⟩
          · have da : decide (0 < a) = false := by simpa using pa
            have db : decide (0 < b) = false := by simpa using pb
            have hr : lineB a b c = false := by simp [lineB, q1, q2, q3, pa, pb]
            rw [hr]
            clear hr
            have g1 := gcdI_nonneg a b
            have g2 := gcdI_le a b 2000 (by omega) (by omega)
            have fc0 : (w.alloc (Obj.cells #[.int .i64 a, .int .i64 b, .int .i64 c] 25)).cell? ⟨w.heap.size, 0, none⟩ = some (.int .i64 a) := by simp [go_sem]
            have fc1 : (w.alloc (Obj.cells #[.int .i64 a, .int .i64 b, .int .i64 c] 25)).cell? ⟨w.heap.size, 1, none⟩ = some (.int .i64 b) := by simp [go_sem]
            have fc2 : (w.alloc (Obj.cells #[.int .i64 a, .int .i64 b, .int .i64 c] 25)).cell? ⟨w.heap.size, 2, none⟩ = some (.int .i64 c) := by simp [go_sem]
            go_enter Try.func74, Try.ntmps74
            go_wp2_with (first | (go_at_call 84; refine (impl_within _ _ _ _).mono ?_; rintro e w' ⟨rfl, rfl⟩))
            have k0 := cell_regrown fc0
            have k1 := cell_regrown fc1
            have k2 := cell_regrown fc2
            clear fc0 fc1 fc2
            refine wp_region_quiet_below (by kernel_rfl) (by kernel_rfl) ?_
            repeat (go_big_quiet_step ((first | (go_at_call 44; with_reducible exact Calls.regrown_of (impl_divisor _ _ _ (by omega) (by omega) (by omega) (by omega))))))
            refine wpQuiet_nil ?_
            intro _ hw'
            obtain ⟨⟨dq, osq⟩, hw''⟩ := hw'
            subst hw''
            go_wp2
            go_ret
            exact ⟨ret_bool (by rfl), bl_call (below_regrown _ dq osq) (by (repeat (first | with_reducible exact Below.refl _ _ | with_reducible refine bl_alloc ?_ _ | with_reducible refine bl_drew ?_ | with_reducible refine bl_set ?_ (by first | (simp; done) | (simp; omega)) _ | with_reducible refine bl_call (by assumption) ?_)))⟩

set_option maxHeartbeats 1000000 in
theorem spec_validLine (a : Int) (b : Int) (c : Int) (w : World) :
    Calls Try.prog 70 #[.agg #[.int .i64 a, .int .i64 b, .int .i64 c]] w fun e w' => e = .returned (.bool (lineB a b c)) ∧ Below w.heap.size w w' := by
  cases q1 : inB a 0 2000 with
  | false =>
    have hr : lineB a b c = false := by simp [lineB, q1]
    rw [hr]
    clear hr
    go_enter Try.func70, Try.ntmps70
    go_wp2_with (first | (go_at_call 78; refine (spec_inRange _ _ _ _).mono ?_; rintro e w' ⟨rfl, rfl⟩))
    go_ret
    exact ⟨rfl, (by (repeat (first | with_reducible exact Below.refl _ _ | with_reducible refine bl_alloc ?_ _ | with_reducible refine bl_drew ?_ | with_reducible refine bl_set ?_ (by first | (simp; done) | (simp; omega)) _ | with_reducible refine bl_call (by assumption) ?_)))⟩
  | true =>
    cases q2 : inB b (-2000) 2000 with
    | false =>
      have hr : lineB a b c = false := by simp [lineB, q1, q2]
      rw [hr]
      clear hr
      go_enter Try.func70, Try.ntmps70
      go_wp2_with (first | (go_at_call 78; refine (spec_inRange _ _ _ _).mono ?_; rintro e w' ⟨rfl, rfl⟩))
      go_ret
      exact ⟨rfl, (by (repeat (first | with_reducible exact Below.refl _ _ | with_reducible refine bl_alloc ?_ _ | with_reducible refine bl_drew ?_ | with_reducible refine bl_set ?_ (by first | (simp; done) | (simp; omega)) _ | with_reducible refine bl_call (by assumption) ?_)))⟩
    | true =>
      cases q3 : inB c (-4000000) 4000000 with
      | false =>
        have hr : lineB a b c = false := by simp [lineB, q1, q2, q3]
        rw [hr]
        clear hr
        go_enter Try.func70, Try.ntmps70
        go_wp2_with (first | (go_at_call 78; refine (spec_inRange _ _ _ _).mono ?_; rintro e w' ⟨rfl, rfl⟩))
        go_ret
        exact ⟨rfl, (by (repeat (first | with_reducible exact Below.refl _ _ | with_reducible refine bl_alloc ?_ _ | with_reducible refine bl_drew ?_ | with_reducible refine bl_set ?_ (by first | (simp; done) | (simp; omega)) _ | with_reducible refine bl_call (by assumption) ?_)))⟩
      | true =>
        obtain ⟨l1, u1⟩ := inB_true q1
        obtain ⟨l2, u2⟩ := inB_true q2
        obtain ⟨l3, u3⟩ := inB_true q3
        by_cases pa : 0 < a
        · have hr : lineB a b c = (gcdI (gcdI a (iabs b)) (iabs c) == 1) := by rw [gcdI_abs2, gcdI_abs2]; rw [Bool.eq_iff_iff]; simp [lineB, q1, q2, q3, pa]
          rw [hr]
          clear hr
          have g1 := gcdI_nonneg a b
          have g2 := gcdI_le a b 2000 (by omega) (by omega)
          have i1 : 0 ≤ iabs b := by unfold iabs; omega
          have i2 : iabs b ≤ 2000 := by unfold iabs; omega
          have i3 : 0 ≤ iabs c := by unfold iabs; omega
          have i4 : iabs c ≤ 4000000 := by unfold iabs; omega
          have g3 := gcdI_nonneg a (iabs b)
          have g4 := gcdI_le a (iabs b) 2000 (by omega) (by omega)
          have fc0 : (w.alloc (Obj.cells #[.int .i64 a, .int .i64 b, .int .i64 c] 25)).cell? ⟨w.heap.size, 0, none⟩ = some (.int .i64 a) := by simp [go_sem]
          have fc1 : (w.alloc (Obj.cells #[.int .i64 a, .int .i64 b, .int .i64 c] 25)).cell? ⟨w.heap.size, 1, none⟩ = some (.int .i64 b) := by simp [go_sem]
          have fc2 : (w.alloc (Obj.cells #[.int .i64 a, .int .i64 b, .int .i64 c] 25)).cell? ⟨w.heap.size, 2, none⟩ = some (.int .i64 c) := by simp [go_sem]
          go_enter Try.func70, Try.ntmps70
          go_wp2_with (first | (go_at_call 78; refine (spec_inRange _ _ _ _).mono ?_; rintro e w' ⟨rfl, rfl⟩))
          have k0 := cell_regrown fc0
          have k1 := cell_regrown fc1
          have k2 := cell_regrown fc2
          clear fc0 fc1 fc2
          refine wp_region_quiet_below (by kernel_rfl) (by kernel_rfl) ?_
          repeat (go_big_quiet_step ((first | (go_at_call 80; with_reducible exact Calls.regrown_of (qb_same (spec_abs _ _ (by omega) (by omega)))) | (go_at_call 79; with_reducible exact Calls.regrown_of (qb_same (spec_gcd _ _ _ (by omega) (by omega) (by omega) (by omega)))))))
          refine wpQuiet_nil ?_
          intro _ hw'
          obtain ⟨⟨dq, osq⟩, hw''⟩ := hw'
          subst hw''
          go_wp2
          go_ret
          exact ⟨ret_bool (by rfl), bl_call (below_regrown _ dq osq) (by (repeat (first | with_reducible exact Below.refl _ _ | with_reducible refine bl_alloc ?_ _ | with_reducible refine bl_drew ?_ | with_reducible refine bl_set ?_ (by first | (simp; done) | (simp; omega)) _ | with_reducible refine bl_call (by assumption) ?_)))⟩
        · by_cases pb : 0 < b
          · have da : decide (0 < a) = false := by simpa using pa
            have hr : lineB a b c = (gcdI (gcdI a (iabs b)) (iabs c) == 1) := by rw [gcdI_abs2, gcdI_abs2]; rw [Bool.eq_iff_iff]; simp [lineB, q1, q2, q3, pa, pb]
            rw [hr]
            clear hr
            have g1 := gcdI_nonneg a b
            have g2 := gcdI_le a b 2000 (by omega) (by omega)
            have i1 : 0 ≤ iabs b := by unfold iabs; omega
            have i2 : iabs b ≤ 2000 := by unfold iabs; omega
            have i3 : 0 ≤ iabs c := by unfold iabs; omega
            have i4 : iabs c ≤ 4000000 := by unfold iabs; omega
            have g3 := gcdI_nonneg a (iabs b)
            have g4 := gcdI_le a (iabs b) 2000 (by omega) (by omega)
            have fc0 : (w.alloc (Obj.cells #[.int .i64 a, .int .i64 b, .int .i64 c] 25)).cell? ⟨w.heap.size, 0, none⟩ = some (.int .i64 a) := by simp [go_sem]
            have fc1 : (w.alloc (Obj.cells #[.int .i64 a, .int .i64 b, .int .i64 c] 25)).cell? ⟨w.heap.size, 1, none⟩ = some (.int .i64 b) := by simp [go_sem]
            have fc2 : (w.alloc (Obj.cells #[.int .i64 a, .int .i64 b, .int .i64 c] 25)).cell? ⟨w.heap.size, 2, none⟩ = some (.int .i64 c) := by simp [go_sem]
            go_enter Try.func70, Try.ntmps70
            go_wp2_with (first | (go_at_call 78; refine (spec_inRange _ _ _ _).mono ?_; rintro e w' ⟨rfl, rfl⟩))
            have k0 := cell_regrown fc0
            have k1 := cell_regrown fc1
            have k2 := cell_regrown fc2
            clear fc0 fc1 fc2
            refine wp_region_quiet_below (by kernel_rfl) (by kernel_rfl) ?_
            repeat (go_big_quiet_step ((first | (go_at_call 80; with_reducible exact Calls.regrown_of (qb_same (spec_abs _ _ (by omega) (by omega)))) | (go_at_call 79; with_reducible exact Calls.regrown_of (qb_same (spec_gcd _ _ _ (by omega) (by omega) (by omega) (by omega)))))))
            refine wpQuiet_nil ?_
            intro _ hw'
            obtain ⟨⟨dq, osq⟩, hw''⟩ := hw'
            subst hw''
            go_wp2
            go_ret
            exact ⟨ret_bool (by rfl), bl_call (below_regrown _ dq osq) (by (repeat (first | with_reducible exact Below.refl _ _ | with_reducible refine bl_alloc ?_ _ | with_reducible refine bl_drew ?_ | with_reducible refine bl_set ?_ (by first | (simp; done) | (simp; omega)) _ | with_reducible refine bl_call (by assumption) ?_)))⟩
          · have da : decide (0 < a) = false := by simpa using pa
            have db : decide (0 < b) = false := by simpa using pb
            have hr : lineB a b c = false := by simp [lineB, q1, q2, q3, pa, pb]
            rw [hr]
            clear hr
            have g1 := gcdI_nonneg a b
            have g2 := gcdI_le a b 2000 (by omega) (by omega)
            have i1 : 0 ≤ iabs b := by unfold iabs; omega
            have i2 : iabs b ≤ 2000 := by unfold iabs; omega
            have i3 : 0 ≤ iabs c := by unfold iabs; omega
            have i4 : iabs c ≤ 4000000 := by unfold iabs; omega
            have g3 := gcdI_nonneg a (iabs b)
            have g4 := gcdI_le a (iabs b) 2000 (by omega) (by omega)
            have fc0 : (w.alloc (Obj.cells #[.int .i64 a, .int .i64 b, .int .i64 c] 25)).cell? ⟨w.heap.size, 0, none⟩ = some (.int .i64 a) := by simp [go_sem]
            have fc1 : (w.alloc (Obj.cells #[.int .i64 a, .int .i64 b, .int .i64 c] 25)).cell? ⟨w.heap.size, 1, none⟩ = some (.int .i64 b) := by simp [go_sem]
            have fc2 : (w.alloc (Obj.cells #[.int .i64 a, .int .i64 b, .int .i64 c] 25)).cell? ⟨w.heap.size, 2, none⟩ = some (.int .i64 c) := by simp [go_sem]
            go_enter Try.func70, Try.ntmps70
            go_wp2_with (first | (go_at_call 78; refine (spec_inRange _ _ _ _).mono ?_; rintro e w' ⟨rfl, rfl⟩))
            have k0 := cell_regrown fc0
            have k1 := cell_regrown fc1
            have k2 := cell_regrown fc2
            clear fc0 fc1 fc2
            refine wp_region_quiet_below (by kernel_rfl) (by kernel_rfl) ?_
            repeat (go_big_quiet_step ((first | (go_at_call 80; with_reducible exact Calls.regrown_of (qb_same (spec_abs _ _ (by omega) (by omega)))) | (go_at_call 79; with_reducible exact Calls.regrown_of (qb_same (spec_gcd _ _ _ (by omega) (by omega) (by omega) (by omega)))))))
            refine wpQuiet_nil ?_
            intro _ hw'
            obtain ⟨⟨dq, osq⟩, hw''⟩ := hw'
            subst hw''
            go_wp2
            go_ret
            exact ⟨ret_bool (by rfl), bl_call (below_regrown _ dq osq) (by (repeat (first | with_reducible exact Below.refl _ _ | with_reducible refine bl_alloc ?_ _ | with_reducible refine bl_drew ?_ | with_reducible refine bl_set ?_ (by first | (simp; done) | (simp; omega)) _ | with_reducible refine bl_call (by assumption) ?_)))⟩

end Go.Proofs.Ytgnjmcfkehgdfaa
