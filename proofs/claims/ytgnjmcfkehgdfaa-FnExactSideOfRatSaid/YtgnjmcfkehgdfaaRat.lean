/- Contracts of functions that this seat's statements reach: each is shown to compute a plain Lean function, and to leave what was there as it was. No conditions but those in each theorem. -/
import Derived.Test.YtgnjmcfkehgdfaaBase
namespace Go.Proofs.Ytgnjmcfkehgdfaa
open Go.RowKit
set_option linter.unusedVariables false

open Go.Sort

theorem impl_Rat_valid (n : Int) (d : Int) (w : World) :
    Calls Try.prog 94 #[.agg #[.int .i64 n, .int .i64 d]] w fun e w' => e = .returned (.bool (ratB n d)) ∧ Below w.heap.size w w' := by
  cases q1 : inB n (-100000000000) 100000000000 with
  | false =>
    have hr0 : ratB n d = false := by simp [ratB, q1]
    rw [hr0]
    clear hr0
    go_enter Try.func94, Try.ntmps94
    go_wp2_with (first | (go_at_call 84; refine (impl_within _ _ _ _).mono ?_; rintro e w' ⟨rfl, rfl⟩) | (go_at_call 44; refine (impl_divisor _ _ _ (by omega) (by omega) (by omega) (by omega)).mono ?_; rintro e w' ⟨rfl, hb⟩; obtain ⟨hc, hf⟩ := bcell hb; have hz0 : w.heap.size < w'.heap.size := (by ((have := hb.size; try simp at this); omega))))
    go_ret
    exact ⟨rfl, (by (repeat (first | with_reducible exact Below.refl _ _ | with_reducible refine bl_alloc ?_ _ | with_reducible refine bl_drew ?_ | with_reducible refine bl_set ?_ (by first | (simp; done) | (simp; omega)) _ | with_reducible refine bl_call (by assumption) ?_)))⟩
  | true =>
    cases q2 : inB d 1 20000000 with
    | false =>
      have hr0 : ratB n d = false := by simp [ratB, q1, q2]
      rw [hr0]
      clear hr0
      go_enter Try.func94, Try.ntmps94
      go_wp2_with (first | (go_at_call 84; refine (impl_within _ _ _ _).mono ?_; rintro e w' ⟨rfl, rfl⟩) | (go_at_call 44; refine (impl_divisor _ _ _ (by omega) (by omega) (by omega) (by omega)).mono ?_; rintro e w' ⟨rfl, hb⟩; obtain ⟨hc, hf⟩ := bcell hb; have hz0 : w.heap.size < w'.heap.size := (by ((have := hb.size; try simp at this); omega))))
      go_ret
      exact ⟨rfl, (by (repeat (first | with_reducible exact Below.refl _ _ | with_reducible refine bl_alloc ?_ _ | with_reducible refine bl_drew ?_ | with_reducible refine bl_set ?_ (by first | (simp; done) | (simp; omega)) _ | with_reducible refine bl_call (by assumption) ?_)))⟩
    | true =>
      have hr0 : ratB n d = decide (gcdI n d = 1) := by simp [ratB, q1, q2]
      rw [hr0]
      clear hr0
      obtain ⟨l1, u1⟩ := inB_true q1
      obtain ⟨l2, u2⟩ := inB_true q2
      go_enter Try.func94, Try.ntmps94
      go_wp2_with (first | (go_at_call 84; refine (impl_within _ _ _ _).mono ?_; rintro e w' ⟨rfl, rfl⟩) | (go_at_call 44; refine (impl_divisor _ _ _ (by omega) (by omega) (by omega) (by omega)).mono ?_; rintro e w' ⟨rfl, hb⟩; obtain ⟨hc, hf⟩ := bcell hb; have hz0 : w.heap.size < w'.heap.size := (by ((have := hb.size; try simp at this); omega))))
      go_ret
      exact ⟨ret_bool (by rw [Bool.eq_iff_iff]; simp), (by (repeat (first | with_reducible exact Below.refl _ _ | with_reducible refine bl_alloc ?_ _ | with_reducible refine bl_drew ?_ | with_reducible refine bl_set ?_ (by first | (simp; done) | (simp; omega)) _ | with_reducible refine bl_call (by assumption) ?_)))⟩

set_option maxHeartbeats 400000 in
theorem spec_validRat (n : Int) (d : Int) (w : World) :
    Calls Try.prog 93 #[.agg #[.int .i64 n, .int .i64 d]] w fun e w' => e = .returned (.bool (ratB n d)) ∧ Below w.heap.size w w' := by
  cases q1 : inB n (-100000000000) 100000000000 with
  | false =>
    have hr : ratB n d = false := by simp [ratB, q1]
    rw [hr]
    clear hr
    have R1 : Hid (∀ W : World, Calls Try.prog 78 #[.int .i64 n, .int .i64 (-100000000000), .int .i64 100000000000] W fun e w' => e = .returned (.bool false) ∧ W = w') := Lib.hid fun W => by
      have h := spec_inRange n (-100000000000) 100000000000 W
      rw [q1] at h
      exact h
    clear q1
    have fc0 : (w.alloc (Obj.cells #[.int .i64 n, .int .i64 d] 60)).cell? ⟨w.heap.size, 0, none⟩ = some (.int .i64 n) := by simp [go_sem]
    have fc1 : (w.alloc (Obj.cells #[.int .i64 n, .int .i64 d] 60)).cell? ⟨w.heap.size, 1, none⟩ = some (.int .i64 d) := by simp [go_sem]
    go_enter Try.func93, Try.ntmps93
    go_wp2
    have k0 := cell_regrown fc0
    have k1 := cell_regrown fc1
    clear fc0 fc1
    refine wp_region_quiet_below (by kernel_rfl) (by kernel_rfl) ?_
    repeat (go_big_quiet_step ((first | (go_at_call 78; with_reducible exact Calls.regrown_of (qb_same (R1.out _))))))
    refine wpQuiet_nil ?_
    intro _ hw'
    obtain ⟨⟨dq, osq⟩, hw''⟩ := hw'
    subst hw''
    go_wp2
    go_ret
    exact ⟨ret_bool (by rfl), bl_call (below_regrown _ dq osq) (by (repeat (first | with_reducible exact Below.refl _ _ | with_reducible refine bl_alloc ?_ _ | with_reducible refine bl_drew ?_ | with_reducible refine bl_set ?_ (by first | (simp; done) | (simp; omega)) _ | with_reducible refine bl_call (by assumption) ?_)))⟩
  | true =>
    cases q2 : inB d 1 20000000 with
    | false =>
      have hr : ratB n d = false := by simp [ratB, q1, q2]
      rw [hr]
      clear hr
      have R1 : Hid (∀ W : World, Calls Try.prog 78 #[.int .i64 n, .int .i64 (-100000000000), .int .i64 100000000000] W fun e w' => e = .returned (.bool true) ∧ W = w') := Lib.hid fun W => by
        have h := spec_inRange n (-100000000000) 100000000000 W
        rw [q1] at h
        exact h
      have R2 : Hid (∀ W : World, Calls Try.prog 78 #[.int .i64 d, .int .i64 1, .int .i64 20000000] W fun e w' => e = .returned (.bool false) ∧ W = w') := Lib.hid fun W => by
        have h := spec_inRange d 1 20000000 W
        rw [q2] at h
        exact h
      clear q1 q2
      have fc0 : (w.alloc (Obj.cells #[.int .i64 n, .int .i64 d] 60)).cell? ⟨w.heap.size, 0, none⟩ = some (.int .i64 n) := by simp [go_sem]
      have fc1 : (w.alloc (Obj.cells #[.int .i64 n, .int .i64 d] 60)).cell? ⟨w.heap.size, 1, none⟩ = some (.int .i64 d) := by simp [go_sem]
      go_enter Try.func93, Try.ntmps93
      go_wp2
      have k0 := cell_regrown fc0
      have k1 := cell_regrown fc1
      clear fc0 fc1
      refine wp_region_quiet_below (by kernel_rfl) (by kernel_rfl) ?_
      repeat (go_big_quiet_step ((first | (go_at_call 78; with_reducible exact Calls.regrown_of (qb_same (R1.out _))) | (go_at_call 78; with_reducible exact Calls.regrown_of (qb_same (R2.out _))))))
      refine wpQuiet_nil ?_
      intro _ hw'
      obtain ⟨⟨dq, osq⟩, hw''⟩ := hw'
      subst hw''
      go_wp2
      go_ret
      exact ⟨ret_bool (by rfl), bl_call (below_regrown _ dq osq) (by (repeat (first | with_reducible exact Below.refl _ _ | with_reducible refine bl_alloc ?_ _ | with_reducible refine bl_drew ?_ | with_reducible refine bl_set ?_ (by first | (simp; done) | (simp; omega)) _ | with_reducible refine bl_call (by assumption) ?_)))⟩
    | true =>
      obtain ⟨l1, u1⟩ := inB_true q1
      obtain ⟨l2, u2⟩ := inB_true q2
      have la : 0 ≤ iabs n := by unfold iabs; omega
      have ua : iabs n ≤ 100000000000 := by unfold iabs; omega
      have hr : ratB n d = (gcdI (iabs n) d == 1) := by rw [gcdI_abs, Bool.eq_iff_iff]; simp [ratB, q1, q2]
      rw [hr]
      clear hr
      have R1 : Hid (∀ W : World, Calls Try.prog 78 #[.int .i64 n, .int .i64 (-100000000000), .int .i64 100000000000] W fun e w' => e = .returned (.bool true) ∧ W = w') := Lib.hid fun W => by
        have h := spec_inRange n (-100000000000) 100000000000 W
        rw [q1] at h
        exact h
      have R2 : Hid (∀ W : World, Calls Try.prog 78 #[.int .i64 d, .int .i64 1, .int .i64 20000000] W fun e w' => e = .returned (.bool true) ∧ W = w') := Lib.hid fun W => by
        have h := spec_inRange d 1 20000000 W
        rw [q2] at h
        exact h
      clear q1 q2
      have fc0 : (w.alloc (Obj.cells #[.int .i64 n, .int .i64 d] 60)).cell? ⟨w.heap.size, 0, none⟩ = some (.int .i64 n) := by simp [go_sem]
      have fc1 : (w.alloc (Obj.cells #[.int .i64 n, .int .i64 d] 60)).cell? ⟨w.heap.size, 1, none⟩ = some (.int .i64 d) := by simp [go_sem]
      go_enter Try.func93, Try.ntmps93
      go_wp2
      have k0 := cell_regrown fc0
      have k1 := cell_regrown fc1
      clear fc0 fc1
      refine wp_region_quiet_below (by kernel_rfl) (by kernel_rfl) ?_
      repeat (go_big_quiet_step ((first | (go_at_call 78; with_reducible exact Calls.regrown_of (qb_same (R1.out _))) | (go_at_call 78; with_reducible exact Calls.regrown_of (qb_same (R2.out _))) | (go_at_call 80; with_reducible exact Calls.regrown_of (qb_same (spec_abs _ _ (by omega) (by omega)))) | (go_at_call 79; with_reducible exact Calls.regrown_of (qb_same (spec_gcd _ _ _ (by omega) (by omega) (by omega) (by omega)))))))
      refine wpQuiet_nil ?_
      intro _ hw'
      obtain ⟨⟨dq, osq⟩, hw''⟩ := hw'
      subst hw''
      go_wp2
      go_ret
      exact ⟨ret_bool (by rfl), bl_call (below_regrown _ dq osq) (by (repeat (first | with_reducible exact Below.refl _ _ | with_reducible refine bl_alloc ?_ _ | with_reducible refine bl_drew ?_ | with_reducible refine bl_set ?_ (by first | (simp; done) | (simp; omega)) _ | with_reducible refine bl_call (by assumption) ?_)))⟩

end Go.Proofs.Ytgnjmcfkehgdfaa
