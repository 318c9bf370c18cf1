/- Contracts of functions that this seat's statements reach: each is shown to compute a plain Lean function, and to leave what was there as it was. No conditions but those in each theorem. -/
import Derived.Test.YtbhcodmpcknllaaGeo
import Derived.Test.YtbhcodmpcknllaaPlainS
namespace Go.Proofs.Ytbhcodmpcknllaa
open Go.RowKit
set_option linter.unusedVariables false

open Go.Sort

theorem spec_between (a1 : Int) (a2 : Int) (b1 : Int) (b2 : Int) (x : Int) (y : Int) (w : World) :
    Calls Try.prog 122 #[.agg #[.int .i64 a1, .int .i64 a2, .int .i64 b1, .int .i64 b2], .agg #[.int .i64 x, .int .i64 y]] w fun e w' => e = .returned (.bool (btwB a1 a2 b1 b2 x y)) ∧ Below w.heap.size w w' := by
  have e0 : (if a1 < b1 then b1 else a1) = mx2 a1 b1 := rfl
  have e1 : (if b1 < a1 then b1 else a1) = mn2 a1 b1 := rfl
  have e2 : (if a2 < b2 then b2 else a2) = mx2 a2 b2 := rfl
  have e3 : (if b2 < a2 then b2 else a2) = mn2 a2 b2 := rfl
  go_enter Try.func122, Try.ntmps122
  go_wp2_with (first | (go_at_call 102; refine (spec_inRange _ _ _ _).mono ?_; rintro e w' ⟨rfl, rfl⟩))
  all_goals go_ret
  all_goals exact ⟨ret_bool (by simp only [btwB, *, Bool.true_and, Bool.false_and]), (by (repeat (first | with_reducible exact Below.refl _ _ | with_reducible refine bl_alloc ?_ _ | with_reducible refine bl_drew ?_ | with_reducible refine bl_set ?_ (by first | (simp; done) | (simp; omega)) _ | with_reducible refine bl_call (by assumption) ?_)))⟩

theorem spec_onSegment (a1 : Int) (a2 : Int) (b1 : Int) (b2 : Int) (x : Int) (y : Int) (w : World) (ha1 : -1000 ≤ a1 ∧ a1 ≤ 1000) (ha2 : -1000 ≤ a2 ∧ a2 ≤ 1000) (hb1 : -1000 ≤ b1 ∧ b1 ≤ 1000) (hb2 : -1000 ≤ b2 ∧ b2 ≤ 1000) (hx : -1000 ≤ x ∧ x ≤ 1000) (hy : -1000 ≤ y ∧ y ≤ 1000) :
    Calls Try.prog 110 #[.agg #[.int .i64 a1, .int .i64 a2, .int .i64 b1, .int .i64 b2], .agg #[.int .i64 x, .int .i64 y]] w fun e w' => e = .returned (.bool (hasB a1 a2 b1 b2 x y)) ∧ Below w.heap.size w w' := by
  rw [← has_eq]
  by_cases hz : crossV a1 a2 b1 b2 x y = 0
  · have i1 : (crossV a1 a2 b1 b2 x y == 0) = true := by simp [hz]
    have hr : (decide (crossV a1 a2 b1 b2 x y = 0) && btwB a1 a2 b1 b2 x y) = btwB a1 a2 b1 b2 x y := by simp [hz]
    rw [hr]
    clear hr hz
    obtain ⟨la1, ua1⟩ := ha1
    obtain ⟨la2, ua2⟩ := ha2
    obtain ⟨lb1, ub1⟩ := hb1
    obtain ⟨lb2, ub2⟩ := hb2
    obtain ⟨lx, ux⟩ := hx
    obtain ⟨ly, uy⟩ := hy
    go_enter Try.func110, Try.ntmps110
    go_wp2_with (first | (go_at_call 109; refine (spec_cross _ _ _ _ _ _ _ (by omega) (by omega) (by omega) (by omega) (by omega) (by omega)).mono ?_; rintro e w' ⟨rfl, hb⟩; obtain ⟨hc, hf⟩ := bcell hb; have hz0 : w.heap.size < w'.heap.size := (by ((have := hb.size; try simp at this); omega)); have hz1 : w.heap.size + 1 < w'.heap.size := (by ((have := hb.size; try simp at this); omega))) | (go_at_call 122; refine (spec_between _ _ _ _ _ _ _).mono ?_; rintro e w' ⟨rfl, hb⟩; obtain ⟨hc, hf⟩ := bcell hb; have hz0 : w.heap.size < w'.heap.size := (by ((have := hb.size; try simp at this); omega)); have hz1 : w.heap.size + 1 < w'.heap.size := (by ((have := hb.size; try simp at this); omega))))
    all_goals go_ret
    exact ⟨rfl, (by (repeat (first | with_reducible exact Below.refl _ _ | with_reducible refine bl_alloc ?_ _ | with_reducible refine bl_drew ?_ | with_reducible refine bl_set ?_ (by first | (simp; done) | (simp; omega)) _ | with_reducible refine bl_call (by assumption) ?_)))⟩
  · have i1 : (crossV a1 a2 b1 b2 x y == 0) = false := by simp [hz]
    have hr : (decide (crossV a1 a2 b1 b2 x y = 0) && btwB a1 a2 b1 b2 x y) = false := by simp [hz]
    rw [hr]
    clear hr hz
    obtain ⟨la1, ua1⟩ := ha1
    obtain ⟨la2, ua2⟩ := ha2
    obtain ⟨lb1, ub1⟩ := hb1
    obtain ⟨lb2, ub2⟩ := hb2
    obtain ⟨lx, ux⟩ := hx
    obtain ⟨ly, uy⟩ := hy
    go_enter Try.func110, Try.ntmps110
    go_wp2_with (first | (go_at_call 109; refine (spec_cross _ _ _ _ _ _ _ (by omega) (by omega) (by omega) (by omega) (by omega) (by omega)).mono ?_; rintro e w' ⟨rfl, hb⟩; obtain ⟨hc, hf⟩ := bcell hb; have hz0 : w.heap.size < w'.heap.size := (by ((have := hb.size; try simp at this); omega)); have hz1 : w.heap.size + 1 < w'.heap.size := (by ((have := hb.size; try simp at this); omega))) | (go_at_call 122; refine (spec_between _ _ _ _ _ _ _).mono ?_; rintro e w' ⟨rfl, hb⟩; obtain ⟨hc, hf⟩ := bcell hb; have hz0 : w.heap.size < w'.heap.size := (by ((have := hb.size; try simp at this); omega)); have hz1 : w.heap.size + 1 < w'.heap.size := (by ((have := hb.size; try simp at this); omega))))
    all_goals go_ret
    exact ⟨rfl, (by (repeat (first | with_reducible exact Below.refl _ _ | with_reducible refine bl_alloc ?_ _ | with_reducible refine bl_drew ?_ | with_reducible refine bl_set ?_ (by first | (simp; done) | (simp; omega)) _ | with_reducible refine bl_call (by assumption) ?_)))⟩

set_option maxHeartbeats 2000000 in
theorem impl_Segment_has (a1 : Int) (a2 : Int) (b1 : Int) (b2 : Int) (x : Int) (y : Int) (w : World) (ha1 : -1000 ≤ a1 ∧ a1 ≤ 1000) (ha2 : -1000 ≤ a2 ∧ a2 ≤ 1000) (hb1 : -1000 ≤ b1 ∧ b1 ≤ 1000) (hb2 : -1000 ≤ b2 ∧ b2 ≤ 1000) (hx : -1000 ≤ x ∧ x ≤ 1000) (hy : -1000 ≤ y ∧ y ≤ 1000) :
    Calls Try.prog 113 #[.agg #[.int .i64 a1, .int .i64 a2, .int .i64 b1, .int .i64 b2], .agg #[.int .i64 x, .int .i64 y]] w fun e w' => e = .returned (.bool (hasB a1 a2 b1 b2 x y)) ∧ Below w.heap.size w w' := by
  by_cases hz : crossV a1 a2 b1 b2 x y = 0
  · have i1 : (crossV a1 a2 b1 b2 x y == 0) = true := by simp [hz]
    have hr : hasB a1 a2 b1 b2 x y = decide (dotW a1 a2 b1 b2 x y ≤ 0) := by unfold hasB; rw [decide_eq_true hz]; rfl
    rw [hr]
    clear hr hz
    obtain ⟨la1, ua1⟩ := ha1
    obtain ⟨la2, ua2⟩ := ha2
    obtain ⟨lb1, ub1⟩ := hb1
    obtain ⟨lb2, ub2⟩ := hb2
    obtain ⟨lx, ux⟩ := hx
    obtain ⟨ly, uy⟩ := hy
    have fc0 : ((w.alloc (Obj.cells #[.int .i64 a1, .int .i64 a2, .int .i64 b1, .int .i64 b2] 114)).alloc (Obj.cells #[.int .i64 x, .int .i64 y] 40)).cell? ⟨w.heap.size, 0, none⟩ = some (.int .i64 a1) := by simp [go_sem]
    have fc1 : ((w.alloc (Obj.cells #[.int .i64 a1, .int .i64 a2, .int .i64 b1, .int .i64 b2] 114)).alloc (Obj.cells #[.int .i64 x, .int .i64 y] 40)).cell? ⟨w.heap.size, 1, none⟩ = some (.int .i64 a2) := by simp [go_sem]
    have fc2 : ((w.alloc (Obj.cells #[.int .i64 a1, .int .i64 a2, .int .i64 b1, .int .i64 b2] 114)).alloc (Obj.cells #[.int .i64 x, .int .i64 y] 40)).cell? ⟨w.heap.size, 2, none⟩ = some (.int .i64 b1) := by simp [go_sem]
    have fc3 : ((w.alloc (Obj.cells #[.int .i64 a1, .int .i64 a2, .int .i64 b1, .int .i64 b2] 114)).alloc (Obj.cells #[.int .i64 x, .int .i64 y] 40)).cell? ⟨w.heap.size, 3, none⟩ = some (.int .i64 b2) := by simp [go_sem]
    have fc4 : ((w.alloc (Obj.cells #[.int .i64 a1, .int .i64 a2, .int .i64 b1, .int .i64 b2] 114)).alloc (Obj.cells #[.int .i64 x, .int .i64 y] 40)).cell? ⟨w.heap.size + 1, 0, none⟩ = some (.int .i64 x) := by simp [go_sem]
    have fc5 : ((w.alloc (Obj.cells #[.int .i64 a1, .int .i64 a2, .int .i64 b1, .int .i64 b2] 114)).alloc (Obj.cells #[.int .i64 x, .int .i64 y] 40)).cell? ⟨w.heap.size + 1, 1, none⟩ = some (.int .i64 y) := by simp [go_sem]
    go_enter Try.func113, Try.ntmps113
    go_wp2
    have k0 := cell_regrown fc0
    have k1 := cell_regrown fc1
    have k2 := cell_regrown fc2
    have k3 := cell_regrown fc3
    have k4 := cell_regrown fc4
    have k5 := cell_regrown fc5
    clear fc0 fc1 fc2 fc3 fc4 fc5
    refine wp_region_quiet_below (by kernel_rfl) (by kernel_rfl) ?_
    repeat (go_big_quiet_step ((first | (go_at_call 87; exact Calls.regrown_of (impl_turn _ _ _ _ _ _ _ (by omega) (by omega) (by omega) (by omega) (by omega) (by omega))) | (go_at_call 114; exact Calls.regrown_of (impl_Point_minus _ _ _ _ _ (by omega) (by omega) (by omega) (by omega))) | (go_at_call 115; exact Calls.regrown_of (impl_Point_dot _ _ _ _ _ (by omega) (by omega) (by omega) (by omega))))))
    refine wpQuiet_nil ?_
    intro _ hw'
    obtain ⟨⟨dq, osq⟩, hw''⟩ := hw'
    subst hw''
    go_wp2
    go_ret
    exact ⟨rfl, bl_call (below_regrown _ dq osq) (by (repeat (first | with_reducible exact Below.refl _ _ | with_reducible refine bl_alloc ?_ _ | with_reducible refine bl_drew ?_ | with_reducible refine bl_set ?_ (by first | (simp; done) | (simp; omega)) _ | with_reducible refine bl_call (by assumption) ?_)))⟩
  · have i1 : (crossV a1 a2 b1 b2 x y == 0) = false := by simp [hz]
    have hr : hasB a1 a2 b1 b2 x y = false := by simp [hasB, hz]
    rw [hr]
    clear hr hz
    obtain ⟨la1, ua1⟩ := ha1
    obtain ⟨la2, ua2⟩ := ha2
    obtain ⟨lb1, ub1⟩ := hb1
    obtain ⟨lb2, ub2⟩ := hb2
    obtain ⟨lx, ux⟩ := hx
    obtain ⟨ly, uy⟩ := hy
    have fc0 : ((w.alloc (Obj.cells #[.int .i64 a1, .int .i64 a2, .int .i64 b1, .int .i64 b2] 114)).alloc (Obj.cells #[.int .i64 x, .int .i64 y] 40)).cell? ⟨w.heap.size, 0, none⟩ = some (.int .i64 a1) := by simp [go_sem]
    have fc1 : ((w.alloc (Obj.cells #[.int .i64 a1, .int .i64 a2, .int .i64 b1, .int .i64 b2] 114)).alloc (Obj.cells #[.int .i64 x, .int .i64 y] 40)).cell? ⟨w.heap.size, 1, none⟩ = some (.int .i64 a2) := by simp [go_sem]
    have fc2 : ((w.alloc (Obj.cells #[.int .i64 a1, .int .i64 a2, .int .i64 b1, .int .i64 b2] 114)).alloc (Obj.cells #[.int .i64 x, .int .i64 y] 40)).cell? ⟨w.heap.size, 2, none⟩ = some (.int .i64 b1) := by simp [go_sem]
    have fc3 : ((w.alloc (Obj.cells #[.int .i64 a1, .int .i64 a2, .int .i64 b1, .int .i64 b2] 114)).alloc (Obj.cells #[.int .i64 x, .int .i64 y] 40)).cell? ⟨w.heap.size, 3, none⟩ = some (.int .i64 b2) := by simp [go_sem]
    have fc4 : ((w.alloc (Obj.cells #[.int .i64 a1, .int .i64 a2, .int .i64 b1, .int .i64 b2] 114)).alloc (Obj.cells #[.int .i64 x, .int .i64 y] 40)).cell? ⟨w.heap.size + 1, 0, none⟩ = some (.int .i64 x) := by simp [go_sem]
    have fc5 : ((w.alloc (Obj.cells #[.int .i64 a1, .int .i64 a2, .int .i64 b1, .int .i64 b2] 114)).alloc (Obj.cells #[.int .i64 x, .int .i64 y] 40)).cell? ⟨w.heap.size + 1, 1, none⟩ = some (.int .i64 y) := by simp [go_sem]
    go_enter Try.func113, Try.ntmps113
    go_wp2
    have k0 := cell_regrown fc0
    have k1 := cell_regrown fc1
    have k2 := cell_regrown fc2
    have k3 := cell_regrown fc3
    have k4 := cell_regrown fc4
    have k5 := cell_regrown fc5
    clear fc0 fc1 fc2 fc3 fc4 fc5
    refine wp_region_quiet_below (by kernel_rfl) (by kernel_rfl) ?_
    repeat (go_big_quiet_step ((first | (go_at_call 87; exact Calls.regrown_of (impl_turn _ _ _ _ _ _ _ (by omega) (by omega) (by omega) (by omega) (by omega) (by omega))) | (go_at_call 114; exact Calls.regrown_of (impl_Point_minus _ _ _ _ _ (by omega) (by omega) (by omega) (by omega))) | (go_at_call 115; exact Calls.regrown_of (impl_Point_dot _ _ _ _ _ (by omega) (by omega) (by omega) (by omega))))))
    refine wpQuiet_nil ?_
    intro _ hw'
    obtain ⟨⟨dq, osq⟩, hw''⟩ := hw'
    subst hw''
    go_wp2
    go_ret
    exact ⟨rfl, bl_call (below_regrown _ dq osq) (by (repeat (first | with_reducible exact Below.refl _ _ | with_reducible refine bl_alloc ?_ _ | with_reducible refine bl_drew ?_ | with_reducible refine bl_set ?_ (by first | (simp; done) | (simp; omega)) _ | with_reducible refine bl_call (by assumption) ?_)))⟩

end Go.Proofs.Ytbhcodmpcknllaa
