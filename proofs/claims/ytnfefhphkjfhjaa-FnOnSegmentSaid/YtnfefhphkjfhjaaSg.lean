/- Contracts of functions that this seat's statements reach: each is shown to compute a plain Lean function, and to leave what was there as it was. No conditions but those in each theorem. -/
import Derived.Test.YtnfefhphkjfhjaaGeo
namespace Go.Proofs.Ytnfefhphkjfhjaa
open Go.RowKit
set_option linter.unusedVariables false

open Go.Sort

set_option maxHeartbeats 1000000 in
theorem spec_validSegment (a1 : Int) (a2 : Int) (b1 : Int) (b2 : Int) (w : World) :
    Calls Try.prog 71 #[.agg #[.int .i64 a1, .int .i64 a2, .int .i64 b1, .int .i64 b2]] w fun e w' => e = .returned (.bool (segB a1 a2 b1 b2)) ∧ Below w.heap.size w w' := by
  cases qa : ptB a1 a2 with
  | false =>
    have hr : segB a1 a2 b1 b2 = false := by simp [segB, v2B, qa]
    rw [hr]
    clear hr
    have hv : v2B a1 a2 b1 b2 = false := by simp [v2B, qa]
    go_enter Try.func71, Try.ntmps71
    go_wp2_with (first | (go_at_call 52; refine (spec_validPoint _ _ _).mono ?_; rintro e w' ⟨rfl, hb⟩; obtain ⟨hc, hf⟩ := bcell hb; have hz0 : w.heap.size < w'.heap.size := (by ((have := hb.size; try simp at this); omega))))
    go_ret
    exact ⟨rfl, (by (repeat (first | with_reducible exact Below.refl _ _ | with_reducible refine bl_alloc ?_ _ | with_reducible refine bl_drew ?_ | with_reducible refine bl_set ?_ (by first | (simp; done) | (simp; omega)) _ | with_reducible refine bl_call (by assumption) ?_)))⟩
  | true =>
    cases qb : ptB b1 b2 with
    | false =>
      have hr : segB a1 a2 b1 b2 = false := by simp [segB, v2B, qa, qb]
      rw [hr]
      clear hr
      have hv : v2B a1 a2 b1 b2 = false := by simp [v2B, qa, qb]
      go_enter Try.func71, Try.ntmps71
      go_wp2_with (first | (go_at_call 52; refine (spec_validPoint _ _ _).mono ?_; rintro e w' ⟨rfl, hb⟩; obtain ⟨hc, hf⟩ := bcell hb; have hz0 : w.heap.size < w'.heap.size := (by ((have := hb.size; try simp at this); omega))))
      go_ret
      exact ⟨rfl, (by (repeat (first | with_reducible exact Below.refl _ _ | with_reducible refine bl_alloc ?_ _ | with_reducible refine bl_drew ?_ | with_reducible refine bl_set ?_ (by first | (simp; done) | (simp; omega)) _ | with_reducible refine bl_call (by assumption) ?_)))⟩
    | true =>
      by_cases e1 : a1 = b1
      · by_cases e2 : a2 = b2
        · subst e1 e2
          have hr : segB a1 a2 a1 a2 = false := by simp [segB]
          rw [hr]
          clear hr
          have hv : v2B a1 a2 a1 a2 = true := by simp [v2B, qa]
          go_enter Try.func71, Try.ntmps71
          go_wp2_with (first | (go_at_call 52; refine (spec_validPoint _ _ _).mono ?_; rintro e w' ⟨rfl, hb⟩; obtain ⟨hc, hf⟩ := bcell hb; have hz0 : w.heap.size < w'.heap.size := (by ((have := hb.size; try simp at this); omega))))
          go_ret
          exact ⟨rfl, (by (repeat (first | with_reducible exact Below.refl _ _ | with_reducible refine bl_alloc ?_ _ | with_reducible refine bl_drew ?_ | with_reducible refine bl_set ?_ (by first | (simp; done) | (simp; omega)) _ | with_reducible refine bl_call (by assumption) ?_)))⟩
        · subst e1
          have hr : segB a1 a2 a1 b2 = true := by simp [segB, v2B, qa, qb, e2]
          rw [hr]
          clear hr
          have d2 : (a2 == b2) = false := by simpa using e2
          have hv : v2B a1 a2 a1 b2 = true := by simp [v2B, qa, qb]
          go_enter Try.func71, Try.ntmps71
          go_wp2_with (first | (go_at_call 52; refine (spec_validPoint _ _ _).mono ?_; rintro e w' ⟨rfl, hb⟩; obtain ⟨hc, hf⟩ := bcell hb; have hz0 : w.heap.size < w'.heap.size := (by ((have := hb.size; try simp at this); omega))))
          go_ret
          exact ⟨rfl, (by (repeat (first | with_reducible exact Below.refl _ _ | with_reducible refine bl_alloc ?_ _ | with_reducible refine bl_drew ?_ | with_reducible refine bl_set ?_ (by first | (simp; done) | (simp; omega)) _ | with_reducible refine bl_call (by assumption) ?_)))⟩
      · have hr : segB a1 a2 b1 b2 = true := by simp [segB, v2B, qa, qb, e1]
        rw [hr]
        clear hr
        have d1 : (a1 == b1) = false := by simpa using e1
        have hv : v2B a1 a2 b1 b2 = true := by simp [v2B, qa, qb]
        go_enter Try.func71, Try.ntmps71
        go_wp2_with (first | (go_at_call 52; refine (spec_validPoint _ _ _).mono ?_; rintro e w' ⟨rfl, hb⟩; obtain ⟨hc, hf⟩ := bcell hb; have hz0 : w.heap.size < w'.heap.size := (by ((have := hb.size; try simp at this); omega))))
        go_ret
        exact ⟨rfl, (by (repeat (first | with_reducible exact Below.refl _ _ | with_reducible refine bl_alloc ?_ _ | with_reducible refine bl_drew ?_ | with_reducible refine bl_set ?_ (by first | (simp; done) | (simp; omega)) _ | with_reducible refine bl_call (by assumption) ?_)))⟩

set_option maxHeartbeats 1000000 in
theorem impl_Segment_valid (a1 : Int) (a2 : Int) (b1 : Int) (b2 : Int) (w : World) :
    Calls Try.prog 69 #[.agg #[.int .i64 a1, .int .i64 a2, .int .i64 b1, .int .i64 b2]] w fun e w' => e = .returned (.bool (segB a1 a2 b1 b2)) ∧ Below w.heap.size w w' := by
  cases qa : ptB a1 a2 with
  | false =>
    have hr : segB a1 a2 b1 b2 = false := by simp [segB, v2B, qa]
    rw [hr]
    clear hr
    have hv : v2B a1 a2 b1 b2 = false := by simp [v2B, qa]
    go_enter Try.func69, Try.ntmps69
    go_wp2_with (first | (go_at_call 50; refine (impl_allValid2 _ _ a1 a2 b1 b2 _ (by simp) ⟨by simp [go_sem], by simp [go_sem], by simp [go_sem], by simp [go_sem]⟩).mono ?_; rintro e w' ⟨rfl, hb⟩; obtain ⟨hc, hf⟩ := bcell hb; have hz0 : w.heap.size < w'.heap.size := (by ((have := hb.size; try simp at this); omega))))
    go_ret
    exact ⟨rfl, (by (repeat (first | with_reducible exact Below.refl _ _ | with_reducible refine bl_alloc ?_ _ | with_reducible refine bl_drew ?_ | with_reducible refine bl_set ?_ (by first | (simp; done) | (simp; omega)) _ | with_reducible refine bl_call (by assumption) ?_)))⟩
  | true =>
    cases qb : ptB b1 b2 with
    | false =>
      have hr : segB a1 a2 b1 b2 = false := by simp [segB, v2B, qa, qb]
      rw [hr]
      clear hr
      have hv : v2B a1 a2 b1 b2 = false := by simp [v2B, qa, qb]
      go_enter Try.func69, Try.ntmps69
      go_wp2_with (first | (go_at_call 50; refine (impl_allValid2 _ _ a1 a2 b1 b2 _ (by simp) ⟨by simp [go_sem], by simp [go_sem], by simp [go_sem], by simp [go_sem]⟩).mono ?_; rintro e w' ⟨rfl, hb⟩; obtain ⟨hc, hf⟩ := bcell hb; have hz0 : w.heap.size < w'.heap.size := (by ((have := hb.size; try simp at this); omega))))
      go_ret
      exact ⟨rfl, (by (repeat (first | with_reducible exact Below.refl _ _ | with_reducible refine bl_alloc ?_ _ | with_reducible refine bl_drew ?_ | with_reducible refine bl_set ?_ (by first | (simp; done) | (simp; omega)) _ | with_reducible refine bl_call (by assumption) ?_)))⟩
    | true =>
      by_cases e1 : a1 = b1
      · by_cases e2 : a2 = b2
        · subst e1 e2
          have hr : segB a1 a2 a1 a2 = false := by simp [segB]
          rw [hr]
          clear hr
          have hv : v2B a1 a2 a1 a2 = true := by simp [v2B, qa]
          go_enter Try.func69, Try.ntmps69
          go_wp2_with (first | (go_at_call 50; refine (impl_allValid2 _ _ a1 a2 a1 a2 _ (by simp) ⟨by simp [go_sem], by simp [go_sem], by simp [go_sem], by simp [go_sem]⟩).mono ?_; rintro e w' ⟨rfl, hb⟩; obtain ⟨hc, hf⟩ := bcell hb; have hz0 : w.heap.size < w'.heap.size := (by ((have := hb.size; try simp at this); omega))))
          go_ret
          exact ⟨rfl, (by (repeat (first | with_reducible exact Below.refl _ _ | with_reducible refine bl_alloc ?_ _ | with_reducible refine bl_drew ?_ | with_reducible refine bl_set ?_ (by first | (simp; done) | (simp; omega)) _ | with_reducible refine bl_call (by assumption) ?_)))⟩
        · subst e1
          have hr : segB a1 a2 a1 b2 = true := by simp [segB, v2B, qa, qb, e2]
          rw [hr]
          clear hr
          have d2 : (a2 == b2) = false := by simpa using e2
          have hv : v2B a1 a2 a1 b2 = true := by simp [v2B, qa, qb]
          go_enter Try.func69, Try.ntmps69
          go_wp2_with (first | (go_at_call 50; refine (impl_allValid2 _ _ a1 a2 a1 b2 _ (by simp) ⟨by simp [go_sem], by simp [go_sem], by simp [go_sem], by simp [go_sem]⟩).mono ?_; rintro e w' ⟨rfl, hb⟩; obtain ⟨hc, hf⟩ := bcell hb; have hz0 : w.heap.size < w'.heap.size := (by ((have := hb.size; try simp at this); omega))))
          go_ret
          exact ⟨rfl, (by (repeat (first | with_reducible exact Below.refl _ _ | with_reducible refine bl_alloc ?_ _ | with_reducible refine bl_drew ?_ | with_reducible refine bl_set ?_ (by first | (simp; done) | (simp; omega)) _ | with_reducible refine bl_call (by assumption) ?_)))⟩
      · have hr : segB a1 a2 b1 b2 = true := by simp [segB, v2B, qa, qb, e1]
        rw [hr]
        clear hr
        have d1 : (a1 == b1) = false := by simpa using e1
        have hv : v2B a1 a2 b1 b2 = true := by simp [v2B, qa, qb]
        go_enter Try.func69, Try.ntmps69
        go_wp2_with (first | (go_at_call 50; refine (impl_allValid2 _ _ a1 a2 b1 b2 _ (by simp) ⟨by simp [go_sem], by simp [go_sem], by simp [go_sem], by simp [go_sem]⟩).mono ?_; rintro e w' ⟨rfl, hb⟩; obtain ⟨hc, hf⟩ := bcell hb; have hz0 : w.heap.size < w'.heap.size := (by ((have := hb.size; try simp at this); omega))))
        go_ret
        exact ⟨rfl, (by (repeat (first | with_reducible exact Below.refl _ _ | with_reducible refine bl_alloc ?_ _ | with_reducible refine bl_drew ?_ | with_reducible refine bl_set ?_ (by first | (simp; done) | (simp; omega)) _ | with_reducible refine bl_call (by assumption) ?_)))⟩

theorem impl_ValidSegment (a1 : Int) (a2 : Int) (b1 : Int) (b2 : Int) (w : World) :
    Calls Try.prog 41 #[.agg #[.int .i64 a1, .int .i64 a2, .int .i64 b1, .int .i64 b2]] w fun e w' => e = .returned (.bool (segB a1 a2 b1 b2)) ∧ Below w.heap.size w w' := by
  go_enter Try.func41, Try.ntmps41
  go_wp2_with (first | (go_at_call 69; refine (impl_Segment_valid _ _ _ _ _).mono ?_; rintro e w' ⟨rfl, hb⟩; obtain ⟨hc, hf⟩ := bcell hb; have hz0 : w.heap.size < w'.heap.size := (by ((have := hb.size; try simp at this); omega))))
  all_goals go_ret
  all_goals exact ⟨rfl, (by (repeat (first | with_reducible exact Below.refl _ _ | with_reducible refine bl_alloc ?_ _ | with_reducible refine bl_drew ?_ | with_reducible refine bl_set ?_ (by first | (simp; done) | (simp; omega)) _ | with_reducible refine bl_call (by assumption) ?_)))⟩

end Go.Proofs.Ytnfefhphkjfhjaa
