/- Contracts of functions that this seat's statements reach: each is shown to compute a plain Lean function, and to leave what was there as it was. No conditions but those in each theorem. -/
import Derived.Test.YtkhocfoggjdccaaGeo
namespace Go.Proofs.Ytkhocfoggjdccaa
open Go.RowKit
set_option linter.unusedVariables false

open Go.Sort

set_option maxHeartbeats 1000000 in
theorem laws_toSegment (a1 : Int) (a2 : Int) (b1 : Int) (b2 : Int) (w : World) :
    Calls Try.prog 41 #[.agg #[.int .i64 a1, .int .i64 a2, .int .i64 b1, .int .i64 b2]] w fun e w' => e = .returned (.agg #[.int .i64 a1, .int .i64 a2, .int .i64 b1, .int .i64 b2]) ∧ Below w.heap.size w w' := by
  go_enter Try.func41, Try.ntmps41
  go_wp2_with fail
  refine (laws_toPoint _ _ _).mono ?_
  rintro e w1 ⟨rfl, hb1⟩
  obtain ⟨hc1, hf1⟩ := bcell hb1
  have s1 := hb1.size
  try simp at s1
  have z1_0 : w.heap.size < w1.heap.size := by omega
  have z1_1 : w.heap.size + 1 < w1.heap.size := by omega
  have z1_2 : w.heap.size + 1 + 1 < w1.heap.size := by omega
  go_wp2_with fail
  refine (laws_toPoint _ _ _).mono ?_
  rintro e w2 ⟨rfl, hb2⟩
  obtain ⟨hc2, hf2⟩ := bcell hb2
  have s2 := hb2.size
  try simp at s2
  have z2_0 : w.heap.size < w2.heap.size := by omega
  have z2_1 : w.heap.size + 1 < w2.heap.size := by omega
  have z2_2 : w.heap.size + 1 + 1 < w2.heap.size := by omega
  go_wp2
  refine bodyPost_ret (v := .agg #[.int .i64 a1, .int .i64 a2, .int .i64 b1, .int .i64 b2]) (by simp [results, Try.results41, go_sem, *]) rfl ⟨rfl, ?_⟩
  (repeat (first | with_reducible exact Below.refl _ _ | with_reducible refine bl_alloc ?_ _ | with_reducible refine bl_drew ?_ | with_reducible refine bl_set ?_ (by first | (simp; done) | (simp; omega)) _ | with_reducible refine bl_call (by assumption) ?_))

set_option maxHeartbeats 1000000 in
theorem spec_validSegment (a1 : Int) (a2 : Int) (b1 : Int) (b2 : Int) (w : World) :
    Calls Try.prog 72 #[.agg #[.int .i64 a1, .int .i64 a2, .int .i64 b1, .int .i64 b2]] w fun e w' => e = .returned (.bool (segB a1 a2 b1 b2)) ∧ Below w.heap.size w w' := by
  cases qa : ptB a1 a2 with
  | false =>
    have hr : segB a1 a2 b1 b2 = false := by simp [segB, v2B, qa]
    rw [hr]
    clear hr
    have hv : v2B a1 a2 b1 b2 = false := by simp [v2B, qa]
    go_enter Try.func72, Try.ntmps72
    go_wp2_with (first | (go_at_call 73; refine (spec_validPoint _ _ _).mono ?_; rintro e w' ⟨rfl, hb⟩; obtain ⟨hc, hf⟩ := bcell hb; have hz0 : w.heap.size < w'.heap.size := (by ((have := hb.size; try simp at this); omega))))
    go_ret
    exact ⟨rfl, (by (repeat (first | with_reducible exact Below.refl _ _ | with_reducible refine bl_alloc ?_ _ | with_reducible refine bl_drew ?_ | with_reducible refine bl_set ?_ (by first | (simp; done) | (simp; omega)) _ | with_reducible refine bl_call (by assumption) ?_)))⟩
  | true =>
    cases qb : ptB b1 b2 with
    | false =>
      have hr : segB a1 a2 b1 b2 = false := by simp [segB, v2B, qa, qb]
      rw [hr]
      clear hr
      have hv : v2B a1 a2 b1 b2 = false := by simp [v2B, qa, qb]
      go_enter Try.func72, Try.ntmps72
      go_wp2_with (first | (go_at_call 73; refine (spec_validPoint _ _ _).mono ?_; rintro e w' ⟨rfl, hb⟩; obtain ⟨hc, hf⟩ := bcell hb; have hz0 : w.heap.size < w'.heap.size := (by ((have := hb.size; try simp at this); omega))))
      go_ret
      exact ⟨rfl, (by (repeat (first | with_reducible exact Below.refl _ _ | with_reducible refine bl_alloc ?_ _ | with_reducible refine bl_drew ?_ | with_reducible refine bl_set ?_ (by first | (simp; done) | (simp; omega)) _ | with_reducible refine bl_call (by assumption) ?_)))⟩
    | true =>
      by_cases e1 : a1 = b1
      · by_cases e2 : a2 = b2
        · subst e1 e2
          have hr : segB a1 a2 a1 a2 = false := by simp [segB]
          rw [hr]
          clear hr
          have hv : v2B a1 a2 a1 a2 = true := by simp [v2B, qa]
          go_enter Try.func72, Try.ntmps72
          go_wp2_with (first | (go_at_call 73; refine (spec_validPoint _ _ _).mono ?_; rintro e w' ⟨rfl, hb⟩; obtain ⟨hc, hf⟩ := bcell hb; have hz0 : w.heap.size < w'.heap.size := (by ((have := hb.size; try simp at this); omega))))
          go_ret
          exact ⟨rfl, (by (repeat (first | with_reducible exact Below.refl _ _ | with_reducible refine bl_alloc ?_ _ | with_reducible refine bl_drew ?_ | with_reducible refine bl_set ?_ (by first | (simp; done) | (simp; omega)) _ | with_reducible refine bl_call (by assumption) ?_)))⟩
        · subst e1
          have hr : segB a1 a2 a1 b2 = true := by simp [segB, v2B, qa, qb, e2]
          rw [hr]
          clear hr
          have d2 : (a2 == b2) = false := by simpa using e2
          have hv : v2B a1 a2 a1 b2 = true := by simp [v2B, qa, qb]
          go_enter Try.func72, Try.ntmps72
          go_wp2_with (first | (go_at_call 73; refine (spec_validPoint _ _ _).mono ?_; rintro e w' ⟨rfl, hb⟩; obtain ⟨hc, hf⟩ := bcell hb; have hz0 : w.heap.size < w'.heap.size := (by ((have := hb.size; try simp at this); omega))))
          go_ret
          exact ⟨rfl, (by (repeat (first | with_reducible exact Below.refl _ _ | with_reducible refine bl_alloc ?_ _ | with_reducible refine bl_drew ?_ | with_reducible refine bl_set ?_ (by first | (simp; done) | (simp; omega)) _ | with_reducible refine bl_call (by assumption) ?_)))⟩
      · have hr : segB a1 a2 b1 b2 = true := by simp [segB, v2B, qa, qb, e1]
        rw [hr]
        clear hr
        have d1 : (a1 == b1) = false := by simpa using e1
        have hv : v2B a1 a2 b1 b2 = true := by simp [v2B, qa, qb]
        go_enter Try.func72, Try.ntmps72
        go_wp2_with (first | (go_at_call 73; refine (spec_validPoint _ _ _).mono ?_; rintro e w' ⟨rfl, hb⟩; obtain ⟨hc, hf⟩ := bcell hb; have hz0 : w.heap.size < w'.heap.size := (by ((have := hb.size; try simp at this); omega))))
        go_ret
        exact ⟨rfl, (by (repeat (first | with_reducible exact Below.refl _ _ | with_reducible refine bl_alloc ?_ _ | with_reducible refine bl_drew ?_ | with_reducible refine bl_set ?_ (by first | (simp; done) | (simp; omega)) _ | with_reducible refine bl_call (by assumption) ?_)))⟩

set_option maxHeartbeats 1000000 in
theorem impl_Segment_valid (a1 : Int) (a2 : Int) (b1 : Int) (b2 : Int) (w : World) :
    Calls Try.prog 76 #[.agg #[.int .i64 a1, .int .i64 a2, .int .i64 b1, .int .i64 b2]] w fun e w' => e = .returned (.bool (segB a1 a2 b1 b2)) ∧ Below w.heap.size w w' := by
  cases qa : ptB a1 a2 with
  | false =>
    have hr : segB a1 a2 b1 b2 = false := by simp [segB, v2B, qa]
    rw [hr]
    clear hr
    have hv : v2B a1 a2 b1 b2 = false := by simp [v2B, qa]
    go_enter Try.func76, Try.ntmps76
    go_wp2_with (first | (go_at_call 94; refine (impl_allValid2 _ _ a1 a2 b1 b2 _ (by simp) ⟨by simp [go_sem], by simp [go_sem], by simp [go_sem], by simp [go_sem]⟩).mono ?_; rintro e w' ⟨rfl, hb⟩; obtain ⟨hc, hf⟩ := bcell hb; have hz0 : w.heap.size < w'.heap.size := (by ((have := hb.size; try simp at this); omega))))
    go_ret
    exact ⟨rfl, (by (repeat (first | with_reducible exact Below.refl _ _ | with_reducible refine bl_alloc ?_ _ | with_reducible refine bl_drew ?_ | with_reducible refine bl_set ?_ (by first | (simp; done) | (simp; omega)) _ | with_reducible refine bl_call (by assumption) ?_)))⟩
  | true =>
    cases qb : ptB b1 b2 with
    | false =>
      have hr : segB a1 a2 b1 b2 = false := by simp [segB, v2B, qa, qb]
      rw [hr]
      clear hr
      have hv : v2B a1 a2 b1 b2 = false := by simp [v2B, qa, qb]
      go_enter Try.func76, Try.ntmps76
      go_wp2_with (first | (go_at_call 94; refine (impl_allValid2 _ _ a1 a2 b1 b2 _ (by simp) ⟨by simp [go_sem], by simp [go_sem], by simp [go_sem], by simp [go_sem]⟩).mono ?_; rintro e w' ⟨rfl, hb⟩; obtain ⟨hc, hf⟩ := bcell hb; have hz0 : w.heap.size < w'.heap.size := (by ((have := hb.size; try simp at this); omega))))
      go_ret
      exact ⟨rfl, (by (repeat (first | with_reducible exact Below.refl _ _ | with_reducible refine bl_alloc ?_ _ | with_reducible refine bl_drew ?_ | with_reducible refine bl_set ?_ (by first | (simp; done) | (simp; omega)) _ | with_reducible refine bl_call (by assumption) ?_)))⟩
    | true =>
      by_cases e1 : a1 = b1
      · by_cases e2 : a2 = b2
        · subst e1 e2
          have hr : segB a1 a2 a1 a2 = false := by simp [segB]
          rw [hr]
          clear hr
          have hv : v2B a1 a2 a1 a2 = true := by simp [v2B, qa]
          go_enter Try.func76, Try.ntmps76
          go_wp2_with (first | (go_at_call 94; refine (impl_allValid2 _ _ a1 a2 a1 a2 _ (by simp) ⟨by simp [go_sem], by simp [go_sem], by simp [go_sem], by simp [go_sem]⟩).mono ?_; rintro e w' ⟨rfl, hb⟩; obtain ⟨hc, hf⟩ := bcell hb; have hz0 : w.heap.size < w'.heap.size := (by ((have := hb.size; try simp at this); omega))))
          go_ret
          exact ⟨rfl, (by (repeat (first | with_reducible exact Below.refl _ _ | with_reducible refine bl_alloc ?_ _ | with_reducible refine bl_drew ?_ | with_reducible refine bl_set ?_ (by first | (simp; done) | (simp; omega)) _ | with_reducible refine bl_call (by assumption) ?_)))⟩
        · subst e1
          have hr : segB a1 a2 a1 b2 = true := by simp [segB, v2B, qa, qb, e2]
          rw [hr]
          clear hr
          have d2 : (a2 == b2) = false := by simpa using e2
          have hv : v2B a1 a2 a1 b2 = true := by simp [v2B, qa, qb]
          go_enter Try.func76, Try.ntmps76
          go_wp2_with (first | (go_at_call 94; refine (impl_allValid2 _ _ a1 a2 a1 b2 _ (by simp) ⟨by simp [go_sem], by simp [go_sem], by simp [go_sem], by simp [go_sem]⟩).mono ?_; rintro e w' ⟨rfl, hb⟩; obtain ⟨hc, hf⟩ := bcell hb; have hz0 : w.heap.size < w'.heap.size := (by ((have := hb.size; try simp at this); omega))))
          go_ret
          exact ⟨rfl, (by (repeat (first | with_reducible exact Below.refl _ _ | with_reducible refine bl_alloc ?_ _ | with_reducible refine bl_drew ?_ | with_reducible refine bl_set ?_ (by first | (simp; done) | (simp; omega)) _ | with_reducible refine bl_call (by assumption) ?_)))⟩
      · have hr : segB a1 a2 b1 b2 = true := by simp [segB, v2B, qa, qb, e1]
        rw [hr]
        clear hr
        have d1 : (a1 == b1) = false := by simpa using e1
        have hv : v2B a1 a2 b1 b2 = true := by simp [v2B, qa, qb]
        go_enter Try.func76, Try.ntmps76
        go_wp2_with (first | (go_at_call 94; refine (impl_allValid2 _ _ a1 a2 b1 b2 _ (by simp) ⟨by simp [go_sem], by simp [go_sem], by simp [go_sem], by simp [go_sem]⟩).mono ?_; rintro e w' ⟨rfl, hb⟩; obtain ⟨hc, hf⟩ := bcell hb; have hz0 : w.heap.size < w'.heap.size := (by ((have := hb.size; try simp at this); omega))))
        go_ret
        exact ⟨rfl, (by (repeat (first | with_reducible exact Below.refl _ _ | with_reducible refine bl_alloc ?_ _ | with_reducible refine bl_drew ?_ | with_reducible refine bl_set ?_ (by first | (simp; done) | (simp; omega)) _ | with_reducible refine bl_call (by assumption) ?_)))⟩

end Go.Proofs.Ytkhocfoggjdccaa
