/- Contracts of functions that this seat's statements reach: each is shown to compute a plain Lean function, and to leave what was there as it was. No conditions but those in each theorem. -/
import Derived.Test.YtbhcodmpcknllaaTri
namespace Go.Proofs.Ytbhcodmpcknllaa
open Go.RowKit
set_option linter.unusedVariables false

open Go.Sort

theorem spec_InTriangle (aX : Int) (aY : Int) (bX : Int) (bY : Int) (cX : Int) (cY : Int) (x : Int) (y : Int) (w : World) :
    Calls Try.prog 24 #[.agg #[.int .i64 aX, .int .i64 aY], .agg #[.int .i64 bX, .int .i64 bY], .agg #[.int .i64 cX, .int .i64 cY], .agg #[.int .i64 x, .int .i64 y]] w fun e w' => e = .returned (.bool (v4I aX aY bX bY cX cY x y)) ∧ Below w.heap.size w w' := by
  cases qa : ptB aX aY with
  | false =>
    have hv : v4B aX aY bX bY cX cY x y = false := by simp [v4B, qa]
    have hr0 : v4I aX aY bX bY cX cY x y = false := by simp [v4I, hv]
    rw [hr0]
    clear hr0
    go_enter Try.func24, Try.ntmps24
    go_wp2_with (first | (go_at_call 67; refine (spec_validPoint _ _ _).mono ?_; rintro e w' ⟨rfl, hb⟩; obtain ⟨hc, hf⟩ := bcell hb; have hz0 : w.heap.size < w'.heap.size := (by ((have := hb.size; try simp at this); omega)); have hz1 : w.heap.size + 1 < w'.heap.size := (by ((have := hb.size; try simp at this); omega)); have hz2 : w.heap.size + 2 < w'.heap.size := (by ((have := hb.size; try simp at this); omega)); have hz3 : w.heap.size + 3 < w'.heap.size := (by ((have := hb.size; try simp at this); omega))) | (go_at_call 68; refine (spec_inTriangle _ _ _ _ _ _ _ _ _ (by omega) (by omega) (by omega) (by omega) (by omega) (by omega) (by omega) (by omega)).mono ?_; rintro e w' ⟨rfl, hb⟩; obtain ⟨hc, hf⟩ := bcell hb; have hz0 : w.heap.size < w'.heap.size := (by ((have := hb.size; try simp at this); omega)); have hz1 : w.heap.size + 1 < w'.heap.size := (by ((have := hb.size; try simp at this); omega)); have hz2 : w.heap.size + 2 < w'.heap.size := (by ((have := hb.size; try simp at this); omega)); have hz3 : w.heap.size + 3 < w'.heap.size := (by ((have := hb.size; try simp at this); omega))))
    go_ret
    exact ⟨rfl, (by (repeat (first | with_reducible exact Below.refl _ _ | with_reducible refine bl_alloc ?_ _ | with_reducible refine bl_drew ?_ | with_reducible refine bl_set ?_ (by first | (simp; done) | (simp; omega)) _ | with_reducible refine bl_call (by assumption) ?_)))⟩
  | true =>
    cases qb : ptB bX bY with
    | false =>
      have hv : v4B aX aY bX bY cX cY x y = false := by simp [v4B, qa, qb]
      have hr0 : v4I aX aY bX bY cX cY x y = false := by simp [v4I, hv]
      rw [hr0]
      clear hr0
      go_enter Try.func24, Try.ntmps24
      go_wp2_with (first | (go_at_call 67; refine (spec_validPoint _ _ _).mono ?_; rintro e w' ⟨rfl, hb⟩; obtain ⟨hc, hf⟩ := bcell hb; have hz0 : w.heap.size < w'.heap.size := (by ((have := hb.size; try simp at this); omega)); have hz1 : w.heap.size + 1 < w'.heap.size := (by ((have := hb.size; try simp at this); omega)); have hz2 : w.heap.size + 2 < w'.heap.size := (by ((have := hb.size; try simp at this); omega)); have hz3 : w.heap.size + 3 < w'.heap.size := (by ((have := hb.size; try simp at this); omega))) | (go_at_call 68; refine (spec_inTriangle _ _ _ _ _ _ _ _ _ (by omega) (by omega) (by omega) (by omega) (by omega) (by omega) (by omega) (by omega)).mono ?_; rintro e w' ⟨rfl, hb⟩; obtain ⟨hc, hf⟩ := bcell hb; have hz0 : w.heap.size < w'.heap.size := (by ((have := hb.size; try simp at this); omega)); have hz1 : w.heap.size + 1 < w'.heap.size := (by ((have := hb.size; try simp at this); omega)); have hz2 : w.heap.size + 2 < w'.heap.size := (by ((have := hb.size; try simp at this); omega)); have hz3 : w.heap.size + 3 < w'.heap.size := (by ((have := hb.size; try simp at this); omega))))
      go_ret
      exact ⟨rfl, (by (repeat (first | with_reducible exact Below.refl _ _ | with_reducible refine bl_alloc ?_ _ | with_reducible refine bl_drew ?_ | with_reducible refine bl_set ?_ (by first | (simp; done) | (simp; omega)) _ | with_reducible refine bl_call (by assumption) ?_)))⟩
    | true =>
      cases qc : ptB cX cY with
      | false =>
        have hv : v4B aX aY bX bY cX cY x y = false := by simp [v4B, qa, qb, qc]
        have hr0 : v4I aX aY bX bY cX cY x y = false := by simp [v4I, hv]
        rw [hr0]
        clear hr0
        go_enter Try.func24, Try.ntmps24
        go_wp2_with (first | (go_at_call 67; refine (spec_validPoint _ _ _).mono ?_; rintro e w' ⟨rfl, hb⟩; obtain ⟨hc, hf⟩ := bcell hb; have hz0 : w.heap.size < w'.heap.size := (by ((have := hb.size; try simp at this); omega)); have hz1 : w.heap.size + 1 < w'.heap.size := (by ((have := hb.size; try simp at this); omega)); have hz2 : w.heap.size + 2 < w'.heap.size := (by ((have := hb.size; try simp at this); omega)); have hz3 : w.heap.size + 3 < w'.heap.size := (by ((have := hb.size; try simp at this); omega))) | (go_at_call 68; refine (spec_inTriangle _ _ _ _ _ _ _ _ _ (by omega) (by omega) (by omega) (by omega) (by omega) (by omega) (by omega) (by omega)).mono ?_; rintro e w' ⟨rfl, hb⟩; obtain ⟨hc, hf⟩ := bcell hb; have hz0 : w.heap.size < w'.heap.size := (by ((have := hb.size; try simp at this); omega)); have hz1 : w.heap.size + 1 < w'.heap.size := (by ((have := hb.size; try simp at this); omega)); have hz2 : w.heap.size + 2 < w'.heap.size := (by ((have := hb.size; try simp at this); omega)); have hz3 : w.heap.size + 3 < w'.heap.size := (by ((have := hb.size; try simp at this); omega))))
        go_ret
        exact ⟨rfl, (by (repeat (first | with_reducible exact Below.refl _ _ | with_reducible refine bl_alloc ?_ _ | with_reducible refine bl_drew ?_ | with_reducible refine bl_set ?_ (by first | (simp; done) | (simp; omega)) _ | with_reducible refine bl_call (by assumption) ?_)))⟩
      | true =>
        cases qd : ptB x y with
        | false =>
          have hv : v4B aX aY bX bY cX cY x y = false := by simp [v4B, qa, qb, qc, qd]
          have hr0 : v4I aX aY bX bY cX cY x y = false := by simp [v4I, hv]
          rw [hr0]
          clear hr0
          go_enter Try.func24, Try.ntmps24
          go_wp2_with (first | (go_at_call 67; refine (spec_validPoint _ _ _).mono ?_; rintro e w' ⟨rfl, hb⟩; obtain ⟨hc, hf⟩ := bcell hb; have hz0 : w.heap.size < w'.heap.size := (by ((have := hb.size; try simp at this); omega)); have hz1 : w.heap.size + 1 < w'.heap.size := (by ((have := hb.size; try simp at this); omega)); have hz2 : w.heap.size + 2 < w'.heap.size := (by ((have := hb.size; try simp at this); omega)); have hz3 : w.heap.size + 3 < w'.heap.size := (by ((have := hb.size; try simp at this); omega))) | (go_at_call 68; refine (spec_inTriangle _ _ _ _ _ _ _ _ _ (by omega) (by omega) (by omega) (by omega) (by omega) (by omega) (by omega) (by omega)).mono ?_; rintro e w' ⟨rfl, hb⟩; obtain ⟨hc, hf⟩ := bcell hb; have hz0 : w.heap.size < w'.heap.size := (by ((have := hb.size; try simp at this); omega)); have hz1 : w.heap.size + 1 < w'.heap.size := (by ((have := hb.size; try simp at this); omega)); have hz2 : w.heap.size + 2 < w'.heap.size := (by ((have := hb.size; try simp at this); omega)); have hz3 : w.heap.size + 3 < w'.heap.size := (by ((have := hb.size; try simp at this); omega))))
          go_ret
          exact ⟨rfl, (by (repeat (first | with_reducible exact Below.refl _ _ | with_reducible refine bl_alloc ?_ _ | with_reducible refine bl_drew ?_ | with_reducible refine bl_set ?_ (by first | (simp; done) | (simp; omega)) _ | with_reducible refine bl_call (by assumption) ?_)))⟩
        | true =>
          have hv : v4B aX aY bX bY cX cY x y = true := by simp [v4B, qa, qb, qc, qd]
          have hr0 : v4I aX aY bX bY cX cY x y = TriB aX aY bX bY cX cY x y := by simp [v4I, hv]
          rw [hr0]
          clear hr0
          obtain ⟨⟨_, _⟩, ⟨_, _⟩⟩ := ptB_true qa
          obtain ⟨⟨_, _⟩, ⟨_, _⟩⟩ := ptB_true qb
          obtain ⟨⟨_, _⟩, ⟨_, _⟩⟩ := ptB_true qc
          obtain ⟨⟨_, _⟩, ⟨_, _⟩⟩ := ptB_true qd
          go_enter Try.func24, Try.ntmps24
          go_wp2_with (first | (go_at_call 67; refine (spec_validPoint _ _ _).mono ?_; rintro e w' ⟨rfl, hb⟩; obtain ⟨hc, hf⟩ := bcell hb; have hz0 : w.heap.size < w'.heap.size := (by ((have := hb.size; try simp at this); omega)); have hz1 : w.heap.size + 1 < w'.heap.size := (by ((have := hb.size; try simp at this); omega)); have hz2 : w.heap.size + 2 < w'.heap.size := (by ((have := hb.size; try simp at this); omega)); have hz3 : w.heap.size + 3 < w'.heap.size := (by ((have := hb.size; try simp at this); omega))) | (go_at_call 68; refine (spec_inTriangle _ _ _ _ _ _ _ _ _ (by omega) (by omega) (by omega) (by omega) (by omega) (by omega) (by omega) (by omega)).mono ?_; rintro e w' ⟨rfl, hb⟩; obtain ⟨hc, hf⟩ := bcell hb; have hz0 : w.heap.size < w'.heap.size := (by ((have := hb.size; try simp at this); omega)); have hz1 : w.heap.size + 1 < w'.heap.size := (by ((have := hb.size; try simp at this); omega)); have hz2 : w.heap.size + 2 < w'.heap.size := (by ((have := hb.size; try simp at this); omega)); have hz3 : w.heap.size + 3 < w'.heap.size := (by ((have := hb.size; try simp at this); omega))))
          go_ret
          exact ⟨rfl, (by (repeat (first | with_reducible exact Below.refl _ _ | with_reducible refine bl_alloc ?_ _ | with_reducible refine bl_drew ?_ | with_reducible refine bl_set ?_ (by first | (simp; done) | (simp; omega)) _ | with_reducible refine bl_call (by assumption) ?_)))⟩

theorem impl_InTriangle (aX : Int) (aY : Int) (bX : Int) (bY : Int) (cX : Int) (cY : Int) (x : Int) (y : Int) (w : World) :
    Calls Try.prog 26 #[.agg #[.int .i64 aX, .int .i64 aY], .agg #[.int .i64 bX, .int .i64 bY], .agg #[.int .i64 cX, .int .i64 cY], .agg #[.int .i64 x, .int .i64 y]] w fun e w' => e = .returned (.bool (v4I aX aY bX bY cX cY x y)) ∧ Below w.heap.size w w' := by
  cases qa : ptB aX aY with
  | false =>
    have hv : v4B aX aY bX bY cX cY x y = false := by simp [v4B, qa]
    have hr0 : v4I aX aY bX bY cX cY x y = false := by simp [v4I, hv]
    rw [hr0]
    clear hr0
    go_enter Try.func26, Try.ntmps26
    go_wp2_with (first | (go_at_call 69; refine (impl_allValid4 _ _ aX aY bX bY cX cY x y _ (by simp) ⟨by simp [go_sem], by simp [go_sem], by simp [go_sem], by simp [go_sem], by simp [go_sem], by simp [go_sem], by simp [go_sem], by simp [go_sem]⟩).mono ?_; rintro e w' ⟨rfl, hb⟩; obtain ⟨hc, hf⟩ := bcell hb; have hz0 : w.heap.size < w'.heap.size := (by ((have := hb.size; try simp at this); omega)); have hz1 : w.heap.size + 1 < w'.heap.size := (by ((have := hb.size; try simp at this); omega)); have hz2 : w.heap.size + 2 < w'.heap.size := (by ((have := hb.size; try simp at this); omega)); have hz3 : w.heap.size + 3 < w'.heap.size := (by ((have := hb.size; try simp at this); omega))) | (go_at_call 70; refine (impl_inTriangle _ _ _ _ _ _ _ _ _ (by omega) (by omega) (by omega) (by omega) (by omega) (by omega) (by omega) (by omega)).mono ?_; rintro e w' ⟨rfl, hb⟩; obtain ⟨hc, hf⟩ := bcell hb; have hz0 : w.heap.size < w'.heap.size := (by ((have := hb.size; try simp at this); omega)); have hz1 : w.heap.size + 1 < w'.heap.size := (by ((have := hb.size; try simp at this); omega)); have hz2 : w.heap.size + 2 < w'.heap.size := (by ((have := hb.size; try simp at this); omega)); have hz3 : w.heap.size + 3 < w'.heap.size := (by ((have := hb.size; try simp at this); omega))))
    go_ret
    exact ⟨rfl, (by (repeat (first | with_reducible exact Below.refl _ _ | with_reducible refine bl_alloc ?_ _ | with_reducible refine bl_drew ?_ | with_reducible refine bl_set ?_ (by first | (simp; done) | (simp; omega)) _ | with_reducible refine bl_call (by assumption) ?_)))⟩
  | true =>
    cases qb : ptB bX bY with
    | false =>
      have hv : v4B aX aY bX bY cX cY x y = false := by simp [v4B, qa, qb]
      have hr0 : v4I aX aY bX bY cX cY x y = false := by simp [v4I, hv]
      rw [hr0]
      clear hr0
      go_enter Try.func26, Try.ntmps26
      go_wp2_with (first | (go_at_call 69; refine (impl_allValid4 _ _ aX aY bX bY cX cY x y _ (by simp) ⟨by simp [go_sem], by simp [go_sem], by simp [go_sem], by simp [go_sem], by simp [go_sem], by simp [go_sem], by simp [go_sem], by simp [go_sem]⟩).mono ?_; rintro e w' ⟨rfl, hb⟩; obtain ⟨hc, hf⟩ := bcell hb; have hz0 : w.heap.size < w'.heap.size := (by ((have := hb.size; try simp at this); omega)); have hz1 : w.heap.size + 1 < w'.heap.size := (by ((have := hb.size; try simp at this); omega)); have hz2 : w.heap.size + 2 < w'.heap.size := (by ((have := hb.size; try simp at this); omega)); have hz3 : w.heap.size + 3 < w'.heap.size := (by ((have := hb.size; try simp at this); omega))) | (go_at_call 70; refine (impl_inTriangle _ _ _ _ _ _ _ _ _ (by omega) (by omega) (by omega) (by omega) (by omega) (by omega) (by omega) (by omega)).mono ?_; rintro e w' ⟨rfl, hb⟩; obtain ⟨hc, hf⟩ := bcell hb; have hz0 : w.heap.size < w'.heap.size := (by ((have := hb.size; try simp at this); omega)); have hz1 : w.heap.size + 1 < w'.heap.size := (by ((have := hb.size; try simp at this); omega)); have hz2 : w.heap.size + 2 < w'.heap.size := (by ((have := hb.size; try simp at this); omega)); have hz3 : w.heap.size + 3 < w'.heap.size := (by ((have := hb.size; try simp at this); omega))))
      go_ret
      exact ⟨rfl, (by (repeat (first | with_reducible exact Below.refl _ _ | with_reducible refine bl_alloc ?_ _ | with_reducible refine bl_drew ?_ | with_reducible refine bl_set ?_ (by first | (simp; done) | (simp; omega)) _ | with_reducible refine bl_call (by assumption) ?_)))⟩
    | true =>
      cases qc : ptB cX cY with
      | false =>
        have hv : v4B aX aY bX bY cX cY x y = false := by simp [v4B, qa, qb, qc]
        have hr0 : v4I aX aY bX bY cX cY x y = false := by simp [v4I, hv]
        rw [hr0]
        clear hr0
        go_enter Try.func26, Try.ntmps26
        go_wp2_with (first | (go_at_call 69; refine (impl_allValid4 _ _ aX aY bX bY cX cY x y _ (by simp) ⟨by simp [go_sem], by simp [go_sem], by simp [go_sem], by simp [go_sem], by simp [go_sem], by simp [go_sem], by simp [go_sem], by simp [go_sem]⟩).mono ?_; rintro e w' ⟨rfl, hb⟩; obtain ⟨hc, hf⟩ := bcell hb; have hz0 : w.heap.size < w'.heap.size := (by ((have := hb.size; try simp at this); omega)); have hz1 : w.heap.size + 1 < w'.heap.size := (by ((have := hb.size; try simp at this); omega)); have hz2 : w.heap.size + 2 < w'.heap.size := (by ((have := hb.size; try simp at this); omega)); have hz3 : w.heap.size + 3 < w'.heap.size := (by ((have := hb.size; try simp at this); omega))) | (go_at_call 70; refine (impl_inTriangle _ _ _ _ _ _ _ _ _ (by omega) (by omega) (by omega) (by omega) (by omega) (by omega) (by omega) (by omega)).mono ?_; rintro e w' ⟨rfl, hb⟩; obtain ⟨hc, hf⟩ := bcell hb; have hz0 : w.heap.size < w'.heap.size := (by ((have := hb.size; try simp at this); omega)); have hz1 : w.heap.size + 1 < w'.heap.size := (by ((have := hb.size; try simp at this); omega)); have hz2 : w.heap.size + 2 < w'.heap.size := (by ((have := hb.size; try simp at this); omega)); have hz3 : w.heap.size + 3 < w'.heap.size := (by ((have := hb.size; try simp at this); omega))))
        go_ret
        exact ⟨rfl, (by (repeat (first | with_reducible exact Below.refl _ _ | with_reducible refine bl_alloc ?_ _ | with_reducible refine bl_drew ?_ | with_reducible refine bl_set ?_ (by first | (simp; done) | (simp; omega)) _ | with_reducible refine bl_call (by assumption) ?_)))⟩
      | true =>
        cases qd : ptB x y with
        | false =>
          have hv : v4B aX aY bX bY cX cY x y = false := by simp [v4B, qa, qb, qc, qd]
          have hr0 : v4I aX aY bX bY cX cY x y = false := by simp [v4I, hv]
          rw [hr0]
          clear hr0
          go_enter Try.func26, Try.ntmps26
          go_wp2_with (first | (go_at_call 69; refine (impl_allValid4 _ _ aX aY bX bY cX cY x y _ (by simp) ⟨by simp [go_sem], by simp [go_sem], by simp [go_sem], by simp [go_sem], by simp [go_sem], by simp [go_sem], by simp [go_sem], by simp [go_sem]⟩).mono ?_; rintro e w' ⟨rfl, hb⟩; obtain ⟨hc, hf⟩ := bcell hb; have hz0 : w.heap.size < w'.heap.size := (by ((have := hb.size; try simp at this); omega)); have hz1 : w.heap.size + 1 < w'.heap.size := (by ((have := hb.size; try simp at this); omega)); have hz2 : w.heap.size + 2 < w'.heap.size := (by ((have := hb.size; try simp at this); omega)); have hz3 : w.heap.size + 3 < w'.heap.size := (by ((have := hb.size; try simp at this); omega))) | (go_at_call 70; refine (impl_inTriangle _ _ _ _ _ _ _ _ _ (by omega) (by omega) (by omega) (by omega) (by omega) (by omega) (by omega) (by omega)).mono ?_; rintro e w' ⟨rfl, hb⟩; obtain ⟨hc, hf⟩ := bcell hb; have hz0 : w.heap.size < w'.heap.size := (by ((have := hb.size; try simp at this); omega)); have hz1 : w.heap.size + 1 < w'.heap.size := (by ((have := hb.size; try simp at this); omega)); have hz2 : w.heap.size + 2 < w'.heap.size := (by ((have := hb.size; try simp at this); omega)); have hz3 : w.heap.size + 3 < w'.heap.size := (by ((have := hb.size; try simp at this); omega))))
          go_ret
          exact ⟨rfl, (by (repeat (first | with_reducible exact Below.refl _ _ | with_reducible refine bl_alloc ?_ _ | with_reducible refine bl_drew ?_ | with_reducible refine bl_set ?_ (by first | (simp; done) | (simp; omega)) _ | with_reducible refine bl_call (by assumption) ?_)))⟩
        | true =>
          have hv : v4B aX aY bX bY cX cY x y = true := by simp [v4B, qa, qb, qc, qd]
          have hr0 : v4I aX aY bX bY cX cY x y = TriB aX aY bX bY cX cY x y := by simp [v4I, hv]
          rw [hr0]
          clear hr0
          obtain ⟨⟨_, _⟩, ⟨_, _⟩⟩ := ptB_true qa
          obtain ⟨⟨_, _⟩, ⟨_, _⟩⟩ := ptB_true qb
          obtain ⟨⟨_, _⟩, ⟨_, _⟩⟩ := ptB_true qc
          obtain ⟨⟨_, _⟩, ⟨_, _⟩⟩ := ptB_true qd
          go_enter Try.func26, Try.ntmps26
          go_wp2_with (first | (go_at_call 69; refine (impl_allValid4 _ _ aX aY bX bY cX cY x y _ (by simp) ⟨by simp [go_sem], by simp [go_sem], by simp [go_sem], by simp [go_sem], by simp [go_sem], by simp [go_sem], by simp [go_sem], by simp [go_sem]⟩).mono ?_; rintro e w' ⟨rfl, hb⟩; obtain ⟨hc, hf⟩ := bcell hb; have hz0 : w.heap.size < w'.heap.size := (by ((have := hb.size; try simp at this); omega)); have hz1 : w.heap.size + 1 < w'.heap.size := (by ((have := hb.size; try simp at this); omega)); have hz2 : w.heap.size + 2 < w'.heap.size := (by ((have := hb.size; try simp at this); omega)); have hz3 : w.heap.size + 3 < w'.heap.size := (by ((have := hb.size; try simp at this); omega))) | (go_at_call 70; refine (impl_inTriangle _ _ _ _ _ _ _ _ _ (by omega) (by omega) (by omega) (by omega) (by omega) (by omega) (by omega) (by omega)).mono ?_; rintro e w' ⟨rfl, hb⟩; obtain ⟨hc, hf⟩ := bcell hb; have hz0 : w.heap.size < w'.heap.size := (by ((have := hb.size; try simp at this); omega)); have hz1 : w.heap.size + 1 < w'.heap.size := (by ((have := hb.size; try simp at this); omega)); have hz2 : w.heap.size + 2 < w'.heap.size := (by ((have := hb.size; try simp at this); omega)); have hz3 : w.heap.size + 3 < w'.heap.size := (by ((have := hb.size; try simp at this); omega))))
          go_ret
          exact ⟨rfl, (by (repeat (first | with_reducible exact Below.refl _ _ | with_reducible refine bl_alloc ?_ _ | with_reducible refine bl_drew ?_ | with_reducible refine bl_set ?_ (by first | (simp; done) | (simp; omega)) _ | with_reducible refine bl_call (by assumption) ?_)))⟩

end Go.Proofs.Ytbhcodmpcknllaa
