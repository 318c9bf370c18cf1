/- Contracts of functions that this seat's statements reach: each is shown to compute a plain Lean function, and to leave what was there as it was. No conditions but those in each theorem. -/
import Derived.Test.YtnfefhphkjfhjaaBase
namespace Go.Proofs.Ytnfefhphkjfhjaa
open Go.RowKit
set_option linter.unusedVariables false

open Go.Sort

theorem impl_Graph_valid (x : Int) (y : Int) (w : World) :
    Calls Try.prog 63 #[.agg #[.int .i64 x, .int .i64 y]] w fun e w' => e = .returned (.bool (ptB x y)) ∧ Below w.heap.size w w' := by
  go_enter Try.func63, Try.ntmps63
  go_wp2_with (first | (go_at_call 90; refine (impl_within _ _ _ _).mono ?_; rintro e w' ⟨rfl, rfl⟩))
  all_goals go_ret
  all_goals exact ⟨by simp [ptB, *], (by (repeat (first | with_reducible exact Below.refl _ _ | with_reducible refine bl_alloc ?_ _ | with_reducible refine bl_drew ?_ | with_reducible refine bl_set ?_ (by first | (simp; done) | (simp; omega)) _ | with_reducible refine bl_call (by assumption) ?_)))⟩

theorem spec_validGraph (x : Int) (y : Int) (w : World) :
    Calls Try.prog 65 #[.agg #[.int .i64 x, .int .i64 y]] w fun e w' => e = .returned (.bool (ptB x y)) ∧ Below w.heap.size w w' := by
  go_enter Try.func65, Try.ntmps65
  go_wp2_with (first | (go_at_call 83; refine (spec_inRange _ _ _ _).mono ?_; rintro e w' ⟨rfl, rfl⟩))
  all_goals go_ret
  all_goals exact ⟨by simp [ptB, *], (by (repeat (first | with_reducible exact Below.refl _ _ | with_reducible refine bl_alloc ?_ _ | with_reducible refine bl_drew ?_ | with_reducible refine bl_set ?_ (by first | (simp; done) | (simp; omega)) _ | with_reducible refine bl_call (by assumption) ?_)))⟩

theorem impl_ValidGraph (x : Int) (y : Int) (w : World) :
    Calls Try.prog 31 #[.agg #[.int .i64 x, .int .i64 y]] w fun e w' => e = .returned (.bool (ptB x y)) ∧ Below w.heap.size w w' := by
  go_enter Try.func31, Try.ntmps31
  go_wp2_with (first | (go_at_call 63; refine (impl_Graph_valid _ _ _).mono ?_; rintro e w' ⟨rfl, hb⟩; obtain ⟨hc, hf⟩ := bcell hb; have hz0 : w.heap.size < w'.heap.size := (by ((have := hb.size; try simp at this); omega))))
  all_goals go_ret
  all_goals exact ⟨rfl, (by (repeat (first | with_reducible exact Below.refl _ _ | with_reducible refine bl_alloc ?_ _ | with_reducible refine bl_drew ?_ | with_reducible refine bl_set ?_ (by first | (simp; done) | (simp; omega)) _ | with_reducible refine bl_call (by assumption) ?_)))⟩

theorem impl_DualGraph (x : Int) (y : Int) (w : World) :
    Calls Try.prog 28 #[.agg #[.int .i64 x, .int .i64 y]] w fun e w' => e = .returned (.agg #[.int .i64 (DgX x y), .int .i64 (DgY x y)]) ∧ Below w.heap.size w w' := by
  cases q : ptB x y with
  | false =>
    have hr0 : DgX x y = 0 := by simp [DgX, q]
    have hr1 : DgY x y = 0 := by simp [DgY, q]
    rw [hr0, hr1]
    clear hr0 hr1
    go_enter Try.func28, Try.ntmps28
    go_wp2_with (first | (go_at_call 62; refine (impl_Point_valid _ _ _).mono ?_; rintro e w' ⟨rfl, hb⟩; obtain ⟨hc, hf⟩ := bcell hb; have hz0 : w.heap.size < w'.heap.size := (by ((have := hb.size; try simp at this); omega)); have hz1 : w.heap.size + 1 < w'.heap.size := (by ((have := hb.size; try simp at this); omega))))
    refine bodyPost_ret (v := .agg #[.int .i64 0, .int .i64 0]) (by simp [results, Try.results28, go_sem, *]) rfl ⟨rfl, ?_⟩
    (repeat (first | with_reducible exact Below.refl _ _ | with_reducible refine bl_alloc ?_ _ | with_reducible refine bl_drew ?_ | with_reducible refine bl_set ?_ (by first | (simp; done) | (simp; omega)) _ | with_reducible refine bl_call (by assumption) ?_))
  | true =>
    have hr0 : DgX x y = x := by simp [DgX, q]
    have hr1 : DgY x y = y := by simp [DgY, q]
    rw [hr0, hr1]
    clear hr0 hr1
    go_enter Try.func28, Try.ntmps28
    go_wp2_with (first | (go_at_call 62; refine (impl_Point_valid _ _ _).mono ?_; rintro e w' ⟨rfl, hb⟩; obtain ⟨hc, hf⟩ := bcell hb; have hz0 : w.heap.size < w'.heap.size := (by ((have := hb.size; try simp at this); omega)); have hz1 : w.heap.size + 1 < w'.heap.size := (by ((have := hb.size; try simp at this); omega))))
    refine bodyPost_ret (v := .agg #[.int .i64 x, .int .i64 y]) (by simp [results, Try.results28, go_sem, *]) rfl ⟨rfl, ?_⟩
    (repeat (first | with_reducible exact Below.refl _ _ | with_reducible refine bl_alloc ?_ _ | with_reducible refine bl_drew ?_ | with_reducible refine bl_set ?_ (by first | (simp; done) | (simp; omega)) _ | with_reducible refine bl_call (by assumption) ?_))

theorem spec_DualGraph (x : Int) (y : Int) (w : World) :
    Calls Try.prog 29 #[.agg #[.int .i64 x, .int .i64 y]] w fun e w' => e = .returned (.agg #[.int .i64 (DgX x y), .int .i64 (DgY x y)]) ∧ Below w.heap.size w w' := by
  cases q : ptB x y with
  | false =>
    have hr0 : DgX x y = 0 := by simp [DgX, q]
    have hr1 : DgY x y = 0 := by simp [DgY, q]
    rw [hr0, hr1]
    clear hr0 hr1
    go_enter Try.func29, Try.ntmps29
    go_wp2_with (first | (go_at_call 52; refine (spec_validPoint _ _ _).mono ?_; rintro e w' ⟨rfl, hb⟩; obtain ⟨hc, hf⟩ := bcell hb; have hz0 : w.heap.size < w'.heap.size := (by ((have := hb.size; try simp at this); omega)); have hz1 : w.heap.size + 1 < w'.heap.size := (by ((have := hb.size; try simp at this); omega))))
    refine bodyPost_ret (v := .agg #[.int .i64 0, .int .i64 0]) (by simp [results, Try.results29, go_sem, *]) rfl ⟨rfl, ?_⟩
    (repeat (first | with_reducible exact Below.refl _ _ | with_reducible refine bl_alloc ?_ _ | with_reducible refine bl_drew ?_ | with_reducible refine bl_set ?_ (by first | (simp; done) | (simp; omega)) _ | with_reducible refine bl_call (by assumption) ?_))
  | true =>
    have hr0 : DgX x y = x := by simp [DgX, q]
    have hr1 : DgY x y = y := by simp [DgY, q]
    rw [hr0, hr1]
    clear hr0 hr1
    go_enter Try.func29, Try.ntmps29
    go_wp2_with (first | (go_at_call 52; refine (spec_validPoint _ _ _).mono ?_; rintro e w' ⟨rfl, hb⟩; obtain ⟨hc, hf⟩ := bcell hb; have hz0 : w.heap.size < w'.heap.size := (by ((have := hb.size; try simp at this); omega)); have hz1 : w.heap.size + 1 < w'.heap.size := (by ((have := hb.size; try simp at this); omega))))
    refine bodyPost_ret (v := .agg #[.int .i64 x, .int .i64 y]) (by simp [results, Try.results29, go_sem, *]) rfl ⟨rfl, ?_⟩
    (repeat (first | with_reducible exact Below.refl _ _ | with_reducible refine bl_alloc ?_ _ | with_reducible refine bl_drew ?_ | with_reducible refine bl_set ?_ (by first | (simp; done) | (simp; omega)) _ | with_reducible refine bl_call (by assumption) ?_))

theorem impl_DualPoint (x : Int) (y : Int) (w : World) :
    Calls Try.prog 32 #[.agg #[.int .i64 x, .int .i64 y]] w fun e w' => e = .returned (.agg #[.int .i64 (DgX x y), .int .i64 (DgY x y)]) ∧ Below w.heap.size w w' := by
  cases q : ptB x y with
  | false =>
    have hr0 : DgX x y = 0 := by simp [DgX, q]
    have hr1 : DgY x y = 0 := by simp [DgY, q]
    rw [hr0, hr1]
    clear hr0 hr1
    go_enter Try.func32, Try.ntmps32
    go_wp2_with (first | (go_at_call 63; refine (impl_Graph_valid _ _ _).mono ?_; rintro e w' ⟨rfl, hb⟩; obtain ⟨hc, hf⟩ := bcell hb; have hz0 : w.heap.size < w'.heap.size := (by ((have := hb.size; try simp at this); omega)); have hz1 : w.heap.size + 1 < w'.heap.size := (by ((have := hb.size; try simp at this); omega))))
    refine bodyPost_ret (v := .agg #[.int .i64 0, .int .i64 0]) (by simp [results, Try.results32, go_sem, *]) rfl ⟨rfl, ?_⟩
    (repeat (first | with_reducible exact Below.refl _ _ | with_reducible refine bl_alloc ?_ _ | with_reducible refine bl_drew ?_ | with_reducible refine bl_set ?_ (by first | (simp; done) | (simp; omega)) _ | with_reducible refine bl_call (by assumption) ?_))
  | true =>
    have hr0 : DgX x y = x := by simp [DgX, q]
    have hr1 : DgY x y = y := by simp [DgY, q]
    rw [hr0, hr1]
    clear hr0 hr1
    go_enter Try.func32, Try.ntmps32
    go_wp2_with (first | (go_at_call 63; refine (impl_Graph_valid _ _ _).mono ?_; rintro e w' ⟨rfl, hb⟩; obtain ⟨hc, hf⟩ := bcell hb; have hz0 : w.heap.size < w'.heap.size := (by ((have := hb.size; try simp at this); omega)); have hz1 : w.heap.size + 1 < w'.heap.size := (by ((have := hb.size; try simp at this); omega))))
    refine bodyPost_ret (v := .agg #[.int .i64 x, .int .i64 y]) (by simp [results, Try.results32, go_sem, *]) rfl ⟨rfl, ?_⟩
    (repeat (first | with_reducible exact Below.refl _ _ | with_reducible refine bl_alloc ?_ _ | with_reducible refine bl_drew ?_ | with_reducible refine bl_set ?_ (by first | (simp; done) | (simp; omega)) _ | with_reducible refine bl_call (by assumption) ?_))

theorem spec_DualPoint (x : Int) (y : Int) (w : World) :
    Calls Try.prog 34 #[.agg #[.int .i64 x, .int .i64 y]] w fun e w' => e = .returned (.agg #[.int .i64 (DgX x y), .int .i64 (DgY x y)]) ∧ Below w.heap.size w w' := by
  cases q : ptB x y with
  | false =>
    have hr0 : DgX x y = 0 := by simp [DgX, q]
    have hr1 : DgY x y = 0 := by simp [DgY, q]
    rw [hr0, hr1]
    clear hr0 hr1
    go_enter Try.func34, Try.ntmps34
    go_wp2_with (first | (go_at_call 65; refine (spec_validGraph _ _ _).mono ?_; rintro e w' ⟨rfl, hb⟩; obtain ⟨hc, hf⟩ := bcell hb; have hz0 : w.heap.size < w'.heap.size := (by ((have := hb.size; try simp at this); omega)); have hz1 : w.heap.size + 1 < w'.heap.size := (by ((have := hb.size; try simp at this); omega))))
    refine bodyPost_ret (v := .agg #[.int .i64 0, .int .i64 0]) (by simp [results, Try.results34, go_sem, *]) rfl ⟨rfl, ?_⟩
    (repeat (first | with_reducible exact Below.refl _ _ | with_reducible refine bl_alloc ?_ _ | with_reducible refine bl_drew ?_ | with_reducible refine bl_set ?_ (by first | (simp; done) | (simp; omega)) _ | with_reducible refine bl_call (by assumption) ?_))
  | true =>
    have hr0 : DgX x y = x := by simp [DgX, q]
    have hr1 : DgY x y = y := by simp [DgY, q]
    rw [hr0, hr1]
    clear hr0 hr1
    go_enter Try.func34, Try.ntmps34
    go_wp2_with (first | (go_at_call 65; refine (spec_validGraph _ _ _).mono ?_; rintro e w' ⟨rfl, hb⟩; obtain ⟨hc, hf⟩ := bcell hb; have hz0 : w.heap.size < w'.heap.size := (by ((have := hb.size; try simp at this); omega)); have hz1 : w.heap.size + 1 < w'.heap.size := (by ((have := hb.size; try simp at this); omega))))
    refine bodyPost_ret (v := .agg #[.int .i64 x, .int .i64 y]) (by simp [results, Try.results34, go_sem, *]) rfl ⟨rfl, ?_⟩
    (repeat (first | with_reducible exact Below.refl _ _ | with_reducible refine bl_alloc ?_ _ | with_reducible refine bl_drew ?_ | with_reducible refine bl_set ?_ (by first | (simp; done) | (simp; omega)) _ | with_reducible refine bl_call (by assumption) ?_))

end Go.Proofs.Ytnfefhphkjfhjaa
