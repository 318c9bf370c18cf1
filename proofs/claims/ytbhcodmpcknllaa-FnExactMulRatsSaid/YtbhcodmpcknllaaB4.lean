/- Contracts of functions that this seat's statements reach: each is shown to compute a plain Lean function, and to leave what was there as it was. No conditions but those in each theorem. -/
import Derived.Test.YtbhcodmpcknllaaB3
import Derived.Test.YtbhcodmpcknllaaPlainC
namespace Go.Proofs.Ytbhcodmpcknllaa
open Go.RowKit
set_option linter.unusedVariables false

open Go.Sort

theorem impl_Rat_made (n : Int) (d : Int) (w : World) :
    Calls Try.prog 60 #[.agg #[.int .i64 n, .int .i64 d]] w fun e w' => e = .returned (.tuple #[.agg #[.int .i64 (okN n d), .int .i64 (okD n d)], .bool (ratB n d)]) ∧ Below w.heap.size w w' := by
  cases q : ratB n d with
  | false =>
    have hr0 : okN n d = 0 := by simp [okN, q]
    have hr1 : okD n d = 0 := by simp [okD, q]
    rw [hr0, hr1]
    clear hr0 hr1
    go_enter Try.func60, Try.ntmps60
    go_wp2_with (first | (go_at_call 57; refine (impl_Rat_valid _ _ _).mono ?_; rintro e w' ⟨rfl, hb⟩; obtain ⟨hc, hf⟩ := bcell hb; have hz0 : w.heap.size < w'.heap.size := (by ((have := hb.size; try simp at this); omega)); have hz1 : w.heap.size + 1 < w'.heap.size := (by ((have := hb.size; try simp at this); omega))))
    refine bodyPost_ret (v := .tuple #[.agg #[.int .i64 0, .int .i64 0], .bool (false)]) (by simp [results, Try.results60, go_sem, *]) rfl ⟨rfl, ?_⟩
    (repeat (first | with_reducible exact Below.refl _ _ | with_reducible refine bl_alloc ?_ _ | with_reducible refine bl_drew ?_ | with_reducible refine bl_set ?_ (by first | (simp; done) | (simp; omega)) _ | with_reducible refine bl_call (by assumption) ?_))
  | true =>
    have hr0 : okN n d = n := by simp [okN, q]
    have hr1 : okD n d = d := by simp [okD, q]
    rw [hr0, hr1]
    clear hr0 hr1
    go_enter Try.func60, Try.ntmps60
    go_wp2_with (first | (go_at_call 57; refine (impl_Rat_valid _ _ _).mono ?_; rintro e w' ⟨rfl, hb⟩; obtain ⟨hc, hf⟩ := bcell hb; have hz0 : w.heap.size < w'.heap.size := (by ((have := hb.size; try simp at this); omega)); have hz1 : w.heap.size + 1 < w'.heap.size := (by ((have := hb.size; try simp at this); omega))))
    refine bodyPost_ret (v := .tuple #[.agg #[.int .i64 n, .int .i64 d], .bool (true)]) (by simp [results, Try.results60, go_sem, *]) rfl ⟨rfl, ?_⟩
    (repeat (first | with_reducible exact Below.refl _ _ | with_reducible refine bl_alloc ?_ _ | with_reducible refine bl_drew ?_ | with_reducible refine bl_set ?_ (by first | (simp; done) | (simp; omega)) _ | with_reducible refine bl_call (by assumption) ?_))

theorem spec_checked (n : Int) (d : Int) (w : World) :
    Calls Try.prog 56 #[.agg #[.int .i64 n, .int .i64 d]] w fun e w' => e = .returned (.tuple #[.agg #[.int .i64 (okN n d), .int .i64 (okD n d)], .bool (ratB n d)]) ∧ Below w.heap.size w w' := by
  cases q : ratB n d with
  | false =>
    have hr0 : okN n d = 0 := by simp [okN, q]
    have hr1 : okD n d = 0 := by simp [okD, q]
    rw [hr0, hr1]
    clear hr0 hr1
    go_enter Try.func56, Try.ntmps56
    go_wp2_with (first | (go_at_call 53; refine (spec_validRat _ _ _).mono ?_; rintro e w' ⟨rfl, hb⟩; obtain ⟨hc, hf⟩ := bcell hb; have hz0 : w.heap.size < w'.heap.size := (by ((have := hb.size; try simp at this); omega)); have hz1 : w.heap.size + 1 < w'.heap.size := (by ((have := hb.size; try simp at this); omega))))
    refine bodyPost_ret (v := .tuple #[.agg #[.int .i64 0, .int .i64 0], .bool (false)]) (by simp [results, Try.results56, go_sem, *]) rfl ⟨rfl, ?_⟩
    (repeat (first | with_reducible exact Below.refl _ _ | with_reducible refine bl_alloc ?_ _ | with_reducible refine bl_drew ?_ | with_reducible refine bl_set ?_ (by first | (simp; done) | (simp; omega)) _ | with_reducible refine bl_call (by assumption) ?_))
  | true =>
    have hr0 : okN n d = n := by simp [okN, q]
    have hr1 : okD n d = d := by simp [okD, q]
    rw [hr0, hr1]
    clear hr0 hr1
    go_enter Try.func56, Try.ntmps56
    go_wp2_with (first | (go_at_call 53; refine (spec_validRat _ _ _).mono ?_; rintro e w' ⟨rfl, hb⟩; obtain ⟨hc, hf⟩ := bcell hb; have hz0 : w.heap.size < w'.heap.size := (by ((have := hb.size; try simp at this); omega)); have hz1 : w.heap.size + 1 < w'.heap.size := (by ((have := hb.size; try simp at this); omega))))
    refine bodyPost_ret (v := .tuple #[.agg #[.int .i64 n, .int .i64 d], .bool (true)]) (by simp [results, Try.results56, go_sem, *]) rfl ⟨rfl, ?_⟩
    (repeat (first | with_reducible exact Below.refl _ _ | with_reducible refine bl_alloc ?_ _ | with_reducible refine bl_drew ?_ | with_reducible refine bl_set ?_ (by first | (simp; done) | (simp; omega)) _ | with_reducible refine bl_call (by assumption) ?_))

end Go.Proofs.Ytbhcodmpcknllaa
