/- Contracts of functions that this seat's statements reach: each is shown to compute a plain Lean function, and to leave what was there as it was. No conditions but those in each theorem. -/
import Derived.Test.YtgnjmcfkehgdfaaGeo
import Derived.Test.YtgnjmcfkehgdfaaRat
import Derived.Test.YtgnjmcfkehgdfaaMat
namespace Go.Proofs.Ytgnjmcfkehgdfaa
open Go.RowKit
set_option linter.unusedVariables false

open Go.Sort

theorem spec_Orient (a1 : Int) (a2 : Int) (b1 : Int) (b2 : Int) (c1 : Int) (c2 : Int) (w : World) :
    Calls Try.prog 61 #[.agg #[.int .i64 a1, .int .i64 a2], .agg #[.int .i64 b1, .int .i64 b2], .agg #[.int .i64 c1, .int .i64 c2]] w fun e w' => e = .returned (.int .i64 (OrientF a1 a2 b1 b2 c1 c2)) ∧ Below w.heap.size w w' := by
  cases qa : ptB a1 a2 with
  | false =>
    have hv : v3B a1 a2 b1 b2 c1 c2 = false := by simp [v3B, qa]
    have hr0 : OrientF a1 a2 b1 b2 c1 c2 = 2 := by simp [OrientF, hv]
    rw [hr0]
    clear hr0
    go_enter Try.func61, Try.ntmps61
    go_wp2_with (first | (go_at_call 40; refine (spec_validPoint _ _ _).mono ?_; rintro e w' ⟨rfl, hb⟩; obtain ⟨hc, hf⟩ := bcell hb; have hz0 : w.heap.size < w'.heap.size := (by ((have := hb.size; try simp at this); omega)); have hz1 : w.heap.size + 1 < w'.heap.size := (by ((have := hb.size; try simp at this); omega)); have hz2 : w.heap.size + 2 < w'.heap.size := (by ((have := hb.size; try simp at this); omega))) | (go_at_call 91; refine (spec_cross _ _ _ _ _ _ _ (by omega) (by omega) (by omega) (by omega) (by omega) (by omega)).mono ?_; rintro e w' ⟨rfl, hb⟩; obtain ⟨hc, hf⟩ := bcell hb; have hz0 : w.heap.size < w'.heap.size := (by ((have := hb.size; try simp at this); omega)); have hz1 : w.heap.size + 1 < w'.heap.size := (by ((have := hb.size; try simp at this); omega)); have hz2 : w.heap.size + 2 < w'.heap.size := (by ((have := hb.size; try simp at this); omega))) | (go_at_call 90; refine (spec_sign _ _).mono ?_; rintro e w' ⟨rfl, rfl⟩))
    go_ret
    exact ⟨rfl, (by (repeat (first | with_reducible exact Below.refl _ _ | with_reducible refine bl_alloc ?_ _ | with_reducible refine bl_drew ?_ | with_reducible refine bl_set ?_ (by first | (simp; done) | (simp; omega)) _ | with_reducible refine bl_call (by assumption) ?_)))⟩
  | true =>
    cases qb : ptB b1 b2 with
    | false =>
      have hv : v3B a1 a2 b1 b2 c1 c2 = false := by simp [v3B, qa, qb]
      have hr0 : OrientF a1 a2 b1 b2 c1 c2 = 2 := by simp [OrientF, hv]
      rw [hr0]
      clear hr0
      go_enter Try.func61, Try.ntmps61
      go_wp2_with (first | (go_at_call 40; refine (spec_validPoint _ _ _).mono ?_; rintro e w' ⟨rfl, hb⟩; obtain ⟨hc, hf⟩ := bcell hb; have hz0 : w.heap.size < w'.heap.size := (by ((have := hb.size; try simp at this); omega)); have hz1 : w.heap.size + 1 < w'.heap.size := (by ((have := hb.size; try simp at this); omega)); have hz2 : w.heap.size + 2 < w'.heap.size := (by ((have := hb.size; try simp at this); omega))) | (go_at_call 91; refine (spec_cross _ _ _ _ _ _ _ (by omega) (by omega) (by omega) (by omega) (by omega) (by omega)).mono ?_; rintro e w' ⟨rfl, hb⟩; obtain ⟨hc, hf⟩ := bcell hb; have hz0 : w.heap.size < w'.heap.size := (by ((have := hb.size; try simp at this); omega)); have hz1 : w.heap.size + 1 < w'.heap.size := (by ((have := hb.size; try simp at this); omega)); have hz2 : w.heap.size + 2 < w'.heap.size := (by ((have := hb.size; try simp at this); omega))) | (go_at_call 90; refine (spec_sign _ _).mono ?_; rintro e w' ⟨rfl, rfl⟩))
      go_ret
      exact ⟨rfl, (by (repeat (first | with_reducible exact Below.refl _ _ | with_reducible refine bl_alloc ?_ _ | with_reducible refine bl_drew ?_ | with_reducible refine bl_set ?_ (by first | (simp; done) | (simp; omega)) _ | with_reducible refine bl_call (by assumption) ?_)))⟩
    | true =>
      cases qc : ptB c1 c2 with
      | false =>
        have hv : v3B a1 a2 b1 b2 c1 c2 = false := by simp [v3B, qa, qb, qc]
        have hr0 : OrientF a1 a2 b1 b2 c1 c2 = 2 := by simp [OrientF, hv]
        rw [hr0]
        clear hr0
        go_enter Try.func61, Try.ntmps61
        go_wp2_with (first | (go_at_call 40; refine (spec_validPoint _ _ _).mono ?_; rintro e w' ⟨rfl, hb⟩; obtain ⟨hc, hf⟩ := bcell hb; have hz0 : w.heap.size < w'.heap.size := (by ((have := hb.size; try simp at this); omega)); have hz1 : w.heap.size + 1 < w'.heap.size := (by ((have := hb.size; try simp at this); omega)); have hz2 : w.heap.size + 2 < w'.heap.size := (by ((have := hb.size; try simp at this); omega))) | (go_at_call 91; refine (spec_cross _ _ _ _ _ _ _ (by omega) (by omega) (by omega) (by omega) (by omega) (by omega)).mono ?_; rintro e w' ⟨rfl, hb⟩; obtain ⟨hc, hf⟩ := bcell hb; have hz0 : w.heap.size < w'.heap.size := (by ((have := hb.size; try simp at this); omega)); have hz1 : w.heap.size + 1 < w'.heap.size := (by ((have := hb.size; try simp at this); omega)); have hz2 : w.heap.size + 2 < w'.heap.size := (by ((have := hb.size; try simp at this); omega))) | (go_at_call 90; refine (spec_sign _ _).mono ?_; rintro e w' ⟨rfl, rfl⟩))
        go_ret
        exact ⟨rfl, (by (repeat (first | with_reducible exact Below.refl _ _ | with_reducible refine bl_alloc ?_ _ | with_reducible refine bl_drew ?_ | with_reducible refine bl_set ?_ (by first | (simp; done) | (simp; omega)) _ | with_reducible refine bl_call (by assumption) ?_)))⟩
      | true =>
        have hv : v3B a1 a2 b1 b2 c1 c2 = true := by simp [v3B, qa, qb, qc]
        have hr0 : OrientF a1 a2 b1 b2 c1 c2 = sgnI (crossV a1 a2 b1 b2 c1 c2) := by simp [OrientF, hv]
        rw [hr0]
        clear hr0
        obtain ⟨⟨la1, ua1⟩, ⟨la2, ua2⟩⟩ := ptB_true qa
        obtain ⟨⟨lb1, ub1⟩, ⟨lb2, ub2⟩⟩ := ptB_true qb
        obtain ⟨⟨lc1, uc1⟩, ⟨lc2, uc2⟩⟩ := ptB_true qc
        go_enter Try.func61, Try.ntmps61
        go_wp2_with (first | (go_at_call 40; refine (spec_validPoint _ _ _).mono ?_; rintro e w' ⟨rfl, hb⟩; obtain ⟨hc, hf⟩ := bcell hb; have hz0 : w.heap.size < w'.heap.size := (by ((have := hb.size; try simp at this); omega)); have hz1 : w.heap.size + 1 < w'.heap.size := (by ((have := hb.size; try simp at this); omega)); have hz2 : w.heap.size + 2 < w'.heap.size := (by ((have := hb.size; try simp at this); omega))) | (go_at_call 91; refine (spec_cross _ _ _ _ _ _ _ (by omega) (by omega) (by omega) (by omega) (by omega) (by omega)).mono ?_; rintro e w' ⟨rfl, hb⟩; obtain ⟨hc, hf⟩ := bcell hb; have hz0 : w.heap.size < w'.heap.size := (by ((have := hb.size; try simp at this); omega)); have hz1 : w.heap.size + 1 < w'.heap.size := (by ((have := hb.size; try simp at this); omega)); have hz2 : w.heap.size + 2 < w'.heap.size := (by ((have := hb.size; try simp at this); omega))) | (go_at_call 90; refine (spec_sign _ _).mono ?_; rintro e w' ⟨rfl, rfl⟩))
        go_ret
        exact ⟨rfl, (by (repeat (first | with_reducible exact Below.refl _ _ | with_reducible refine bl_alloc ?_ _ | with_reducible refine bl_drew ?_ | with_reducible refine bl_set ?_ (by first | (simp; done) | (simp; omega)) _ | with_reducible refine bl_call (by assumption) ?_)))⟩

end Go.Proofs.Ytgnjmcfkehgdfaa
