/- Contracts of functions that this seat's statements reach: each is shown to compute a plain Lean function, and to leave what was there as it was. No conditions but those in each theorem. -/
import Derived.Test.YtnfefhphkjfhjaaGeo
import Derived.Test.YtnfefhphkjfhjaaRat
import Derived.Test.YtnfefhphkjfhjaaMat
namespace Go.Proofs.Ytnfefhphkjfhjaa
open Go.RowKit
set_option linter.unusedVariables false

open Go.Sort

theorem spec_Orient (a1 : Int) (a2 : Int) (b1 : Int) (b2 : Int) (c1 : Int) (c2 : Int) (w : World) :
    Calls Try.prog 23 #[.agg #[.int .i64 a1, .int .i64 a2], .agg #[.int .i64 b1, .int .i64 b2], .agg #[.int .i64 c1, .int .i64 c2]] w fun e w' => e = .returned (.int .i64 (OrientF a1 a2 b1 b2 c1 c2)) ∧ Below w.heap.size w w' := by
  cases qa : ptB a1 a2 with
  | false =>
    have hv : v3B a1 a2 b1 b2 c1 c2 = false := by simp [v3B, qa]
    have hr0 : OrientF a1 a2 b1 b2 c1 c2 = 2 := by simp [OrientF, hv]
    rw [hr0]
    clear hr0
    go_enter Try.func23, Try.ntmps23
    go_wp2_with (first | (go_at_call 52; refine (spec_validPoint _ _ _).mono ?_; rintro e w' ⟨rfl, hb⟩; obtain ⟨hc, hf⟩ := bcell hb; have hz0 : w.heap.size < w'.heap.size := (by ((have := hb.size; try simp at this); omega)); have hz1 : w.heap.size + 1 < w'.heap.size := (by ((have := hb.size; try simp at this); omega)); have hz2 : w.heap.size + 2 < w'.heap.size := (by ((have := hb.size; try simp at this); omega))) | (go_at_call 53; refine (spec_cross _ _ _ _ _ _ _ (by omega) (by omega) (by omega) (by omega) (by omega) (by omega)).mono ?_; rintro e w' ⟨rfl, hb⟩; obtain ⟨hc, hf⟩ := bcell hb; have hz0 : w.heap.size < w'.heap.size := (by ((have := hb.size; try simp at this); omega)); have hz1 : w.heap.size + 1 < w'.heap.size := (by ((have := hb.size; try simp at this); omega)); have hz2 : w.heap.size + 2 < w'.heap.size := (by ((have := hb.size; try simp at this); omega))) | (go_at_call 57; refine (spec_sign _ _).mono ?_; rintro e w' ⟨rfl, rfl⟩))
    go_ret
    exact ⟨rfl, (by (repeat (first | with_reducible exact Below.refl _ _ | with_reducible refine bl_alloc ?_ _ | with_reducible refine bl_drew ?_ | with_reducible refine bl_set ?_ (by first | (simp; done) | (simp; omega)) _ | with_reducible refine bl_call (by assumption) ?_)))⟩
  | true =>
    cases qb : ptB b1 b2 with
    | false =>
      have hv : v3B a1 a2 b1 b2 c1 c2 = false := by simp [v3B, qa, qb]
      have hr0 : OrientF a1 a2 b1 b2 c1 c2 = 2 := by simp [OrientF, hv]
      rw [hr0]
      clear hr0
      go_enter Try.func23, Try.ntmps23
      go_wp2_with (first | (go_at_call 52; refine (spec_validPoint _ _ _).mono ?_; rintro e w' ⟨rfl, hb⟩; obtain ⟨hc, hf⟩ := bcell hb; have hz0 : w.heap.size < w'.heap.size := (by ((have := hb.size; try simp at this); omega)); have hz1 : w.heap.size + 1 < w'.heap.size := (by ((have := hb.size; try simp at this); omega)); have hz2 : w.heap.size + 2 < w'.heap.size := (by ((have := hb.size; try simp at this); omega))) | (go_at_call 53; refine (spec_cross _ _ _ _ _ _ _ (by omega) (by omega) (by omega) (by omega) (by omega) (by omega)).mono ?_; rintro e w' ⟨rfl, hb⟩; obtain ⟨hc, hf⟩ := bcell hb; have hz0 : w.heap.size < w'.heap.size := (by ((have := hb.size; try simp at this); omega)); have hz1 : w.heap.size + 1 < w'.heap.size := (by ((have := hb.size; try simp at this); omega)); have hz2 : w.heap.size + 2 < w'.heap.size := (by ((have := hb.size; try simp at this); omega))) | (go_at_call 57; refine (spec_sign _ _).mono ?_; rintro e w' ⟨rfl, rfl⟩))
      go_ret
      exact ⟨rfl, (by (repeat (first | with_reducible exact Below.refl _ _ | with_reducible refine bl_alloc ?_ _ | with_reducible refine bl_drew ?_ | with_reducible refine bl_set ?_ (by first | (simp; done) | (simp; omega)) _ | with_reducible refine bl_call (by assumption) ?_)))⟩
    | true =>
      cases qc : ptB c1 c2 with
      | false =>
        have hv : v3B a1 a2 b1 b2 c1 c2 = false := by simp [v3B, qa, qb, qc]
        have hr0 : OrientF a1 a2 b1 b2 c1 c2 = 2 := by simp [OrientF, hv]
        rw [hr0]
        clear hr0
        go_enter Try.func23, Try.ntmps23
        go_wp2_with (first | (go_at_call 52; refine (spec_validPoint _ _ _).mono ?_; rintro e w' ⟨rfl, hb⟩; obtain ⟨hc, hf⟩ := bcell hb; have hz0 : w.heap.size < w'.heap.size := (by ((have := hb.size; try simp at this); omega)); have hz1 : w.heap.size + 1 < w'.heap.size := (by ((have := hb.size; try simp at this); omega)); have hz2 : w.heap.size + 2 < w'.heap.size := (by ((have := hb.size; try simp at this); omega))) | (go_at_call 53; refine (spec_cross _ _ _ _ _ _ _ (by omega) (by omega) (by omega) (by omega) (by omega) (by omega)).mono ?_; rintro e w' ⟨rfl, hb⟩; obtain ⟨hc, hf⟩ := bcell hb; have hz0 : w.heap.size < w'.heap.size := (by ((have := hb.size; try simp at this); omega)); have hz1 : w.heap.size + 1 < w'.heap.size := (by ((have := hb.size; try simp at this); omega)); have hz2 : w.heap.size + 2 < w'.heap.size := (by ((have := hb.size; try simp at this); omega))) | (go_at_call 57; refine (spec_sign _ _).mono ?_; rintro e w' ⟨rfl, rfl⟩))
        go_ret
        exact ⟨rfl, (by (repeat (first | with_reducible exact Below.refl _ _ | with_reducible refine bl_alloc ?_ _ | with_reducible refine bl_drew ?_ | with_reducible refine bl_set ?_ (by first | (simp; done) | (simp; omega)) _ | with_reducible refine bl_call (by assumption) ?_)))⟩
      | true =>
        have hv : v3B a1 a2 b1 b2 c1 c2 = true := by simp [v3B, qa, qb, qc]
        have hr0 : OrientF a1 a2 b1 b2 c1 c2 = sgnI (crossV a1 a2 b1 b2 c1 c2) := by simp [OrientF, hv]
        rw [hr0]
        clear hr0
        obtain ⟨⟨la1, ua1⟩, ⟨la2, ua2⟩⟩ := ptB_true qa
        obtain ⟨⟨lb1, ub1⟩, ⟨lb2, ub2⟩⟩ := ptB_true qb
        obtain ⟨⟨lc1, uc1⟩, ⟨lc2, uc2⟩⟩ := ptB_true qc
        go_enter Try.func23, Try.ntmps23
        go_wp2_with (first | (go_at_call 52; refine (spec_validPoint _ _ _).mono ?_; rintro e w' ⟨rfl, hb⟩; obtain ⟨hc, hf⟩ := bcell hb; have hz0 : w.heap.size < w'.heap.size := (by ((have := hb.size; try simp at this); omega)); have hz1 : w.heap.size + 1 < w'.heap.size := (by ((have := hb.size; try simp at this); omega)); have hz2 : w.heap.size + 2 < w'.heap.size := (by ((have := hb.size; try simp at this); omega))) | (go_at_call 53; refine (spec_cross _ _ _ _ _ _ _ (by omega) (by omega) (by omega) (by omega) (by omega) (by omega)).mono ?_; rintro e w' ⟨rfl, hb⟩; obtain ⟨hc, hf⟩ := bcell hb; have hz0 : w.heap.size < w'.heap.size := (by ((have := hb.size; try simp at this); omega)); have hz1 : w.heap.size + 1 < w'.heap.size := (by ((have := hb.size; try simp at this); omega)); have hz2 : w.heap.size + 2 < w'.heap.size := (by ((have := hb.size; try simp at this); omega))) | (go_at_call 57; refine (spec_sign _ _).mono ?_; rintro e w' ⟨rfl, rfl⟩))
        go_ret
        exact ⟨rfl, (by (repeat (first | with_reducible exact Below.refl _ _ | with_reducible refine bl_alloc ?_ _ | with_reducible refine bl_drew ?_ | with_reducible refine bl_set ?_ (by first | (simp; done) | (simp; omega)) _ | with_reducible refine bl_call (by assumption) ?_)))⟩

theorem impl_Orient (a1 : Int) (a2 : Int) (b1 : Int) (b2 : Int) (c1 : Int) (c2 : Int) (w : World) :
    Calls Try.prog 22 #[.agg #[.int .i64 a1, .int .i64 a2], .agg #[.int .i64 b1, .int .i64 b2], .agg #[.int .i64 c1, .int .i64 c2]] w fun e w' => e = .returned (.int .i64 (OrientF a1 a2 b1 b2 c1 c2)) ∧ Below w.heap.size w w' := by
  cases qa : ptB a1 a2 with
  | false =>
    have hv : v3B a1 a2 b1 b2 c1 c2 = false := by simp [v3B, qa]
    have hr0 : OrientF a1 a2 b1 b2 c1 c2 = 2 := by simp [OrientF, hv]
    rw [hr0]
    clear hr0
    go_enter Try.func22, Try.ntmps22
    go_wp2_with (first | (go_at_call 50; refine (impl_allValid3 _ _ a1 a2 b1 b2 c1 c2 _ (by simp) ⟨by simp [go_sem], by simp [go_sem], by simp [go_sem], by simp [go_sem], by simp [go_sem], by simp [go_sem]⟩).mono ?_; rintro e w' ⟨rfl, hb⟩; obtain ⟨hc, hf⟩ := bcell hb; have hz0 : w.heap.size < w'.heap.size := (by ((have := hb.size; try simp at this); omega)); have hz1 : w.heap.size + 1 < w'.heap.size := (by ((have := hb.size; try simp at this); omega)); have hz2 : w.heap.size + 2 < w'.heap.size := (by ((have := hb.size; try simp at this); omega))) | (go_at_call 51; refine (impl_turn _ _ _ _ _ _ _ (by omega) (by omega) (by omega) (by omega) (by omega) (by omega)).mono ?_; rintro e w' ⟨rfl, hb⟩; obtain ⟨hc, hf⟩ := bcell hb; have hz0 : w.heap.size < w'.heap.size := (by ((have := hb.size; try simp at this); omega)); have hz1 : w.heap.size + 1 < w'.heap.size := (by ((have := hb.size; try simp at this); omega)); have hz2 : w.heap.size + 2 < w'.heap.size := (by ((have := hb.size; try simp at this); omega))) | (go_at_call 56; refine (impl_sign _ _).mono ?_; rintro e w' ⟨rfl, rfl⟩))
    go_ret
    exact ⟨rfl, (by (repeat (first | with_reducible exact Below.refl _ _ | with_reducible refine bl_alloc ?_ _ | with_reducible refine bl_drew ?_ | with_reducible refine bl_set ?_ (by first | (simp; done) | (simp; omega)) _ | with_reducible refine bl_call (by assumption) ?_)))⟩
  | true =>
    cases qb : ptB b1 b2 with
    | false =>
      have hv : v3B a1 a2 b1 b2 c1 c2 = false := by simp [v3B, qa, qb]
      have hr0 : OrientF a1 a2 b1 b2 c1 c2 = 2 := by simp [OrientF, hv]
      rw [hr0]
      clear hr0
      go_enter Try.func22, Try.ntmps22
      go_wp2_with (first | (go_at_call 50; refine (impl_allValid3 _ _ a1 a2 b1 b2 c1 c2 _ (by simp) ⟨by simp [go_sem], by simp [go_sem], by simp [go_sem], by simp [go_sem], by simp [go_sem], by simp [go_sem]⟩).mono ?_; rintro e w' ⟨rfl, hb⟩; obtain ⟨hc, hf⟩ := bcell hb; have hz0 : w.heap.size < w'.heap.size := (by ((have := hb.size; try simp at this); omega)); have hz1 : w.heap.size + 1 < w'.heap.size := (by ((have := hb.size; try simp at this); omega)); have hz2 : w.heap.size + 2 < w'.heap.size := (by ((have := hb.size; try simp at this); omega))) | (go_at_call 51; refine (impl_turn _ _ _ _ _ _ _ (by omega) (by omega) (by omega) (by omega) (by omega) (by omega)).mono ?_; rintro e w' ⟨rfl, hb⟩; obtain ⟨hc, hf⟩ := bcell hb; have hz0 : w.heap.size < w'.heap.size := (by ((have := hb.size; try simp at this); omega)); have hz1 : w.heap.size + 1 < w'.heap.size := (by ((have := hb.size; try simp at this); omega)); have hz2 : w.heap.size + 2 < w'.heap.size := (by ((have := hb.size; try simp at this); omega))) | (go_at_call 56; refine (impl_sign _ _).mono ?_; rintro e w' ⟨rfl, rfl⟩))
      go_ret
      exact ⟨rfl, (by (repeat (first | with_reducible exact Below.refl _ _ | with_reducible refine bl_alloc ?_ _ | with_reducible refine bl_drew ?_ | with_reducible refine bl_set ?_ (by first | (simp; done) | (simp; omega)) _ | with_reducible refine bl_call (by assumption) ?_)))⟩
    | true =>
      cases qc : ptB c1 c2 with
      | false =>
        have hv : v3B a1 a2 b1 b2 c1 c2 = false := by simp [v3B, qa, qb, qc]
        have hr0 : OrientF a1 a2 b1 b2 c1 c2 = 2 := by simp [OrientF, hv]
        rw [hr0]
        clear hr0
        go_enter Try.func22, Try.ntmps22
        go_wp2_with (first | (go_at_call 50; refine (impl_allValid3 _ _ a1 a2 b1 b2 c1 c2 _ (by simp) ⟨by simp [go_sem], by simp [go_sem], by simp [go_sem], by simp [go_sem], by simp [go_sem], by simp [go_sem]⟩).mono ?_; rintro e w' ⟨rfl, hb⟩; obtain ⟨hc, hf⟩ := bcell hb; have hz0 : w.heap.size < w'.heap.size := (by ((have := hb.size; try simp at this); omega)); have hz1 : w.heap.size + 1 < w'.heap.size := (by ((have := hb.size; try simp at this); omega)); have hz2 : w.heap.size + 2 < w'.heap.size := (by ((have := hb.size; try simp at this); omega))) | (go_at_call 51; refine (impl_turn _ _ _ _ _ _ _ (by omega) (by omega) (by omega) (by omega) (by omega) (by omega)).mono ?_; rintro e w' ⟨rfl, hb⟩; obtain ⟨hc, hf⟩ := bcell hb; have hz0 : w.heap.size < w'.heap.size := (by ((have := hb.size; try simp at this); omega)); have hz1 : w.heap.size + 1 < w'.heap.size := (by ((have := hb.size; try simp at this); omega)); have hz2 : w.heap.size + 2 < w'.heap.size := (by ((have := hb.size; try simp at this); omega))) | (go_at_call 56; refine (impl_sign _ _).mono ?_; rintro e w' ⟨rfl, rfl⟩))
        go_ret
        exact ⟨rfl, (by (repeat (first | with_reducible exact Below.refl _ _ | with_reducible refine bl_alloc ?_ _ | with_reducible refine bl_drew ?_ | with_reducible refine bl_set ?_ (by first | (simp; done) | (simp; omega)) _ | with_reducible refine bl_call (by assumption) ?_)))⟩
      | true =>
        have hv : v3B a1 a2 b1 b2 c1 c2 = true := by simp [v3B, qa, qb, qc]
        have hr0 : OrientF a1 a2 b1 b2 c1 c2 = sgnI (crossV a1 a2 b1 b2 c1 c2) := by simp [OrientF, hv]
        rw [hr0]
        clear hr0
        obtain ⟨⟨la1, ua1⟩, ⟨la2, ua2⟩⟩ := ptB_true qa
        obtain ⟨⟨lb1, ub1⟩, ⟨lb2, ub2⟩⟩ := ptB_true qb
        obtain ⟨⟨lc1, uc1⟩, ⟨lc2, uc2⟩⟩ := ptB_true qc
        go_enter Try.func22, Try.ntmps22
        go_wp2_with (first | (go_at_call 50; refine (impl_allValid3 _ _ a1 a2 b1 b2 c1 c2 _ (by simp) ⟨by simp [go_sem], by simp [go_sem], by simp [go_sem], by simp [go_sem], by simp [go_sem], by simp [go_sem]⟩).mono ?_; rintro e w' ⟨rfl, hb⟩; obtain ⟨hc, hf⟩ := bcell hb; have hz0 : w.heap.size < w'.heap.size := (by ((have := hb.size; try simp at this); omega)); have hz1 : w.heap.size + 1 < w'.heap.size := (by ((have := hb.size; try simp at this); omega)); have hz2 : w.heap.size + 2 < w'.heap.size := (by ((have := hb.size; try simp at this); omega))) | (go_at_call 51; refine (impl_turn _ _ _ _ _ _ _ (by omega) (by omega) (by omega) (by omega) (by omega) (by omega)).mono ?_; rintro e w' ⟨rfl, hb⟩; obtain ⟨hc, hf⟩ := bcell hb; have hz0 : w.heap.size < w'.heap.size := (by ((have := hb.size; try simp at this); omega)); have hz1 : w.heap.size + 1 < w'.heap.size := (by ((have := hb.size; try simp at this); omega)); have hz2 : w.heap.size + 2 < w'.heap.size := (by ((have := hb.size; try simp at this); omega))) | (go_at_call 56; refine (impl_sign _ _).mono ?_; rintro e w' ⟨rfl, rfl⟩))
        go_ret
        exact ⟨rfl, (by (repeat (first | with_reducible exact Below.refl _ _ | with_reducible refine bl_alloc ?_ _ | with_reducible refine bl_drew ?_ | with_reducible refine bl_set ?_ (by first | (simp; done) | (simp; omega)) _ | with_reducible refine bl_call (by assumption) ?_)))⟩

theorem impl_HeightOver (x : Int) (y : Int) (m : Int) (b : Int) (w : World) :
    Calls Try.prog 36 #[.agg #[.int .i64 x, .int .i64 y], .agg #[.int .i64 m, .int .i64 b]] w fun e w' => e = .returned (.int .i64 (HeightF x y m b)) ∧ Below w.heap.size w w' := by
  cases qa : ptB x y with
  | false =>
    have hr0 : HeightF x y m b = 2 := by simp [HeightF, qa]
    rw [hr0]
    clear hr0
    go_enter Try.func36, Try.ntmps36
    go_wp2_with (first | (go_at_call 62; refine (impl_Point_valid _ _ _).mono ?_; rintro e w' ⟨rfl, hb⟩; obtain ⟨hc, hf⟩ := bcell hb; have hz0 : w.heap.size < w'.heap.size := (by ((have := hb.size; try simp at this); omega)); have hz1 : w.heap.size + 1 < w'.heap.size := (by ((have := hb.size; try simp at this); omega))) | (go_at_call 63; refine (impl_Graph_valid _ _ _).mono ?_; rintro e w' ⟨rfl, hb⟩; obtain ⟨hc, hf⟩ := bcell hb; have hz0 : w.heap.size < w'.heap.size := (by ((have := hb.size; try simp at this); omega)); have hz1 : w.heap.size + 1 < w'.heap.size := (by ((have := hb.size; try simp at this); omega))) | (go_at_call 56; refine (impl_sign _ _).mono ?_; rintro e w' ⟨rfl, rfl⟩))
    go_ret
    exact ⟨rfl, (by (repeat (first | with_reducible exact Below.refl _ _ | with_reducible refine bl_alloc ?_ _ | with_reducible refine bl_drew ?_ | with_reducible refine bl_set ?_ (by first | (simp; done) | (simp; omega)) _ | with_reducible refine bl_call (by assumption) ?_)))⟩
  | true =>
    cases qb : ptB m b with
    | false =>
      have hr0 : HeightF x y m b = 2 := by simp [HeightF, qa, qb]
      rw [hr0]
      clear hr0
      go_enter Try.func36, Try.ntmps36
      go_wp2_with (first | (go_at_call 62; refine (impl_Point_valid _ _ _).mono ?_; rintro e w' ⟨rfl, hb⟩; obtain ⟨hc, hf⟩ := bcell hb; have hz0 : w.heap.size < w'.heap.size := (by ((have := hb.size; try simp at this); omega)); have hz1 : w.heap.size + 1 < w'.heap.size := (by ((have := hb.size; try simp at this); omega))) | (go_at_call 63; refine (impl_Graph_valid _ _ _).mono ?_; rintro e w' ⟨rfl, hb⟩; obtain ⟨hc, hf⟩ := bcell hb; have hz0 : w.heap.size < w'.heap.size := (by ((have := hb.size; try simp at this); omega)); have hz1 : w.heap.size + 1 < w'.heap.size := (by ((have := hb.size; try simp at this); omega))) | (go_at_call 56; refine (impl_sign _ _).mono ?_; rintro e w' ⟨rfl, rfl⟩))
      go_ret
      exact ⟨rfl, (by (repeat (first | with_reducible exact Below.refl _ _ | with_reducible refine bl_alloc ?_ _ | with_reducible refine bl_drew ?_ | with_reducible refine bl_set ?_ (by first | (simp; done) | (simp; omega)) _ | with_reducible refine bl_call (by assumption) ?_)))⟩
    | true =>
      have hr0 : HeightF x y m b = sgnI (y - (m * x - b)) := by simp [HeightF, qa, qb]
      rw [hr0]
      clear hr0
      obtain ⟨⟨lx, ux⟩, ⟨ly, uy⟩⟩ := ptB_true qa
      obtain ⟨⟨lm, um⟩, ⟨lb, ub⟩⟩ := ptB_true qb
      obtain ⟨ml, mu⟩ := mul_bd m x 1000 1000 (by omega) (by omega) (by omega) (by omega)
      go_enter Try.func36, Try.ntmps36
      go_wp2_with (first | (go_at_call 62; refine (impl_Point_valid _ _ _).mono ?_; rintro e w' ⟨rfl, hb⟩; obtain ⟨hc, hf⟩ := bcell hb; have hz0 : w.heap.size < w'.heap.size := (by ((have := hb.size; try simp at this); omega)); have hz1 : w.heap.size + 1 < w'.heap.size := (by ((have := hb.size; try simp at this); omega))) | (go_at_call 63; refine (impl_Graph_valid _ _ _).mono ?_; rintro e w' ⟨rfl, hb⟩; obtain ⟨hc, hf⟩ := bcell hb; have hz0 : w.heap.size < w'.heap.size := (by ((have := hb.size; try simp at this); omega)); have hz1 : w.heap.size + 1 < w'.heap.size := (by ((have := hb.size; try simp at this); omega))) | (go_at_call 56; refine (impl_sign _ _).mono ?_; rintro e w' ⟨rfl, rfl⟩))
      go_ret
      exact ⟨rfl, (by (repeat (first | with_reducible exact Below.refl _ _ | with_reducible refine bl_alloc ?_ _ | with_reducible refine bl_drew ?_ | with_reducible refine bl_set ?_ (by first | (simp; done) | (simp; omega)) _ | with_reducible refine bl_call (by assumption) ?_)))⟩

theorem spec_heightAt (m : Int) (b : Int) (x : Int) (w : World) (h1 : -1000 ≤ m ∧ m ≤ 1000) (h2 : -1000 ≤ b ∧ b ≤ 1000) (h3 : -1000 ≤ x ∧ x ≤ 1000) :
    Calls Try.prog 66 #[.agg #[.int .i64 m, .int .i64 b], .int .i64 x] w fun e w' => e = .returned (.int .i64 (m * x - b)) ∧ Below w.heap.size w w' := by
  obtain ⟨l1, u1⟩ := h1
  obtain ⟨l2, u2⟩ := h2
  obtain ⟨l3, u3⟩ := h3
  obtain ⟨ml, mu⟩ := mul_bd m x 1000 1000 (by omega) (by omega) (by omega) (by omega)
  go_enter Try.func66, Try.ntmps66
  go_wp2
  all_goals go_ret
  all_goals exact ⟨rfl, (by (repeat (first | with_reducible exact Below.refl _ _ | with_reducible refine bl_alloc ?_ _ | with_reducible refine bl_drew ?_ | with_reducible refine bl_set ?_ (by first | (simp; done) | (simp; omega)) _ | with_reducible refine bl_call (by assumption) ?_)))⟩

theorem spec_HeightOver (x : Int) (y : Int) (m : Int) (b : Int) (w : World) :
    Calls Try.prog 37 #[.agg #[.int .i64 x, .int .i64 y], .agg #[.int .i64 m, .int .i64 b]] w fun e w' => e = .returned (.int .i64 (HeightF x y m b)) ∧ Below w.heap.size w w' := by
  cases qa : ptB x y with
  | false =>
    have hr : HeightF x y m b = 2 := by simp [HeightF, qa]
    rw [hr]
    clear hr
    go_enter Try.func37, Try.ntmps37
    go_wp2_with (first | (go_at_call 52; refine (spec_validPoint _ _ _).mono ?_; rintro e w' ⟨rfl, hb⟩; obtain ⟨hc, hf⟩ := bcell hb; have hz0 : w.heap.size < w'.heap.size := (by ((have := hb.size; try simp at this); omega)); have hz1 : w.heap.size + 1 < w'.heap.size := (by ((have := hb.size; try simp at this); omega))) | (go_at_call 65; refine (spec_validGraph _ _ _).mono ?_; rintro e w' ⟨rfl, hb⟩; obtain ⟨hc, hf⟩ := bcell hb; have hz0 : w.heap.size < w'.heap.size := (by ((have := hb.size; try simp at this); omega)); have hz1 : w.heap.size + 1 < w'.heap.size := (by ((have := hb.size; try simp at this); omega))))
    go_ret
    exact ⟨rfl, (by (repeat (first | with_reducible exact Below.refl _ _ | with_reducible refine bl_alloc ?_ _ | with_reducible refine bl_drew ?_ | with_reducible refine bl_set ?_ (by first | (simp; done) | (simp; omega)) _ | with_reducible refine bl_call (by assumption) ?_)))⟩
  | true =>
    cases qb : ptB m b with
    | false =>
      have hr : HeightF x y m b = 2 := by simp [HeightF, qa, qb]
      rw [hr]
      clear hr
      go_enter Try.func37, Try.ntmps37
      go_wp2_with (first | (go_at_call 52; refine (spec_validPoint _ _ _).mono ?_; rintro e w' ⟨rfl, hb⟩; obtain ⟨hc, hf⟩ := bcell hb; have hz0 : w.heap.size < w'.heap.size := (by ((have := hb.size; try simp at this); omega)); have hz1 : w.heap.size + 1 < w'.heap.size := (by ((have := hb.size; try simp at this); omega))) | (go_at_call 65; refine (spec_validGraph _ _ _).mono ?_; rintro e w' ⟨rfl, hb⟩; obtain ⟨hc, hf⟩ := bcell hb; have hz0 : w.heap.size < w'.heap.size := (by ((have := hb.size; try simp at this); omega)); have hz1 : w.heap.size + 1 < w'.heap.size := (by ((have := hb.size; try simp at this); omega))))
      go_ret
      exact ⟨rfl, (by (repeat (first | with_reducible exact Below.refl _ _ | with_reducible refine bl_alloc ?_ _ | with_reducible refine bl_drew ?_ | with_reducible refine bl_set ?_ (by first | (simp; done) | (simp; omega)) _ | with_reducible refine bl_call (by assumption) ?_)))⟩
    | true =>
      have hr : HeightF x y m b = sgnI (y - (m * x - b)) := by simp [HeightF, qa, qb]
      rw [hr]
      clear hr
      obtain ⟨⟨lx, ux⟩, ⟨ly, uy⟩⟩ := ptB_true qa
      obtain ⟨⟨lm, um⟩, ⟨lb, ub⟩⟩ := ptB_true qb
      obtain ⟨ml, mu⟩ := mul_bd m x 1000 1000 (by omega) (by omega) (by omega) (by omega)
      go_enter Try.func37, Try.ntmps37
      go_wp2_with fail
      refine (spec_validPoint _ _ _).mono ?_
      rintro e w1 ⟨rfl, hb1⟩
      obtain ⟨hc1, hf1⟩ := bcell hb1
      have s1 := hb1.size
      try simp at s1
      have z1_0 : w.heap.size < w1.heap.size := by omega
      have z1_1 : w.heap.size + 1 < w1.heap.size := by omega
      go_wp2_with fail
      refine (spec_validGraph _ _ _).mono ?_
      rintro e w2 ⟨rfl, hb2⟩
      obtain ⟨hc2, hf2⟩ := bcell hb2
      have s2 := hb2.size
      try simp at s2
      have z2_0 : w.heap.size < w2.heap.size := by omega
      have z2_1 : w.heap.size + 1 < w2.heap.size := by omega
      go_wp2
      have fc0 : w2.cell? ⟨w.heap.size, 0, none⟩ = some (.int .i64 x) := by simp [go_sem, hc2, hc1, z1_0]
      have fc1 : w2.cell? ⟨w.heap.size, 1, none⟩ = some (.int .i64 y) := by simp [go_sem, hc2, hc1, z1_0]
      have fc2 : w2.cell? ⟨w.heap.size + 1, 0, none⟩ = some (.int .i64 m) := by simp [go_sem, hc2, hc1, z1_1]
      have fc3 : w2.cell? ⟨w.heap.size + 1, 1, none⟩ = some (.int .i64 b) := by simp [go_sem, hc2, hc1, z1_1]
      have k0 := cell_regrown fc0
      have k1 := cell_regrown fc1
      have k2 := cell_regrown fc2
      have k3 := cell_regrown fc3
      clear fc0 fc1 fc2 fc3
      refine wp_region_quiet_below (by kernel_rfl) (by kernel_rfl) ?_
      repeat (go_big_quiet_step ((first | (go_at_call 66; exact Calls.regrown_of (spec_heightAt _ _ _ _ (by omega) (by omega) (by omega))) | (go_at_call 57; exact Calls.regrown_of (qb_same (spec_sign _ _))))))
      refine wpQuiet_nil ?_
      intro _ hw'
      obtain ⟨⟨dq, osq⟩, hw''⟩ := hw'
      subst hw''
      go_wp2
      go_ret
      exact ⟨rfl, bl_call (below_regrown _ dq osq) (by (repeat (first | with_reducible exact Below.refl _ _ | with_reducible refine bl_alloc ?_ _ | with_reducible refine bl_drew ?_ | with_reducible refine bl_set ?_ (by first | (simp; done) | (simp; omega)) _ | with_reducible refine bl_call (by assumption) ?_)))⟩

end Go.Proofs.Ytnfefhphkjfhjaa
