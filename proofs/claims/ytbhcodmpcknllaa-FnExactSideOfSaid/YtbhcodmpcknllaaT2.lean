/- Contracts of functions that this seat's statements reach: each is shown to compute a plain Lean function, and to leave what was there as it was. No conditions but those in each theorem. -/
import Derived.Test.YtbhcodmpcknllaaLn
import Derived.Test.YtbhcodmpcknllaaCtn
import Derived.Test.YtbhcodmpcknllaaB1
import Derived.Test.YtbhcodmpcknllaaB3
import Derived.Test.YtbhcodmpcknllaaPlainT
namespace Go.Proofs.Ytbhcodmpcknllaa
open Go.RowKit
set_option linter.unusedVariables false

open Go.Sort

theorem spec_sideOf (a : Int) (b : Int) (c : Int) (x : Int) (y : Int) (w : World) (ha : -2000 ≤ a ∧ a ≤ 2000) (hb : -2000 ≤ b ∧ b ≤ 2000) (hc : -4000000 ≤ c ∧ c ≤ 4000000) (hx : -1000 ≤ x ∧ x ≤ 1000) (hy : -1000 ≤ y ∧ y ≤ 1000) :
    Calls Try.prog 92 #[.agg #[.int .i64 a, .int .i64 b, .int .i64 c], .agg #[.int .i64 x, .int .i64 y]] w fun e w' => e = .returned (.int .i64 (sgnI (a * x + b * y - c))) ∧ Below w.heap.size w w' := by
  obtain ⟨p1, p2⟩ := mul_bd a x 2000 1000 (by omega) (by omega) (by omega) (by omega)
  obtain ⟨p3, p4⟩ := mul_bd b y 2000 1000 (by omega) (by omega) (by omega) (by omega)
  obtain ⟨la, ua⟩ := ha
  obtain ⟨lb, ub⟩ := hb
  obtain ⟨lc, uc⟩ := hc
  obtain ⟨lx, ux⟩ := hx
  obtain ⟨ly, uy⟩ := hy
  go_enter Try.func92, Try.ntmps92
  go_wp2_with (first | (go_at_call 108; refine (spec_sign _ _).mono ?_; rintro e w' ⟨rfl, rfl⟩))
  all_goals go_ret
  all_goals exact ⟨rfl, (by (repeat (first | with_reducible exact Below.refl _ _ | with_reducible refine bl_alloc ?_ _ | with_reducible refine bl_drew ?_ | with_reducible refine bl_set ?_ (by first | (simp; done) | (simp; omega)) _ | with_reducible refine bl_call (by assumption) ?_)))⟩

theorem spec_SideOf (a : Int) (b : Int) (c : Int) (x : Int) (y : Int) (w : World) :
    Calls Try.prog 43 #[.agg #[.int .i64 a, .int .i64 b, .int .i64 c], .agg #[.int .i64 x, .int .i64 y]] w fun e w' => e = .returned (.int .i64 (SideF a b c x y)) ∧ Below w.heap.size w w' := by
  cases q1 : lineB a b c with
  | false =>
    have hr0 : SideF a b c x y = 2 := by simp [SideF, q1]
    rw [hr0]
    clear hr0
    go_enter Try.func43, Try.ntmps43
    go_wp2_with (first | (go_at_call 91; refine (spec_validLine _ _ _ _).mono ?_; rintro e w' ⟨rfl, hb⟩; obtain ⟨hc, hf⟩ := bcell hb; have hz0 : w.heap.size < w'.heap.size := (by ((have := hb.size; try simp at this); omega)); have hz1 : w.heap.size + 1 < w'.heap.size := (by ((have := hb.size; try simp at this); omega))) | (go_at_call 67; refine (spec_validPoint _ _ _).mono ?_; rintro e w' ⟨rfl, hb⟩; obtain ⟨hc, hf⟩ := bcell hb; have hz0 : w.heap.size < w'.heap.size := (by ((have := hb.size; try simp at this); omega)); have hz1 : w.heap.size + 1 < w'.heap.size := (by ((have := hb.size; try simp at this); omega))) | (go_at_call 92; refine (spec_sideOf _ _ _ _ _ _ (by omega) (by omega) (by omega) (by omega) (by omega)).mono ?_; rintro e w' ⟨rfl, hb⟩; obtain ⟨hc, hf⟩ := bcell hb; have hz0 : w.heap.size < w'.heap.size := (by ((have := hb.size; try simp at this); omega)); have hz1 : w.heap.size + 1 < w'.heap.size := (by ((have := hb.size; try simp at this); omega))))
    go_ret
    exact ⟨rfl, (by (repeat (first | with_reducible exact Below.refl _ _ | with_reducible refine bl_alloc ?_ _ | with_reducible refine bl_drew ?_ | with_reducible refine bl_set ?_ (by first | (simp; done) | (simp; omega)) _ | with_reducible refine bl_call (by assumption) ?_)))⟩
  | true =>
    cases q2 : ptB x y with
    | false =>
      have hr0 : SideF a b c x y = 2 := by simp [SideF, q1, q2]
      rw [hr0]
      clear hr0
      go_enter Try.func43, Try.ntmps43
      go_wp2_with (first | (go_at_call 91; refine (spec_validLine _ _ _ _).mono ?_; rintro e w' ⟨rfl, hb⟩; obtain ⟨hc, hf⟩ := bcell hb; have hz0 : w.heap.size < w'.heap.size := (by ((have := hb.size; try simp at this); omega)); have hz1 : w.heap.size + 1 < w'.heap.size := (by ((have := hb.size; try simp at this); omega))) | (go_at_call 67; refine (spec_validPoint _ _ _).mono ?_; rintro e w' ⟨rfl, hb⟩; obtain ⟨hc, hf⟩ := bcell hb; have hz0 : w.heap.size < w'.heap.size := (by ((have := hb.size; try simp at this); omega)); have hz1 : w.heap.size + 1 < w'.heap.size := (by ((have := hb.size; try simp at this); omega))) | (go_at_call 92; refine (spec_sideOf _ _ _ _ _ _ (by omega) (by omega) (by omega) (by omega) (by omega)).mono ?_; rintro e w' ⟨rfl, hb⟩; obtain ⟨hc, hf⟩ := bcell hb; have hz0 : w.heap.size < w'.heap.size := (by ((have := hb.size; try simp at this); omega)); have hz1 : w.heap.size + 1 < w'.heap.size := (by ((have := hb.size; try simp at this); omega))))
      go_ret
      exact ⟨rfl, (by (repeat (first | with_reducible exact Below.refl _ _ | with_reducible refine bl_alloc ?_ _ | with_reducible refine bl_drew ?_ | with_reducible refine bl_set ?_ (by first | (simp; done) | (simp; omega)) _ | with_reducible refine bl_call (by assumption) ?_)))⟩
    | true =>
      have hr0 : SideF a b c x y = sgnI (a * x + b * y - c) := by simp [SideF, q1, q2]
      rw [hr0]
      clear hr0
      obtain ⟨⟨la, ua⟩, ⟨lb, ub⟩, ⟨lc, uc⟩⟩ := lineB_true q1
      obtain ⟨⟨lx, ux⟩, ⟨ly, uy⟩⟩ := ptB_true q2
      obtain ⟨p1, p2⟩ := mul_bd a x 2000 1000 (by omega) (by omega) (by omega) (by omega)
      obtain ⟨p3, p4⟩ := mul_bd b y 2000 1000 (by omega) (by omega) (by omega) (by omega)
      go_enter Try.func43, Try.ntmps43
      go_wp2_with (first | (go_at_call 91; refine (spec_validLine _ _ _ _).mono ?_; rintro e w' ⟨rfl, hb⟩; obtain ⟨hc, hf⟩ := bcell hb; have hz0 : w.heap.size < w'.heap.size := (by ((have := hb.size; try simp at this); omega)); have hz1 : w.heap.size + 1 < w'.heap.size := (by ((have := hb.size; try simp at this); omega))) | (go_at_call 67; refine (spec_validPoint _ _ _).mono ?_; rintro e w' ⟨rfl, hb⟩; obtain ⟨hc, hf⟩ := bcell hb; have hz0 : w.heap.size < w'.heap.size := (by ((have := hb.size; try simp at this); omega)); have hz1 : w.heap.size + 1 < w'.heap.size := (by ((have := hb.size; try simp at this); omega))) | (go_at_call 92; refine (spec_sideOf _ _ _ _ _ _ (by omega) (by omega) (by omega) (by omega) (by omega)).mono ?_; rintro e w' ⟨rfl, hb⟩; obtain ⟨hc, hf⟩ := bcell hb; have hz0 : w.heap.size < w'.heap.size := (by ((have := hb.size; try simp at this); omega)); have hz1 : w.heap.size + 1 < w'.heap.size := (by ((have := hb.size; try simp at this); omega))))
      go_ret
      exact ⟨rfl, (by (repeat (first | with_reducible exact Below.refl _ _ | with_reducible refine bl_alloc ?_ _ | with_reducible refine bl_drew ?_ | with_reducible refine bl_set ?_ (by first | (simp; done) | (simp; omega)) _ | with_reducible refine bl_call (by assumption) ?_)))⟩

theorem impl_SideOf (a : Int) (b : Int) (c : Int) (x : Int) (y : Int) (w : World) :
    Calls Try.prog 45 #[.agg #[.int .i64 a, .int .i64 b, .int .i64 c], .agg #[.int .i64 x, .int .i64 y]] w fun e w' => e = .returned (.int .i64 (SideF a b c x y)) ∧ Below w.heap.size w w' := by
  cases q1 : lineB a b c with
  | false =>
    have hr0 : SideF a b c x y = 2 := by simp [SideF, q1]
    rw [hr0]
    clear hr0
    go_enter Try.func45, Try.ntmps45
    go_wp2_with (first | (go_at_call 93; refine (impl_Line_valid _ _ _ _).mono ?_; rintro e w' ⟨rfl, hb⟩; obtain ⟨hc, hf⟩ := bcell hb; have hz0 : w.heap.size < w'.heap.size := (by ((have := hb.size; try simp at this); omega)); have hz1 : w.heap.size + 1 < w'.heap.size := (by ((have := hb.size; try simp at this); omega))) | (go_at_call 74; refine (impl_Point_valid _ _ _).mono ?_; rintro e w' ⟨rfl, hb⟩; obtain ⟨hc, hf⟩ := bcell hb; have hz0 : w.heap.size < w'.heap.size := (by ((have := hb.size; try simp at this); omega)); have hz1 : w.heap.size + 1 < w'.heap.size := (by ((have := hb.size; try simp at this); omega))) | (go_at_call 94; refine (impl_sign _ _).mono ?_; rintro e w' ⟨rfl, rfl⟩))
    go_ret
    exact ⟨rfl, (by (repeat (first | with_reducible exact Below.refl _ _ | with_reducible refine bl_alloc ?_ _ | with_reducible refine bl_drew ?_ | with_reducible refine bl_set ?_ (by first | (simp; done) | (simp; omega)) _ | with_reducible refine bl_call (by assumption) ?_)))⟩
  | true =>
    cases q2 : ptB x y with
    | false =>
      have hr0 : SideF a b c x y = 2 := by simp [SideF, q1, q2]
      rw [hr0]
      clear hr0
      go_enter Try.func45, Try.ntmps45
      go_wp2_with (first | (go_at_call 93; refine (impl_Line_valid _ _ _ _).mono ?_; rintro e w' ⟨rfl, hb⟩; obtain ⟨hc, hf⟩ := bcell hb; have hz0 : w.heap.size < w'.heap.size := (by ((have := hb.size; try simp at this); omega)); have hz1 : w.heap.size + 1 < w'.heap.size := (by ((have := hb.size; try simp at this); omega))) | (go_at_call 74; refine (impl_Point_valid _ _ _).mono ?_; rintro e w' ⟨rfl, hb⟩; obtain ⟨hc, hf⟩ := bcell hb; have hz0 : w.heap.size < w'.heap.size := (by ((have := hb.size; try simp at this); omega)); have hz1 : w.heap.size + 1 < w'.heap.size := (by ((have := hb.size; try simp at this); omega))) | (go_at_call 94; refine (impl_sign _ _).mono ?_; rintro e w' ⟨rfl, rfl⟩))
      go_ret
      exact ⟨rfl, (by (repeat (first | with_reducible exact Below.refl _ _ | with_reducible refine bl_alloc ?_ _ | with_reducible refine bl_drew ?_ | with_reducible refine bl_set ?_ (by first | (simp; done) | (simp; omega)) _ | with_reducible refine bl_call (by assumption) ?_)))⟩
    | true =>
      have hr0 : SideF a b c x y = sgnI (a * x + b * y - c) := by simp [SideF, q1, q2]
      rw [hr0]
      clear hr0
      obtain ⟨⟨la, ua⟩, ⟨lb, ub⟩, ⟨lc, uc⟩⟩ := lineB_true q1
      obtain ⟨⟨lx, ux⟩, ⟨ly, uy⟩⟩ := ptB_true q2
      obtain ⟨p1, p2⟩ := mul_bd a x 2000 1000 (by omega) (by omega) (by omega) (by omega)
      obtain ⟨p3, p4⟩ := mul_bd b y 2000 1000 (by omega) (by omega) (by omega) (by omega)
      go_enter Try.func45, Try.ntmps45
      go_wp2_with (first | (go_at_call 93; refine (impl_Line_valid _ _ _ _).mono ?_; rintro e w' ⟨rfl, hb⟩; obtain ⟨hc, hf⟩ := bcell hb; have hz0 : w.heap.size < w'.heap.size := (by ((have := hb.size; try simp at this); omega)); have hz1 : w.heap.size + 1 < w'.heap.size := (by ((have := hb.size; try simp at this); omega))) | (go_at_call 74; refine (impl_Point_valid _ _ _).mono ?_; rintro e w' ⟨rfl, hb⟩; obtain ⟨hc, hf⟩ := bcell hb; have hz0 : w.heap.size < w'.heap.size := (by ((have := hb.size; try simp at this); omega)); have hz1 : w.heap.size + 1 < w'.heap.size := (by ((have := hb.size; try simp at this); omega))) | (go_at_call 94; refine (impl_sign _ _).mono ?_; rintro e w' ⟨rfl, rfl⟩))
      go_ret
      exact ⟨rfl, (by (repeat (first | with_reducible exact Below.refl _ _ | with_reducible refine bl_alloc ?_ _ | with_reducible refine bl_drew ?_ | with_reducible refine bl_set ?_ (by first | (simp; done) | (simp; omega)) _ | with_reducible refine bl_call (by assumption) ?_)))⟩

end Go.Proofs.Ytbhcodmpcknllaa
