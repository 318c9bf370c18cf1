/- Contracts of functions that this seat's statements reach: each is shown to compute a plain Lean function, and to leave what was there as it was. No conditions but those in each theorem. -/
import Derived.Test.YtkhocfoggjdccaaGeo
import Derived.Test.YtkhocfoggjdccaaRat
import Derived.Test.YtkhocfoggjdccaaMat
namespace Go.Proofs.Ytkhocfoggjdccaa
open Go.RowKit
set_option linter.unusedVariables false

open Go.Sort

theorem impl_Rat_compare (n : Int) (d : Int) (m : Int) (k : Int) (w : World) (hn : -100000000000 ≤ n ∧ n ≤ 100000000000) (hd : 1 ≤ d ∧ d ≤ 20000000) (hm : -100000000000 ≤ m ∧ m ≤ 100000000000) (hk : 1 ≤ k ∧ k ≤ 20000000) :
    Calls Try.prog 50 #[.agg #[.int .i64 n, .int .i64 d], .agg #[.int .i64 m, .int .i64 k]] w fun e w' => e = .returned (.int .i64 (sgnI (n * k - m * d))) ∧ Below w.heap.size w w' := by
  rw [← cmpI_sub]
  obtain ⟨ln, un⟩ := hn
  obtain ⟨ld, ud⟩ := hd
  obtain ⟨lm, um⟩ := hm
  obtain ⟨lk, uk⟩ := hk
  obtain ⟨p1, p2⟩ := mul_bd n k 100000000000 20000000 (by omega) (by omega) (by omega) (by omega)
  obtain ⟨p3, p4⟩ := mul_bd m d 100000000000 20000000 (by omega) (by omega) (by omega) (by omega)
  go_enter Try.func50, Try.ntmps50
  go_wp2_with (first | (go_at_call 80; refine (cmp_Compare_int _ _ _).mono ?_; rintro e w' ⟨rfl, rfl⟩))
  all_goals go_ret
  all_goals exact ⟨rfl, (by (repeat (first | with_reducible exact Below.refl _ _ | with_reducible refine bl_alloc ?_ _ | with_reducible refine bl_drew ?_ | with_reducible refine bl_set ?_ (by first | (simp; done) | (simp; omega)) _ | with_reducible refine bl_call (by assumption) ?_)))⟩

theorem spec_compareRats (n : Int) (d : Int) (m : Int) (k : Int) (w : World) (hn : -100000000000 ≤ n ∧ n ≤ 100000000000) (hd : 1 ≤ d ∧ d ≤ 20000000) (hm : -100000000000 ≤ m ∧ m ≤ 100000000000) (hk : 1 ≤ k ∧ k ≤ 20000000) :
    Calls Try.prog 52 #[.agg #[.int .i64 n, .int .i64 d], .agg #[.int .i64 m, .int .i64 k]] w fun e w' => e = .returned (.int .i64 (sgnI (n * k - m * d))) ∧ Below w.heap.size w w' := by
  obtain ⟨ln, un⟩ := hn
  obtain ⟨ld, ud⟩ := hd
  obtain ⟨lm, um⟩ := hm
  obtain ⟨lk, uk⟩ := hk
  obtain ⟨p1, p2⟩ := mul_bd n k 100000000000 20000000 (by omega) (by omega) (by omega) (by omega)
  obtain ⟨p3, p4⟩ := mul_bd m d 100000000000 20000000 (by omega) (by omega) (by omega) (by omega)
  go_enter Try.func52, Try.ntmps52
  go_wp2_with (first | (go_at_call 75; refine (spec_sign _ _).mono ?_; rintro e w' ⟨rfl, rfl⟩))
  all_goals go_ret
  all_goals exact ⟨rfl, (by (repeat (first | with_reducible exact Below.refl _ _ | with_reducible refine bl_alloc ?_ _ | with_reducible refine bl_drew ?_ | with_reducible refine bl_set ?_ (by first | (simp; done) | (simp; omega)) _ | with_reducible refine bl_call (by assumption) ?_)))⟩

theorem impl_CompareRats (n : Int) (d : Int) (m : Int) (k : Int) (w : World) :
    Calls Try.prog 16 #[.agg #[.int .i64 n, .int .i64 d], .agg #[.int .i64 m, .int .i64 k]] w fun e w' => e = .returned (.int .i64 (CmpF n d m k)) ∧ Below w.heap.size w w' := by
  cases qa : ratB n d with
  | false =>
    have hr0 : CmpF n d m k = 2 := by simp [CmpF, qa]
    rw [hr0]
    clear hr0
    go_enter Try.func16, Try.ntmps16
    go_wp2_with (first | (go_at_call 49; refine (impl_Rat_valid _ _ _).mono ?_; rintro e w' ⟨rfl, hb⟩; obtain ⟨hc, hf⟩ := bcell hb; have hz0 : w.heap.size < w'.heap.size := (by ((have := hb.size; try simp at this); omega)); have hz1 : w.heap.size + 1 < w'.heap.size := (by ((have := hb.size; try simp at this); omega))) | (go_at_call 50; refine (impl_Rat_compare _ _ _ _ _ (by omega) (by omega) (by omega) (by omega)).mono ?_; rintro e w' ⟨rfl, hb⟩; obtain ⟨hc, hf⟩ := bcell hb; have hz0 : w.heap.size < w'.heap.size := (by ((have := hb.size; try simp at this); omega)); have hz1 : w.heap.size + 1 < w'.heap.size := (by ((have := hb.size; try simp at this); omega))))
    go_ret
    exact ⟨rfl, (by (repeat (first | with_reducible exact Below.refl _ _ | with_reducible refine bl_alloc ?_ _ | with_reducible refine bl_drew ?_ | with_reducible refine bl_set ?_ (by first | (simp; done) | (simp; omega)) _ | with_reducible refine bl_call (by assumption) ?_)))⟩
  | true =>
    cases qb : ratB m k with
    | false =>
      have hr0 : CmpF n d m k = 2 := by simp [CmpF, qa, qb]
      rw [hr0]
      clear hr0
      go_enter Try.func16, Try.ntmps16
      go_wp2_with (first | (go_at_call 49; refine (impl_Rat_valid _ _ _).mono ?_; rintro e w' ⟨rfl, hb⟩; obtain ⟨hc, hf⟩ := bcell hb; have hz0 : w.heap.size < w'.heap.size := (by ((have := hb.size; try simp at this); omega)); have hz1 : w.heap.size + 1 < w'.heap.size := (by ((have := hb.size; try simp at this); omega))) | (go_at_call 50; refine (impl_Rat_compare _ _ _ _ _ (by omega) (by omega) (by omega) (by omega)).mono ?_; rintro e w' ⟨rfl, hb⟩; obtain ⟨hc, hf⟩ := bcell hb; have hz0 : w.heap.size < w'.heap.size := (by ((have := hb.size; try simp at this); omega)); have hz1 : w.heap.size + 1 < w'.heap.size := (by ((have := hb.size; try simp at this); omega))))
      go_ret
      exact ⟨rfl, (by (repeat (first | with_reducible exact Below.refl _ _ | with_reducible refine bl_alloc ?_ _ | with_reducible refine bl_drew ?_ | with_reducible refine bl_set ?_ (by first | (simp; done) | (simp; omega)) _ | with_reducible refine bl_call (by assumption) ?_)))⟩
    | true =>
      have hr0 : CmpF n d m k = sgnI (n * k - m * d) := by simp [CmpF, qa, qb]
      rw [hr0]
      clear hr0
      obtain ⟨⟨ln, un⟩, ⟨ld, ud⟩⟩ := ratB_true qa
      obtain ⟨⟨lm, um⟩, ⟨lk, uk⟩⟩ := ratB_true qb
      obtain ⟨p1, p2⟩ := mul_bd n k 100000000000 20000000 (by omega) (by omega) (by omega) (by omega)
      obtain ⟨p3, p4⟩ := mul_bd m d 100000000000 20000000 (by omega) (by omega) (by omega) (by omega)
      go_enter Try.func16, Try.ntmps16
      go_wp2_with (first | (go_at_call 49; refine (impl_Rat_valid _ _ _).mono ?_; rintro e w' ⟨rfl, hb⟩; obtain ⟨hc, hf⟩ := bcell hb; have hz0 : w.heap.size < w'.heap.size := (by ((have := hb.size; try simp at this); omega)); have hz1 : w.heap.size + 1 < w'.heap.size := (by ((have := hb.size; try simp at this); omega))) | (go_at_call 50; refine (impl_Rat_compare _ _ _ _ _ (by omega) (by omega) (by omega) (by omega)).mono ?_; rintro e w' ⟨rfl, hb⟩; obtain ⟨hc, hf⟩ := bcell hb; have hz0 : w.heap.size < w'.heap.size := (by ((have := hb.size; try simp at this); omega)); have hz1 : w.heap.size + 1 < w'.heap.size := (by ((have := hb.size; try simp at this); omega))))
      go_ret
      exact ⟨rfl, (by (repeat (first | with_reducible exact Below.refl _ _ | with_reducible refine bl_alloc ?_ _ | with_reducible refine bl_drew ?_ | with_reducible refine bl_set ?_ (by first | (simp; done) | (simp; omega)) _ | with_reducible refine bl_call (by assumption) ?_)))⟩

theorem spec_CompareRats (n : Int) (d : Int) (m : Int) (k : Int) (w : World) :
    Calls Try.prog 17 #[.agg #[.int .i64 n, .int .i64 d], .agg #[.int .i64 m, .int .i64 k]] w fun e w' => e = .returned (.int .i64 (CmpF n d m k)) ∧ Below w.heap.size w w' := by
  cases qa : ratB n d with
  | false =>
    have hr0 : CmpF n d m k = 2 := by simp [CmpF, qa]
    rw [hr0]
    clear hr0
    go_enter Try.func17, Try.ntmps17
    go_wp2_with (first | (go_at_call 51; refine (spec_validRat _ _ _).mono ?_; rintro e w' ⟨rfl, hb⟩; obtain ⟨hc, hf⟩ := bcell hb; have hz0 : w.heap.size < w'.heap.size := (by ((have := hb.size; try simp at this); omega)); have hz1 : w.heap.size + 1 < w'.heap.size := (by ((have := hb.size; try simp at this); omega))) | (go_at_call 52; refine (spec_compareRats _ _ _ _ _ (by omega) (by omega) (by omega) (by omega)).mono ?_; rintro e w' ⟨rfl, hb⟩; obtain ⟨hc, hf⟩ := bcell hb; have hz0 : w.heap.size < w'.heap.size := (by ((have := hb.size; try simp at this); omega)); have hz1 : w.heap.size + 1 < w'.heap.size := (by ((have := hb.size; try simp at this); omega))))
    go_ret
    exact ⟨rfl, (by (repeat (first | with_reducible exact Below.refl _ _ | with_reducible refine bl_alloc ?_ _ | with_reducible refine bl_drew ?_ | with_reducible refine bl_set ?_ (by first | (simp; done) | (simp; omega)) _ | with_reducible refine bl_call (by assumption) ?_)))⟩
  | true =>
    cases qb : ratB m k with
    | false =>
      have hr0 : CmpF n d m k = 2 := by simp [CmpF, qa, qb]
      rw [hr0]
      clear hr0
      go_enter Try.func17, Try.ntmps17
      go_wp2_with (first | (go_at_call 51; refine (spec_validRat _ _ _).mono ?_; rintro e w' ⟨rfl, hb⟩; obtain ⟨hc, hf⟩ := bcell hb; have hz0 : w.heap.size < w'.heap.size := (by ((have := hb.size; try simp at this); omega)); have hz1 : w.heap.size + 1 < w'.heap.size := (by ((have := hb.size; try simp at this); omega))) | (go_at_call 52; refine (spec_compareRats _ _ _ _ _ (by omega) (by omega) (by omega) (by omega)).mono ?_; rintro e w' ⟨rfl, hb⟩; obtain ⟨hc, hf⟩ := bcell hb; have hz0 : w.heap.size < w'.heap.size := (by ((have := hb.size; try simp at this); omega)); have hz1 : w.heap.size + 1 < w'.heap.size := (by ((have := hb.size; try simp at this); omega))))
      go_ret
      exact ⟨rfl, (by (repeat (first | with_reducible exact Below.refl _ _ | with_reducible refine bl_alloc ?_ _ | with_reducible refine bl_drew ?_ | with_reducible refine bl_set ?_ (by first | (simp; done) | (simp; omega)) _ | with_reducible refine bl_call (by assumption) ?_)))⟩
    | true =>
      have hr0 : CmpF n d m k = sgnI (n * k - m * d) := by simp [CmpF, qa, qb]
      rw [hr0]
      clear hr0
      obtain ⟨⟨ln, un⟩, ⟨ld, ud⟩⟩ := ratB_true qa
      obtain ⟨⟨lm, um⟩, ⟨lk, uk⟩⟩ := ratB_true qb
      obtain ⟨p1, p2⟩ := mul_bd n k 100000000000 20000000 (by omega) (by omega) (by omega) (by omega)
      obtain ⟨p3, p4⟩ := mul_bd m d 100000000000 20000000 (by omega) (by omega) (by omega) (by omega)
      go_enter Try.func17, Try.ntmps17
      go_wp2_with (first | (go_at_call 51; refine (spec_validRat _ _ _).mono ?_; rintro e w' ⟨rfl, hb⟩; obtain ⟨hc, hf⟩ := bcell hb; have hz0 : w.heap.size < w'.heap.size := (by ((have := hb.size; try simp at this); omega)); have hz1 : w.heap.size + 1 < w'.heap.size := (by ((have := hb.size; try simp at this); omega))) | (go_at_call 52; refine (spec_compareRats _ _ _ _ _ (by omega) (by omega) (by omega) (by omega)).mono ?_; rintro e w' ⟨rfl, hb⟩; obtain ⟨hc, hf⟩ := bcell hb; have hz0 : w.heap.size < w'.heap.size := (by ((have := hb.size; try simp at this); omega)); have hz1 : w.heap.size + 1 < w'.heap.size := (by ((have := hb.size; try simp at this); omega))))
      go_ret
      exact ⟨rfl, (by (repeat (first | with_reducible exact Below.refl _ _ | with_reducible refine bl_alloc ?_ _ | with_reducible refine bl_drew ?_ | with_reducible refine bl_set ?_ (by first | (simp; done) | (simp; omega)) _ | with_reducible refine bl_call (by assumption) ?_)))⟩

end Go.Proofs.Ytkhocfoggjdccaa
