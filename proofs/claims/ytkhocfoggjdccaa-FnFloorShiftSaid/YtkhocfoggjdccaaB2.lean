/- Contracts of functions that this seat's statements reach: each is shown to compute a plain Lean function, and to leave what was there as it was. No conditions but those in each theorem. -/
import Derived.Test.YtkhocfoggjdccaaRat
namespace Go.Proofs.Ytkhocfoggjdccaa
open Go.RowKit
set_option linter.unusedVariables false

open Go.Sort

theorem spec_floor (n : Int) (d : Int) (w : World) (hn : -100000000000 ≤ n ∧ n ≤ 100000000000) (hd : 1 ≤ d ∧ d ≤ 20000000) :
    Calls Try.prog 62 #[.agg #[.int .i64 n, .int .i64 d]] w fun e w' => e = .returned (.int .i64 (n / d)) ∧ Below w.heap.size w w' := by
  obtain ⟨ln, un⟩ := hn
  obtain ⟨ld, ud⟩ := hd
  by_cases h0 : 0 ≤ n
  · have e1 : n.tdiv d = n / d := Int.tdiv_eq_ediv_of_nonneg h0
    have hm := Int.emod_nonneg n (show d ≠ 0 by omega)
    have hq := Int.mul_ediv_add_emod n d
    have hle : ¬ n < n / d * d := by rw [Int.mul_comm]; omega
    have hq1 : 0 ≤ n / d := Int.ediv_nonneg h0 (by omega)
    obtain ⟨t1, t2⟩ := tdiv_bd n d 100000000000 (by omega)
    obtain ⟨p1, p2⟩ := mul_bd (n / d) d 100000000000 20000000 (by rw [← e1]; exact ⟨t1, t2⟩) (by omega) (by omega) (by omega)
    rw [e1] at t1 t2
    clear e1 hq
    go_enter Try.func62, Try.ntmps62
    go_wp2
    go_ret
    exact ⟨rfl, (by (repeat (first | with_reducible exact Below.refl _ _ | with_reducible refine bl_alloc ?_ _ | with_reducible refine bl_drew ?_ | with_reducible refine bl_set ?_ (by first | (simp; done) | (simp; omega)) _ | with_reducible refine bl_call (by assumption) ?_)))⟩
  · obtain ⟨t1, t2⟩ := tdiv_bd n d 100000000000 (by omega)
    obtain ⟨p1, p2⟩ := mul_bd (n.tdiv d) d 100000000000 20000000 ⟨t1, t2⟩ (by omega) (by omega) (by omega)
    by_cases hlt : n < n.tdiv d * d
    · have hv := Lib.hid (floor_tdiv n d (by omega))
      have hw := Lib.hid ((floor_lt n d (by omega)).1 hlt)
      go_enter Try.func62, Try.ntmps62
      go_wp2
      go_ret
      exact ⟨ret_int (by rw [hv.out, if_pos hw.out]), (by (repeat (first | with_reducible exact Below.refl _ _ | with_reducible refine bl_alloc ?_ _ | with_reducible refine bl_drew ?_ | with_reducible refine bl_set ?_ (by first | (simp; done) | (simp; omega)) _ | with_reducible refine bl_call (by assumption) ?_)))⟩
    · have hv := Lib.hid (floor_tdiv n d (by omega))
      have hw := Lib.hid (fun h => hlt ((floor_lt n d (by omega)).2 h))
      go_enter Try.func62, Try.ntmps62
      go_wp2
      go_ret
      exact ⟨ret_int (by rw [hv.out, if_neg (by have := hw.out; omega)]), (by (repeat (first | with_reducible exact Below.refl _ _ | with_reducible refine bl_alloc ?_ _ | with_reducible refine bl_drew ?_ | with_reducible refine bl_set ?_ (by first | (simp; done) | (simp; omega)) _ | with_reducible refine bl_call (by assumption) ?_)))⟩

theorem spec_FloorRat (n : Int) (d : Int) (w : World) :
    Calls Try.prog 24 #[.agg #[.int .i64 n, .int .i64 d]] w fun e w' => e = .returned (.int .i64 (FloorF n d)) ∧ Below w.heap.size w w' := by
  cases q : ratB n d with
  | false =>
    have hr0 : FloorF n d = 0 := by simp [FloorF, q]
    rw [hr0]
    clear hr0
    go_enter Try.func24, Try.ntmps24
    go_wp2_with (first | (go_at_call 51; refine (spec_validRat _ _ _).mono ?_; rintro e w' ⟨rfl, hb⟩; obtain ⟨hc, hf⟩ := bcell hb; have hz0 : w.heap.size < w'.heap.size := (by ((have := hb.size; try simp at this); omega))) | (go_at_call 62; refine (spec_floor _ _ _ (by omega) (by omega)).mono ?_; rintro e w' ⟨rfl, hb⟩; obtain ⟨hc, hf⟩ := bcell hb; have hz0 : w.heap.size < w'.heap.size := (by ((have := hb.size; try simp at this); omega))))
    go_ret
    exact ⟨rfl, (by (repeat (first | with_reducible exact Below.refl _ _ | with_reducible refine bl_alloc ?_ _ | with_reducible refine bl_drew ?_ | with_reducible refine bl_set ?_ (by first | (simp; done) | (simp; omega)) _ | with_reducible refine bl_call (by assumption) ?_)))⟩
  | true =>
    have hr0 : FloorF n d = n / d := by simp [FloorF, q]
    rw [hr0]
    clear hr0
    obtain ⟨⟨ln, un⟩, ⟨ld, ud⟩⟩ := ratB_true q
    go_enter Try.func24, Try.ntmps24
    go_wp2_with (first | (go_at_call 51; refine (spec_validRat _ _ _).mono ?_; rintro e w' ⟨rfl, hb⟩; obtain ⟨hc, hf⟩ := bcell hb; have hz0 : w.heap.size < w'.heap.size := (by ((have := hb.size; try simp at this); omega))) | (go_at_call 62; refine (spec_floor _ _ _ (by omega) (by omega)).mono ?_; rintro e w' ⟨rfl, hb⟩; obtain ⟨hc, hf⟩ := bcell hb; have hz0 : w.heap.size < w'.heap.size := (by ((have := hb.size; try simp at this); omega))))
    go_ret
    exact ⟨rfl, (by (repeat (first | with_reducible exact Below.refl _ _ | with_reducible refine bl_alloc ?_ _ | with_reducible refine bl_drew ?_ | with_reducible refine bl_set ?_ (by first | (simp; done) | (simp; omega)) _ | with_reducible refine bl_call (by assumption) ?_)))⟩

theorem impl_FloorRat (n : Int) (d : Int) (w : World) :
    Calls Try.prog 23 #[.agg #[.int .i64 n, .int .i64 d]] w fun e w' => e = .returned (.int .i64 (FloorF n d)) ∧ Below w.heap.size w w' := by
  cases q : ratB n d with
  | false =>
    have hr : FloorF n d = 0 := by simp [FloorF, q]
    rw [hr]
    clear hr
    go_enter Try.func23, Try.ntmps23
    go_wp2_with (first | (go_at_call 49; refine (impl_Rat_valid _ _ _).mono ?_; rintro e w' ⟨rfl, hb⟩; obtain ⟨hc, hf⟩ := bcell hb; have hz0 : w.heap.size < w'.heap.size := (by ((have := hb.size; try simp at this); omega))))
    go_ret
    exact ⟨rfl, (by (repeat (first | with_reducible exact Below.refl _ _ | with_reducible refine bl_alloc ?_ _ | with_reducible refine bl_drew ?_ | with_reducible refine bl_set ?_ (by first | (simp; done) | (simp; omega)) _ | with_reducible refine bl_call (by assumption) ?_)))⟩
  | true =>
    have hr : FloorF n d = n / d := by simp [FloorF, q]
    rw [hr]
    clear hr
    obtain ⟨⟨ln, un⟩, ⟨ld, ud⟩⟩ := ratB_true q
    by_cases h0 : 0 ≤ n
    · have hm := Int.emod_nonneg n (show d ≠ 0 by omega)
      have hle : ¬ n % d < 0 := by omega
      go_enter Try.func23, Try.ntmps23
      go_wp2_with (first | (go_at_call 49; refine (impl_Rat_valid _ _ _).mono ?_; rintro e w' ⟨rfl, hb⟩; obtain ⟨hc, hf⟩ := bcell hb; have hz0 : w.heap.size < w'.heap.size := (by ((have := hb.size; try simp at this); omega))))
      go_ret
      exact ⟨rfl, (by (repeat (first | with_reducible exact Below.refl _ _ | with_reducible refine bl_alloc ?_ _ | with_reducible refine bl_drew ?_ | with_reducible refine bl_set ?_ (by first | (simp; done) | (simp; omega)) _ | with_reducible refine bl_call (by assumption) ?_)))⟩
    · obtain ⟨t1, t2⟩ := tdiv_bd n d 100000000000 (by omega)
      obtain ⟨r1, r2⟩ := tmod_bd n d 20000000 (by omega) (by omega)
      by_cases hlt : n.tmod d < 0
      · have hv := Lib.hid (floor_tdiv n d (by omega))
        have hw := Lib.hid hlt
        go_enter Try.func23, Try.ntmps23
        go_wp2_with (first | (go_at_call 49; refine (impl_Rat_valid _ _ _).mono ?_; rintro e w' ⟨rfl, hb⟩; obtain ⟨hc, hf⟩ := bcell hb; have hz0 : w.heap.size < w'.heap.size := (by ((have := hb.size; try simp at this); omega))))
        go_ret
        exact ⟨ret_int (by rw [hv.out, if_pos hw.out]), (by (repeat (first | with_reducible exact Below.refl _ _ | with_reducible refine bl_alloc ?_ _ | with_reducible refine bl_drew ?_ | with_reducible refine bl_set ?_ (by first | (simp; done) | (simp; omega)) _ | with_reducible refine bl_call (by assumption) ?_)))⟩
      · have hv := Lib.hid (floor_tdiv n d (by omega))
        have hw := Lib.hid hlt
        go_enter Try.func23, Try.ntmps23
        go_wp2_with (first | (go_at_call 49; refine (impl_Rat_valid _ _ _).mono ?_; rintro e w' ⟨rfl, hb⟩; obtain ⟨hc, hf⟩ := bcell hb; have hz0 : w.heap.size < w'.heap.size := (by ((have := hb.size; try simp at this); omega))))
        go_ret
        exact ⟨ret_int (by rw [hv.out, if_neg (by have := hw.out; omega)]), (by (repeat (first | with_reducible exact Below.refl _ _ | with_reducible refine bl_alloc ?_ _ | with_reducible refine bl_drew ?_ | with_reducible refine bl_set ?_ (by first | (simp; done) | (simp; omega)) _ | with_reducible refine bl_call (by assumption) ?_)))⟩

end Go.Proofs.Ytkhocfoggjdccaa
