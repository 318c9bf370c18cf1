/- Contracts of functions that this seat's statements reach: each is shown to compute a plain Lean function, and to leave what was there as it was. No conditions but those in each theorem. -/
import Derived.Test.YtkhocfoggjdccaaB3
import Derived.Test.YtkhocfoggjdccaaPlainC
namespace Go.Proofs.Ytkhocfoggjdccaa
open Go.RowKit
set_option linter.unusedVariables false

open Go.Sort

theorem impl_Rat_made (n : Int) (d : Int) (w : World) :
    Calls Try.prog 57 #[.agg #[.int .i64 n, .int .i64 d]] w fun e w' => e = .returned (.tuple #[.agg #[.int .i64 (okN n d), .int .i64 (okD n d)], .bool (ratB n d)]) ∧ Below w.heap.size w w' := by
  cases q : ratB n d with
  | false =>
    have hr0 : okN n d = 0 := by simp [okN, q]
    have hr1 : okD n d = 0 := by simp [okD, q]
    rw [hr0, hr1]
    clear hr0 hr1
    go_enter Try.func57, Try.ntmps57
    go_wp2_with (first | (go_at_call 49; refine (impl_Rat_valid _ _ _).mono ?_; rintro e w' ⟨rfl, hb⟩; obtain ⟨hc, hf⟩ := bcell hb; have hz0 : w.heap.size < w'.heap.size := (by ((have := hb.size; try simp at this); omega)); have hz1 : w.heap.size + 1 < w'.heap.size := (by ((have := hb.size; try simp at this); omega))))
    refine bodyPost_ret (v := .tuple #[.agg #[.int .i64 0, .int .i64 0], .bool (false)]) (by simp [results, Try.results57, go_sem, *]) rfl ⟨rfl, ?_⟩
    (repeat (first | with_reducible exact Below.refl _ _ | with_reducible refine bl_alloc ?_ _ | with_reducible refine bl_drew ?_ | with_reducible refine bl_set ?_ (by first | (simp; done) | (simp; omega)) _ | with_reducible refine bl_call (by assumption) ?_))
  | true =>
    have hr0 : okN n d = n := by simp [okN, q]
    have hr1 : okD n d = d := by simp [okD, q]
    rw [hr0, hr1]
    clear hr0 hr1
    go_enter Try.func57, Try.ntmps57
    go_wp2_with (first | (go_at_call 49; refine (impl_Rat_valid _ _ _).mono ?_; rintro e w' ⟨rfl, hb⟩; obtain ⟨hc, hf⟩ := bcell hb; have hz0 : w.heap.size < w'.heap.size := (by ((have := hb.size; try simp at this); omega)); have hz1 : w.heap.size + 1 < w'.heap.size := (by ((have := hb.size; try simp at this); omega))))
    refine bodyPost_ret (v := .tuple #[.agg #[.int .i64 n, .int .i64 d], .bool (true)]) (by simp [results, Try.results57, go_sem, *]) rfl ⟨rfl, ?_⟩
    (repeat (first | with_reducible exact Below.refl _ _ | with_reducible refine bl_alloc ?_ _ | with_reducible refine bl_drew ?_ | with_reducible refine bl_set ?_ (by first | (simp; done) | (simp; omega)) _ | with_reducible refine bl_call (by assumption) ?_))

theorem spec_checked (n : Int) (d : Int) (w : World) :
    Calls Try.prog 59 #[.agg #[.int .i64 n, .int .i64 d]] w fun e w' => e = .returned (.tuple #[.agg #[.int .i64 (okN n d), .int .i64 (okD n d)], .bool (ratB n d)]) ∧ Below w.heap.size w w' := by
  cases q : ratB n d with
  | false =>
    have hr0 : okN n d = 0 := by simp [okN, q]
    have hr1 : okD n d = 0 := by simp [okD, q]
    rw [hr0, hr1]
    clear hr0 hr1
    go_enter Try.func59, Try.ntmps59
    go_wp2_with (first | (go_at_call 51; refine (spec_validRat _ _ _).mono ?_; rintro e w' ⟨rfl, hb⟩; obtain ⟨hc, hf⟩ := bcell hb; have hz0 : w.heap.size < w'.heap.size := (by ((have := hb.size; try simp at this); omega)); have hz1 : w.heap.size + 1 < w'.heap.size := (by ((have := hb.size; try simp at this); omega))))
    refine bodyPost_ret (v := .tuple #[.agg #[.int .i64 0, .int .i64 0], .bool (false)]) (by simp [results, Try.results59, go_sem, *]) rfl ⟨rfl, ?_⟩
    (repeat (first | with_reducible exact Below.refl _ _ | with_reducible refine bl_alloc ?_ _ | with_reducible refine bl_drew ?_ | with_reducible refine bl_set ?_ (by first | (simp; done) | (simp; omega)) _ | with_reducible refine bl_call (by assumption) ?_))
  | true =>
    have hr0 : okN n d = n := by simp [okN, q]
    have hr1 : okD n d = d := by simp [okD, q]
    rw [hr0, hr1]
    clear hr0 hr1
    go_enter Try.func59, Try.ntmps59
    go_wp2_with (first | (go_at_call 51; refine (spec_validRat _ _ _).mono ?_; rintro e w' ⟨rfl, hb⟩; obtain ⟨hc, hf⟩ := bcell hb; have hz0 : w.heap.size < w'.heap.size := (by ((have := hb.size; try simp at this); omega)); have hz1 : w.heap.size + 1 < w'.heap.size := (by ((have := hb.size; try simp at this); omega))))
    refine bodyPost_ret (v := .tuple #[.agg #[.int .i64 n, .int .i64 d], .bool (true)]) (by simp [results, Try.results59, go_sem, *]) rfl ⟨rfl, ?_⟩
    (repeat (first | with_reducible exact Below.refl _ _ | with_reducible refine bl_alloc ?_ _ | with_reducible refine bl_drew ?_ | with_reducible refine bl_set ?_ (by first | (simp; done) | (simp; omega)) _ | with_reducible refine bl_call (by assumption) ?_))

theorem impl_MakeRat (num : Int) (den : Int) (w : World) :
    Calls Try.prog 19 #[.int .i64 num, .int .i64 den] w fun e w' => e = .returned (.tuple #[.agg #[.int .i64 (MkN num den), .int .i64 (MkD num den)], .bool (MkB num den)]) ∧ Below w.heap.size w w' := by
  cases qz : den == 0 with
  | false =>
    cases q1 : inB num (-2000000000000000000) 2000000000000000000 with
    | false =>
      have hv : mkB num den = false := by simp [mkB, qz, q1]
      have hr0 : MkN num den = 0 := by simp [MkN, hv]
      have hr1 : MkD num den = 0 := by simp [MkD, hv]
      have hr2 : MkB num den = false := by simp [MkB, hv]
      rw [hr0, hr1, hr2]
      clear hr0 hr1 hr2
      go_enter Try.func19, Try.ntmps19
      go_wp2_with (first | (go_at_call 55; refine (impl_within _ _ _ _).mono ?_; rintro e w' ⟨rfl, rfl⟩) | (go_at_call 56; refine (impl_reduced _ _ _ (by omega) (by omega) (by omega) (by omega) (by omega)).mono ?_; rintro e w' ⟨rfl, hb⟩; obtain ⟨hc, hf⟩ := bcell hb; have hz0 : w.heap.size < w'.heap.size := (by ((have := hb.size; try simp at this); omega))) | (go_at_call 57; refine (impl_Rat_made _ _ _).mono ?_; rintro e w' ⟨rfl, hb⟩; obtain ⟨hc, hf⟩ := bcell hb; have hz0 : w.heap.size < w'.heap.size := (by ((have := hb.size; try simp at this); omega))))
      refine bodyPost_ret (v := .tuple #[.agg #[.int .i64 0, .int .i64 0], .bool (false)]) (by simp [results, Try.results19, go_sem, *]) rfl ⟨rfl, ?_⟩
      (repeat (first | with_reducible exact Below.refl _ _ | with_reducible refine bl_alloc ?_ _ | with_reducible refine bl_drew ?_ | with_reducible refine bl_set ?_ (by first | (simp; done) | (simp; omega)) _ | with_reducible refine bl_call (by assumption) ?_))
    | true =>
      cases q2 : inB den (-2000000000000000000) 2000000000000000000 with
      | false =>
        have hv : mkB num den = false := by simp [mkB, qz, q1, q2]
        have hr0 : MkN num den = 0 := by simp [MkN, hv]
        have hr1 : MkD num den = 0 := by simp [MkD, hv]
        have hr2 : MkB num den = false := by simp [MkB, hv]
        rw [hr0, hr1, hr2]
        clear hr0 hr1 hr2
        go_enter Try.func19, Try.ntmps19
        go_wp2_with (first | (go_at_call 55; refine (impl_within _ _ _ _).mono ?_; rintro e w' ⟨rfl, rfl⟩) | (go_at_call 56; refine (impl_reduced _ _ _ (by omega) (by omega) (by omega) (by omega) (by omega)).mono ?_; rintro e w' ⟨rfl, hb⟩; obtain ⟨hc, hf⟩ := bcell hb; have hz0 : w.heap.size < w'.heap.size := (by ((have := hb.size; try simp at this); omega))) | (go_at_call 57; refine (impl_Rat_made _ _ _).mono ?_; rintro e w' ⟨rfl, hb⟩; obtain ⟨hc, hf⟩ := bcell hb; have hz0 : w.heap.size < w'.heap.size := (by ((have := hb.size; try simp at this); omega))))
        refine bodyPost_ret (v := .tuple #[.agg #[.int .i64 0, .int .i64 0], .bool (false)]) (by simp [results, Try.results19, go_sem, *]) rfl ⟨rfl, ?_⟩
        (repeat (first | with_reducible exact Below.refl _ _ | with_reducible refine bl_alloc ?_ _ | with_reducible refine bl_drew ?_ | with_reducible refine bl_set ?_ (by first | (simp; done) | (simp; omega)) _ | with_reducible refine bl_call (by assumption) ?_))
      | true =>
        have hv : mkB num den = true := by simp [mkB, qz, q1, q2]
        have hr0 : MkN num den = okN (redN num den) (redD num den) := by simp [MkN, hv]
        have hr1 : MkD num den = okD (redN num den) (redD num den) := by simp [MkD, hv]
        have hr2 : MkB num den = ratB (redN num den) (redD num den) := by simp [MkB, hv]
        rw [hr0, hr1, hr2]
        clear hr0 hr1 hr2
        obtain ⟨l1, u1⟩ := inB_true q1
        obtain ⟨l2, u2⟩ := inB_true q2
        have hz : den ≠ 0 := by simpa using qz
        go_enter Try.func19, Try.ntmps19
        go_wp2_with (first | (go_at_call 55; refine (impl_within _ _ _ _).mono ?_; rintro e w' ⟨rfl, rfl⟩) | (go_at_call 56; refine (impl_reduced _ _ _ (by omega) (by omega) (by omega) (by omega) (by omega)).mono ?_; rintro e w' ⟨rfl, hb⟩; obtain ⟨hc, hf⟩ := bcell hb; have hz0 : w.heap.size < w'.heap.size := (by ((have := hb.size; try simp at this); omega))) | (go_at_call 57; refine (impl_Rat_made _ _ _).mono ?_; rintro e w' ⟨rfl, hb⟩; obtain ⟨hc, hf⟩ := bcell hb; have hz0 : w.heap.size < w'.heap.size := (by ((have := hb.size; try simp at this); omega))))
        refine bodyPost_ret (v := .tuple #[.agg #[.int .i64 (okN (redN num den) (redD num den)), .int .i64 (okD (redN num den) (redD num den))], .bool (ratB (redN num den) (redD num den))]) (by simp [results, Try.results19, go_sem, *]) rfl ⟨rfl, ?_⟩
        (repeat (first | with_reducible exact Below.refl _ _ | with_reducible refine bl_alloc ?_ _ | with_reducible refine bl_drew ?_ | with_reducible refine bl_set ?_ (by first | (simp; done) | (simp; omega)) _ | with_reducible refine bl_call (by assumption) ?_))
  | true =>
    have hv : mkB num den = false := by simp [mkB, qz]
    have hr0 : MkN num den = 0 := by simp [MkN, hv]
    have hr1 : MkD num den = 0 := by simp [MkD, hv]
    have hr2 : MkB num den = false := by simp [MkB, hv]
    rw [hr0, hr1, hr2]
    clear hr0 hr1 hr2
    go_enter Try.func19, Try.ntmps19
    go_wp2_with (first | (go_at_call 55; refine (impl_within _ _ _ _).mono ?_; rintro e w' ⟨rfl, rfl⟩) | (go_at_call 56; refine (impl_reduced _ _ _ (by omega) (by omega) (by omega) (by omega) (by omega)).mono ?_; rintro e w' ⟨rfl, hb⟩; obtain ⟨hc, hf⟩ := bcell hb; have hz0 : w.heap.size < w'.heap.size := (by ((have := hb.size; try simp at this); omega))) | (go_at_call 57; refine (impl_Rat_made _ _ _).mono ?_; rintro e w' ⟨rfl, hb⟩; obtain ⟨hc, hf⟩ := bcell hb; have hz0 : w.heap.size < w'.heap.size := (by ((have := hb.size; try simp at this); omega))))
    refine bodyPost_ret (v := .tuple #[.agg #[.int .i64 0, .int .i64 0], .bool (false)]) (by simp [results, Try.results19, go_sem, *]) rfl ⟨rfl, ?_⟩
    (repeat (first | with_reducible exact Below.refl _ _ | with_reducible refine bl_alloc ?_ _ | with_reducible refine bl_drew ?_ | with_reducible refine bl_set ?_ (by first | (simp; done) | (simp; omega)) _ | with_reducible refine bl_call (by assumption) ?_))

theorem spec_MakeRat (num : Int) (den : Int) (w : World) :
    Calls Try.prog 20 #[.int .i64 num, .int .i64 den] w fun e w' => e = .returned (.tuple #[.agg #[.int .i64 (MkN num den), .int .i64 (MkD num den)], .bool (MkB num den)]) ∧ Below w.heap.size w w' := by
  cases qz : den == 0 with
  | false =>
    cases q1 : inB num (-2000000000000000000) 2000000000000000000 with
    | false =>
      have hv : mkB num den = false := by simp [mkB, qz, q1]
      have hr0 : MkN num den = 0 := by simp [MkN, hv]
      have hr1 : MkD num den = 0 := by simp [MkD, hv]
      have hr2 : MkB num den = false := by simp [MkB, hv]
      rw [hr0, hr1, hr2]
      clear hr0 hr1 hr2
      go_enter Try.func20, Try.ntmps20
      go_wp2_with (first | (go_at_call 58; refine (spec_inRange _ _ _ _).mono ?_; rintro e w' ⟨rfl, rfl⟩) | (go_at_call 60; refine (spec_ratio _ _ _ (by omega) (by omega) (by omega) (by omega) (by omega)).mono ?_; rintro e w' ⟨rfl, hb⟩; obtain ⟨hc, hf⟩ := bcell hb; have hz0 : w.heap.size < w'.heap.size := (by ((have := hb.size; try simp at this); omega))) | (go_at_call 59; refine (spec_checked _ _ _).mono ?_; rintro e w' ⟨rfl, hb⟩; obtain ⟨hc, hf⟩ := bcell hb; have hz0 : w.heap.size < w'.heap.size := (by ((have := hb.size; try simp at this); omega))))
      refine bodyPost_ret (v := .tuple #[.agg #[.int .i64 0, .int .i64 0], .bool (false)]) (by simp [results, Try.results20, go_sem, *]) rfl ⟨rfl, ?_⟩
      (repeat (first | with_reducible exact Below.refl _ _ | with_reducible refine bl_alloc ?_ _ | with_reducible refine bl_drew ?_ | with_reducible refine bl_set ?_ (by first | (simp; done) | (simp; omega)) _ | with_reducible refine bl_call (by assumption) ?_))
    | true =>
      cases q2 : inB den (-2000000000000000000) 2000000000000000000 with
      | false =>
        have hv : mkB num den = false := by simp [mkB, qz, q1, q2]
        have hr0 : MkN num den = 0 := by simp [MkN, hv]
        have hr1 : MkD num den = 0 := by simp [MkD, hv]
        have hr2 : MkB num den = false := by simp [MkB, hv]
        rw [hr0, hr1, hr2]
        clear hr0 hr1 hr2
        go_enter Try.func20, Try.ntmps20
        go_wp2_with (first | (go_at_call 58; refine (spec_inRange _ _ _ _).mono ?_; rintro e w' ⟨rfl, rfl⟩) | (go_at_call 60; refine (spec_ratio _ _ _ (by omega) (by omega) (by omega) (by omega) (by omega)).mono ?_; rintro e w' ⟨rfl, hb⟩; obtain ⟨hc, hf⟩ := bcell hb; have hz0 : w.heap.size < w'.heap.size := (by ((have := hb.size; try simp at this); omega))) | (go_at_call 59; refine (spec_checked _ _ _).mono ?_; rintro e w' ⟨rfl, hb⟩; obtain ⟨hc, hf⟩ := bcell hb; have hz0 : w.heap.size < w'.heap.size := (by ((have := hb.size; try simp at this); omega))))
        refine bodyPost_ret (v := .tuple #[.agg #[.int .i64 0, .int .i64 0], .bool (false)]) (by simp [results, Try.results20, go_sem, *]) rfl ⟨rfl, ?_⟩
        (repeat (first | with_reducible exact Below.refl _ _ | with_reducible refine bl_alloc ?_ _ | with_reducible refine bl_drew ?_ | with_reducible refine bl_set ?_ (by first | (simp; done) | (simp; omega)) _ | with_reducible refine bl_call (by assumption) ?_))
      | true =>
        have hv : mkB num den = true := by simp [mkB, qz, q1, q2]
        have hr0 : MkN num den = okN (redN num den) (redD num den) := by simp [MkN, hv]
        have hr1 : MkD num den = okD (redN num den) (redD num den) := by simp [MkD, hv]
        have hr2 : MkB num den = ratB (redN num den) (redD num den) := by simp [MkB, hv]
        rw [hr0, hr1, hr2]
        clear hr0 hr1 hr2
        obtain ⟨l1, u1⟩ := inB_true q1
        obtain ⟨l2, u2⟩ := inB_true q2
        have hz : den ≠ 0 := by simpa using qz
        go_enter Try.func20, Try.ntmps20
        go_wp2_with (first | (go_at_call 58; refine (spec_inRange _ _ _ _).mono ?_; rintro e w' ⟨rfl, rfl⟩) | (go_at_call 60; refine (spec_ratio _ _ _ (by omega) (by omega) (by omega) (by omega) (by omega)).mono ?_; rintro e w' ⟨rfl, hb⟩; obtain ⟨hc, hf⟩ := bcell hb; have hz0 : w.heap.size < w'.heap.size := (by ((have := hb.size; try simp at this); omega))) | (go_at_call 59; refine (spec_checked _ _ _).mono ?_; rintro e w' ⟨rfl, hb⟩; obtain ⟨hc, hf⟩ := bcell hb; have hz0 : w.heap.size < w'.heap.size := (by ((have := hb.size; try simp at this); omega))))
        refine bodyPost_ret (v := .tuple #[.agg #[.int .i64 (okN (redN num den) (redD num den)), .int .i64 (okD (redN num den) (redD num den))], .bool (ratB (redN num den) (redD num den))]) (by simp [results, Try.results20, go_sem, *]) rfl ⟨rfl, ?_⟩
        (repeat (first | with_reducible exact Below.refl _ _ | with_reducible refine bl_alloc ?_ _ | with_reducible refine bl_drew ?_ | with_reducible refine bl_set ?_ (by first | (simp; done) | (simp; omega)) _ | with_reducible refine bl_call (by assumption) ?_))
  | true =>
    have hv : mkB num den = false := by simp [mkB, qz]
    have hr0 : MkN num den = 0 := by simp [MkN, hv]
    have hr1 : MkD num den = 0 := by simp [MkD, hv]
    have hr2 : MkB num den = false := by simp [MkB, hv]
    rw [hr0, hr1, hr2]
    clear hr0 hr1 hr2
    go_enter Try.func20, Try.ntmps20
    go_wp2_with (first | (go_at_call 58; refine (spec_inRange _ _ _ _).mono ?_; rintro e w' ⟨rfl, rfl⟩) | (go_at_call 60; refine (spec_ratio _ _ _ (by omega) (by omega) (by omega) (by omega) (by omega)).mono ?_; rintro e w' ⟨rfl, hb⟩; obtain ⟨hc, hf⟩ := bcell hb; have hz0 : w.heap.size < w'.heap.size := (by ((have := hb.size; try simp at this); omega))) | (go_at_call 59; refine (spec_checked _ _ _).mono ?_; rintro e w' ⟨rfl, hb⟩; obtain ⟨hc, hf⟩ := bcell hb; have hz0 : w.heap.size < w'.heap.size := (by ((have := hb.size; try simp at this); omega))))
    refine bodyPost_ret (v := .tuple #[.agg #[.int .i64 0, .int .i64 0], .bool (false)]) (by simp [results, Try.results20, go_sem, *]) rfl ⟨rfl, ?_⟩
    (repeat (first | with_reducible exact Below.refl _ _ | with_reducible refine bl_alloc ?_ _ | with_reducible refine bl_drew ?_ | with_reducible refine bl_set ?_ (by first | (simp; done) | (simp; omega)) _ | with_reducible refine bl_call (by assumption) ?_))

theorem impl_AddRats (n : Int) (d : Int) (m : Int) (k : Int) (w : World) :
    Calls Try.prog 26 #[.agg #[.int .i64 n, .int .i64 d], .agg #[.int .i64 m, .int .i64 k]] w fun e w' => e = .returned (.tuple #[.agg #[.int .i64 (AddN n d m k), .int .i64 (AddD n d m k)], .bool (AddB n d m k)]) ∧ Below w.heap.size w w' := by
  cases qa : ratB n d with
  | false =>
    have hv : rr n d m k = false := by simp [rr, qa]
    have hr0 : AddN n d m k = 0 := by simp [AddN, hv]
    have hr1 : AddD n d m k = 0 := by simp [AddD, hv]
    have hr2 : AddB n d m k = false := by simp [AddB, hv]
    rw [hr0, hr1, hr2]
    clear hr0 hr1 hr2
    go_enter Try.func26, Try.ntmps26
    go_wp2_with (first | (go_at_call 49; refine (impl_Rat_valid _ _ _).mono ?_; rintro e w' ⟨rfl, hb⟩; obtain ⟨hc, hf⟩ := bcell hb; have hz0 : w.heap.size < w'.heap.size := (by ((have := hb.size; try simp at this); omega)); have hz1 : w.heap.size + 1 < w'.heap.size := (by ((have := hb.size; try simp at this); omega)); have hz2 : w.heap.size + 2 < w'.heap.size := (by ((have := hb.size; try simp at this); omega))) | (go_at_call 56; refine (impl_reduced _ _ _ (by omega) (by omega) (by omega) (by omega) (by omega)).mono ?_; rintro e w' ⟨rfl, hb⟩; obtain ⟨hc, hf⟩ := bcell hb; have hz0 : w.heap.size < w'.heap.size := (by ((have := hb.size; try simp at this); omega)); have hz1 : w.heap.size + 1 < w'.heap.size := (by ((have := hb.size; try simp at this); omega)); have hz2 : w.heap.size + 2 < w'.heap.size := (by ((have := hb.size; try simp at this); omega))) | (go_at_call 57; refine (impl_Rat_made _ _ _).mono ?_; rintro e w' ⟨rfl, hb⟩; obtain ⟨hc, hf⟩ := bcell hb; have hz0 : w.heap.size < w'.heap.size := (by ((have := hb.size; try simp at this); omega)); have hz1 : w.heap.size + 1 < w'.heap.size := (by ((have := hb.size; try simp at this); omega)); have hz2 : w.heap.size + 2 < w'.heap.size := (by ((have := hb.size; try simp at this); omega))))
    refine bodyPost_ret (v := .tuple #[.agg #[.int .i64 0, .int .i64 0], .bool (false)]) (by simp [results, Try.results26, go_sem, *]) rfl ⟨rfl, ?_⟩
    (repeat (first | with_reducible exact Below.refl _ _ | with_reducible refine bl_alloc ?_ _ | with_reducible refine bl_drew ?_ | with_reducible refine bl_set ?_ (by first | (simp; done) | (simp; omega)) _ | with_reducible refine bl_call (by assumption) ?_))
  | true =>
    cases qb : ratB m k with
    | false =>
      have hv : rr n d m k = false := by simp [rr, qa, qb]
      have hr0 : AddN n d m k = 0 := by simp [AddN, hv]
      have hr1 : AddD n d m k = 0 := by simp [AddD, hv]
      have hr2 : AddB n d m k = false := by simp [AddB, hv]
      rw [hr0, hr1, hr2]
      clear hr0 hr1 hr2
      go_enter Try.func26, Try.ntmps26
      go_wp2_with (first | (go_at_call 49; refine (impl_Rat_valid _ _ _).mono ?_; rintro e w' ⟨rfl, hb⟩; obtain ⟨hc, hf⟩ := bcell hb; have hz0 : w.heap.size < w'.heap.size := (by ((have := hb.size; try simp at this); omega)); have hz1 : w.heap.size + 1 < w'.heap.size := (by ((have := hb.size; try simp at this); omega)); have hz2 : w.heap.size + 2 < w'.heap.size := (by ((have := hb.size; try simp at this); omega))) | (go_at_call 56; refine (impl_reduced _ _ _ (by omega) (by omega) (by omega) (by omega) (by omega)).mono ?_; rintro e w' ⟨rfl, hb⟩; obtain ⟨hc, hf⟩ := bcell hb; have hz0 : w.heap.size < w'.heap.size := (by ((have := hb.size; try simp at this); omega)); have hz1 : w.heap.size + 1 < w'.heap.size := (by ((have := hb.size; try simp at this); omega)); have hz2 : w.heap.size + 2 < w'.heap.size := (by ((have := hb.size; try simp at this); omega))) | (go_at_call 57; refine (impl_Rat_made _ _ _).mono ?_; rintro e w' ⟨rfl, hb⟩; obtain ⟨hc, hf⟩ := bcell hb; have hz0 : w.heap.size < w'.heap.size := (by ((have := hb.size; try simp at this); omega)); have hz1 : w.heap.size + 1 < w'.heap.size := (by ((have := hb.size; try simp at this); omega)); have hz2 : w.heap.size + 2 < w'.heap.size := (by ((have := hb.size; try simp at this); omega))))
      refine bodyPost_ret (v := .tuple #[.agg #[.int .i64 0, .int .i64 0], .bool (false)]) (by simp [results, Try.results26, go_sem, *]) rfl ⟨rfl, ?_⟩
      (repeat (first | with_reducible exact Below.refl _ _ | with_reducible refine bl_alloc ?_ _ | with_reducible refine bl_drew ?_ | with_reducible refine bl_set ?_ (by first | (simp; done) | (simp; omega)) _ | with_reducible refine bl_call (by assumption) ?_))
    | true =>
      have hv : rr n d m k = true := by simp [rr, qa, qb]
      have hr0 : AddN n d m k = okN (redN (n * k + m * d) (d * k)) (redD (n * k + m * d) (d * k)) := by simp [AddN, hv]
      have hr1 : AddD n d m k = okD (redN (n * k + m * d) (d * k)) (redD (n * k + m * d) (d * k)) := by simp [AddD, hv]
      have hr2 : AddB n d m k = ratB (redN (n * k + m * d) (d * k)) (redD (n * k + m * d) (d * k)) := by simp [AddB, hv]
      rw [hr0, hr1, hr2]
      clear hr0 hr1 hr2
      obtain ⟨⟨ln, un⟩, ⟨ld, ud⟩⟩ := ratB_true qa
      obtain ⟨⟨lm, um⟩, ⟨lk, uk⟩⟩ := ratB_true qb
      obtain ⟨p1, p2⟩ := mul_bd n k 100000000000 20000000 (by omega) (by omega) (by omega) (by omega)
      obtain ⟨p3, p4⟩ := mul_bd m d 100000000000 20000000 (by omega) (by omega) (by omega) (by omega)
      obtain ⟨p5, p6⟩ := mul_bd d k 20000000 20000000 (by omega) (by omega) (by omega) (by omega)
      have hdk : d * k ≠ 0 := Int.mul_ne_zero (by omega) (by omega)
      go_enter Try.func26, Try.ntmps26
      go_wp2_with (first | (go_at_call 49; refine (impl_Rat_valid _ _ _).mono ?_; rintro e w' ⟨rfl, hb⟩; obtain ⟨hc, hf⟩ := bcell hb; have hz0 : w.heap.size < w'.heap.size := (by ((have := hb.size; try simp at this); omega)); have hz1 : w.heap.size + 1 < w'.heap.size := (by ((have := hb.size; try simp at this); omega)); have hz2 : w.heap.size + 2 < w'.heap.size := (by ((have := hb.size; try simp at this); omega))) | (go_at_call 56; refine (impl_reduced _ _ _ (by omega) (by omega) (by omega) (by omega) (by omega)).mono ?_; rintro e w' ⟨rfl, hb⟩; obtain ⟨hc, hf⟩ := bcell hb; have hz0 : w.heap.size < w'.heap.size := (by ((have := hb.size; try simp at this); omega)); have hz1 : w.heap.size + 1 < w'.heap.size := (by ((have := hb.size; try simp at this); omega)); have hz2 : w.heap.size + 2 < w'.heap.size := (by ((have := hb.size; try simp at this); omega))) | (go_at_call 57; refine (impl_Rat_made _ _ _).mono ?_; rintro e w' ⟨rfl, hb⟩; obtain ⟨hc, hf⟩ := bcell hb; have hz0 : w.heap.size < w'.heap.size := (by ((have := hb.size; try simp at this); omega)); have hz1 : w.heap.size + 1 < w'.heap.size := (by ((have := hb.size; try simp at this); omega)); have hz2 : w.heap.size + 2 < w'.heap.size := (by ((have := hb.size; try simp at this); omega))))
      refine bodyPost_ret (v := .tuple #[.agg #[.int .i64 (okN (redN (n * k + m * d) (d * k)) (redD (n * k + m * d) (d * k))), .int .i64 (okD (redN (n * k + m * d) (d * k)) (redD (n * k + m * d) (d * k)))], .bool (ratB (redN (n * k + m * d) (d * k)) (redD (n * k + m * d) (d * k)))]) (by simp [results, Try.results26, go_sem, *]) rfl ⟨rfl, ?_⟩
      (repeat (first | with_reducible exact Below.refl _ _ | with_reducible refine bl_alloc ?_ _ | with_reducible refine bl_drew ?_ | with_reducible refine bl_set ?_ (by first | (simp; done) | (simp; omega)) _ | with_reducible refine bl_call (by assumption) ?_))

theorem spec_AddRats (n : Int) (d : Int) (m : Int) (k : Int) (w : World) :
    Calls Try.prog 27 #[.agg #[.int .i64 n, .int .i64 d], .agg #[.int .i64 m, .int .i64 k]] w fun e w' => e = .returned (.tuple #[.agg #[.int .i64 (AddN n d m k), .int .i64 (AddD n d m k)], .bool (AddB n d m k)]) ∧ Below w.heap.size w w' := by
  cases qa : ratB n d with
  | false =>
    have hv : rr n d m k = false := by simp [rr, qa]
    have hr0 : AddN n d m k = 0 := by simp [AddN, hv]
    have hr1 : AddD n d m k = 0 := by simp [AddD, hv]
    have hr2 : AddB n d m k = false := by simp [AddB, hv]
    rw [hr0, hr1, hr2]
    clear hr0 hr1 hr2
    go_enter Try.func27, Try.ntmps27
    go_wp2_with (first | (go_at_call 51; refine (spec_validRat _ _ _).mono ?_; rintro e w' ⟨rfl, hb⟩; obtain ⟨hc, hf⟩ := bcell hb; have hz0 : w.heap.size < w'.heap.size := (by ((have := hb.size; try simp at this); omega)); have hz1 : w.heap.size + 1 < w'.heap.size := (by ((have := hb.size; try simp at this); omega)); have hz2 : w.heap.size + 2 < w'.heap.size := (by ((have := hb.size; try simp at this); omega))) | (go_at_call 60; refine (spec_ratio _ _ _ (by omega) (by omega) (by omega) (by omega) (by omega)).mono ?_; rintro e w' ⟨rfl, hb⟩; obtain ⟨hc, hf⟩ := bcell hb; have hz0 : w.heap.size < w'.heap.size := (by ((have := hb.size; try simp at this); omega)); have hz1 : w.heap.size + 1 < w'.heap.size := (by ((have := hb.size; try simp at this); omega)); have hz2 : w.heap.size + 2 < w'.heap.size := (by ((have := hb.size; try simp at this); omega))) | (go_at_call 59; refine (spec_checked _ _ _).mono ?_; rintro e w' ⟨rfl, hb⟩; obtain ⟨hc, hf⟩ := bcell hb; have hz0 : w.heap.size < w'.heap.size := (by ((have := hb.size; try simp at this); omega)); have hz1 : w.heap.size + 1 < w'.heap.size := (by ((have := hb.size; try simp at this); omega)); have hz2 : w.heap.size + 2 < w'.heap.size := (by ((have := hb.size; try simp at this); omega))))
    refine bodyPost_ret (v := .tuple #[.agg #[.int .i64 0, .int .i64 0], .bool (false)]) (by simp [results, Try.results27, go_sem, *]) rfl ⟨rfl, ?_⟩
    (repeat (first | with_reducible exact Below.refl _ _ | with_reducible refine bl_alloc ?_ _ | with_reducible refine bl_drew ?_ | with_reducible refine bl_set ?_ (by first | (simp; done) | (simp; omega)) _ | with_reducible refine bl_call (by assumption) ?_))
  | true =>
    cases qb : ratB m k with
    | false =>
      have hv : rr n d m k = false := by simp [rr, qa, qb]
      have hr0 : AddN n d m k = 0 := by simp [AddN, hv]
      have hr1 : AddD n d m k = 0 := by simp [AddD, hv]
      have hr2 : AddB n d m k = false := by simp [AddB, hv]
      rw [hr0, hr1, hr2]
      clear hr0 hr1 hr2
      go_enter Try.func27, Try.ntmps27
      go_wp2_with (first | (go_at_call 51; refine (spec_validRat _ _ _).mono ?_; rintro e w' ⟨rfl, hb⟩; obtain ⟨hc, hf⟩ := bcell hb; have hz0 : w.heap.size < w'.heap.size := (by ((have := hb.size; try simp at this); omega)); have hz1 : w.heap.size + 1 < w'.heap.size := (by ((have := hb.size; try simp at this); omega)); have hz2 : w.heap.size + 2 < w'.heap.size := (by ((have := hb.size; try simp at this); omega))) | (go_at_call 60; refine (spec_ratio _ _ _ (by omega) (by omega) (by omega) (by omega) (by omega)).mono ?_; rintro e w' ⟨rfl, hb⟩; obtain ⟨hc, hf⟩ := bcell hb; have hz0 : w.heap.size < w'.heap.size := (by ((have := hb.size; try simp at this); omega)); have hz1 : w.heap.size + 1 < w'.heap.size := (by ((have := hb.size; try simp at this); omega)); have hz2 : w.heap.size + 2 < w'.heap.size := (by ((have := hb.size; try simp at this); omega))) | (go_at_call 59; refine (spec_checked _ _ _).mono ?_; rintro e w' ⟨rfl, hb⟩; obtain ⟨hc, hf⟩ := bcell hb; have hz0 : w.heap.size < w'.heap.size := (by ((have := hb.size; try simp at this); omega)); have hz1 : w.heap.size + 1 < w'.heap.size := (by ((have := hb.size; try simp at this); omega)); have hz2 : w.heap.size + 2 < w'.heap.size := (by ((have := hb.size; try simp at this); omega))))
      refine bodyPost_ret (v := .tuple #[.agg #[.int .i64 0, .int .i64 0], .bool (false)]) (by simp [results, Try.results27, go_sem, *]) rfl ⟨rfl, ?_⟩
      (repeat (first | with_reducible exact Below.refl _ _ | with_reducible refine bl_alloc ?_ _ | with_reducible refine bl_drew ?_ | with_reducible refine bl_set ?_ (by first | (simp; done) | (simp; omega)) _ | with_reducible refine bl_call (by assumption) ?_))
    | true =>
      have hv : rr n d m k = true := by simp [rr, qa, qb]
      have hr0 : AddN n d m k = okN (redN (n * k + m * d) (d * k)) (redD (n * k + m * d) (d * k)) := by simp [AddN, hv]
      have hr1 : AddD n d m k = okD (redN (n * k + m * d) (d * k)) (redD (n * k + m * d) (d * k)) := by simp [AddD, hv]
      have hr2 : AddB n d m k = ratB (redN (n * k + m * d) (d * k)) (redD (n * k + m * d) (d * k)) := by simp [AddB, hv]
      rw [hr0, hr1, hr2]
      clear hr0 hr1 hr2
      obtain ⟨⟨ln, un⟩, ⟨ld, ud⟩⟩ := ratB_true qa
      obtain ⟨⟨lm, um⟩, ⟨lk, uk⟩⟩ := ratB_true qb
      obtain ⟨p1, p2⟩ := mul_bd n k 100000000000 20000000 (by omega) (by omega) (by omega) (by omega)
      obtain ⟨p3, p4⟩ := mul_bd m d 100000000000 20000000 (by omega) (by omega) (by omega) (by omega)
      obtain ⟨p5, p6⟩ := mul_bd d k 20000000 20000000 (by omega) (by omega) (by omega) (by omega)
      have hdk : d * k ≠ 0 := Int.mul_ne_zero (by omega) (by omega)
      go_enter Try.func27, Try.ntmps27
      go_wp2_with (first | (go_at_call 51; refine (spec_validRat _ _ _).mono ?_; rintro e w' ⟨rfl, hb⟩; obtain ⟨hc, hf⟩ := bcell hb; have hz0 : w.heap.size < w'.heap.size := (by ((have := hb.size; try simp at this); omega)); have hz1 : w.heap.size + 1 < w'.heap.size := (by ((have := hb.size; try simp at this); omega)); have hz2 : w.heap.size + 2 < w'.heap.size := (by ((have := hb.size; try simp at this); omega))) | (go_at_call 60; refine (spec_ratio _ _ _ (by omega) (by omega) (by omega) (by omega) (by omega)).mono ?_; rintro e w' ⟨rfl, hb⟩; obtain ⟨hc, hf⟩ := bcell hb; have hz0 : w.heap.size < w'.heap.size := (by ((have := hb.size; try simp at this); omega)); have hz1 : w.heap.size + 1 < w'.heap.size := (by ((have := hb.size; try simp at this); omega)); have hz2 : w.heap.size + 2 < w'.heap.size := (by ((have := hb.size; try simp at this); omega))) | (go_at_call 59; refine (spec_checked _ _ _).mono ?_; rintro e w' ⟨rfl, hb⟩; obtain ⟨hc, hf⟩ := bcell hb; have hz0 : w.heap.size < w'.heap.size := (by ((have := hb.size; try simp at this); omega)); have hz1 : w.heap.size + 1 < w'.heap.size := (by ((have := hb.size; try simp at this); omega)); have hz2 : w.heap.size + 2 < w'.heap.size := (by ((have := hb.size; try simp at this); omega))))
      refine bodyPost_ret (v := .tuple #[.agg #[.int .i64 (okN (redN (n * k + m * d) (d * k)) (redD (n * k + m * d) (d * k))), .int .i64 (okD (redN (n * k + m * d) (d * k)) (redD (n * k + m * d) (d * k)))], .bool (ratB (redN (n * k + m * d) (d * k)) (redD (n * k + m * d) (d * k)))]) (by simp [results, Try.results27, go_sem, *]) rfl ⟨rfl, ?_⟩
      (repeat (first | with_reducible exact Below.refl _ _ | with_reducible refine bl_alloc ?_ _ | with_reducible refine bl_drew ?_ | with_reducible refine bl_set ?_ (by first | (simp; done) | (simp; omega)) _ | with_reducible refine bl_call (by assumption) ?_))

end Go.Proofs.Ytkhocfoggjdccaa
