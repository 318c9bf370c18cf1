/- Contracts of functions that this seat's statements reach: each is shown to compute a plain Lean function, and to leave what was there as it was. No conditions but those in each theorem. -/
import Derived.Test.YtkhocfoggjdccaaB5
import Derived.Test.YtkhocfoggjdccaaPlainE
namespace Go.Proofs.Ytkhocfoggjdccaa
open Go.RowKit
set_option linter.unusedVariables false

open Go.Sort

set_option maxHeartbeats 2000000 in
theorem spec_InvertMatrix (a : Int) (b : Int) (c : Int) (d : Int) (w : World) :
    Calls Try.prog 37 #[.agg #[.int .i64 a, .int .i64 b, .int .i64 c, .int .i64 d]] w fun e w' => e = .returned (.tuple #[.agg #[.int .i64 (InA a b c d), .int .i64 (InB a b c d), .int .i64 (InC a b c d), .int .i64 (InD a b c d)], .bool (invB a b c d)]) ∧ Below w.heap.size w w' := by
  cases q : matB a b c d with
  | false =>
    have hv : invB a b c d = false := by simp [invB, q]
    have r0 : InA a b c d = 0 := by simp [InA, hv]
    have r1 : InB a b c d = 0 := by simp [InB, hv]
    have r2 : InC a b c d = 0 := by simp [InC, hv]
    have r3 : InD a b c d = 0 := by simp [InD, hv]
    rw [r0, r1, r2, r3, hv]
    clear r0 r1 r2 r3 hv
    go_enter Try.func37, Try.ntmps37
    go_wp2_with (first | (go_at_call 69; refine (spec_validMatrix _ _ _ _ _).mono ?_; rintro e w' ⟨rfl, hb⟩; obtain ⟨hc, hf⟩ := bcell hb; have hz0 : w.heap.size < w'.heap.size := (by ((have := hb.size; try simp at this); omega)); have hz1 : w.heap.size + 1 < w'.heap.size := (by ((have := hb.size; try simp at this); omega))) | (go_at_call 70; refine (spec_determinant _ _ _ _ _ (by omega) (by omega) (by omega) (by omega)).mono ?_; rintro e w' ⟨rfl, hb⟩; obtain ⟨hc, hf⟩ := bcell hb; have hz0 : w.heap.size < w'.heap.size := (by ((have := hb.size; try simp at this); omega)); have hz1 : w.heap.size + 1 < w'.heap.size := (by ((have := hb.size; try simp at this); omega))) | (go_at_call 64; refine (spec_abs _ _ (by omega) (by omega)).mono ?_; rintro e w' ⟨rfl, rfl⟩))
    refine bodyPost_ret (v := .tuple #[.agg #[.int .i64 0, .int .i64 0, .int .i64 0, .int .i64 0], .bool (false)]) (by simp [results, Try.results37, go_sem, *]) rfl ⟨rfl, ?_⟩
    (repeat (first | with_reducible exact Below.refl _ _ | with_reducible refine bl_alloc ?_ _ | with_reducible refine bl_drew ?_ | with_reducible refine bl_set ?_ (by first | (simp; done) | (simp; omega)) _ | with_reducible refine bl_call (by assumption) ?_))
  | true =>
    obtain ⟨⟨la, ua⟩, ⟨lb, ub⟩, ⟨lc, uc⟩, ⟨ld, ud⟩⟩ := matB_true q
    obtain ⟨dl, du⟩ := det_bd a b c d q
    obtain ⟨D, hD⟩ : ∃ D, detV a b c d = D := ⟨_, rfl⟩
    rw [hD] at dl du
    by_cases h1 : D = 1
    · have hv : invB a b c d = true := by simp [invB, q, hD, h1]
      have r0 : InA a b c d = D * d := by simp [InA, hv, hD]
      have r1 : InB a b c d = -D * b := by simp [InB, hv, hD]
      have r2 : InC a b c d = -D * c := by simp [InC, hv, hD]
      have r3 : InD a b c d = D * a := by simp [InD, hv, hD]
      rw [r0, r1, r2, r3, hv]
      clear r0 r1 r2 r3 hv
      have i1 : (D == 1) = true := by simp [h1]
      have i2 : (D != 1) = false := by simp [h1]
      have i5 : (iabs D == 1) = true := by simp only [iabs, beq_iff_eq]; omega
      have i6 : (iabs D != 1) = false := by simp only [iabs, bne_eq_false_iff_eq]; omega
      obtain ⟨p0, t0⟩ := mul_bd (D) d 1 1000 (by omega) (by omega) (by omega) (by omega)
      obtain ⟨p1, t1⟩ := mul_bd (-D) b 1 1000 (by omega) (by omega) (by omega) (by omega)
      obtain ⟨p2, t2⟩ := mul_bd (-D) c 1 1000 (by omega) (by omega) (by omega) (by omega)
      obtain ⟨p3, t3⟩ := mul_bd (D) a 1 1000 (by omega) (by omega) (by omega) (by omega)
      clear h1
      go_enter Try.func37, Try.ntmps37
      go_wp2_with (first | (go_at_call 69; refine (spec_validMatrix _ _ _ _ _).mono ?_; rintro e w' ⟨rfl, hb⟩; obtain ⟨hc, hf⟩ := bcell hb; have hz0 : w.heap.size < w'.heap.size := (by ((have := hb.size; try simp at this); omega)); have hz1 : w.heap.size + 1 < w'.heap.size := (by ((have := hb.size; try simp at this); omega))) | (go_at_call 70; refine (spec_determinant _ _ _ _ _ (by omega) (by omega) (by omega) (by omega)).mono ?_; rintro e w' ⟨rfl, hb⟩; obtain ⟨hc, hf⟩ := bcell hb; have hz0 : w.heap.size < w'.heap.size := (by ((have := hb.size; try simp at this); omega)); have hz1 : w.heap.size + 1 < w'.heap.size := (by ((have := hb.size; try simp at this); omega))) | (go_at_call 64; refine (spec_abs _ _ (by omega) (by omega)).mono ?_; rintro e w' ⟨rfl, rfl⟩))
      refine bodyPost_ret (v := .tuple #[.agg #[.int .i64 (D * d), .int .i64 (-D * b), .int .i64 (-D * c), .int .i64 (D * a)], .bool (true)]) (by simp [results, Try.results37, go_sem, *]) rfl ⟨rfl, ?_⟩
      (repeat (first | with_reducible exact Below.refl _ _ | with_reducible refine bl_alloc ?_ _ | with_reducible refine bl_drew ?_ | with_reducible refine bl_set ?_ (by first | (simp; done) | (simp; omega)) _ | with_reducible refine bl_call (by assumption) ?_))
    · by_cases h2 : D = -1
      · have hv : invB a b c d = true := by simp [invB, q, hD, h2]
        have r0 : InA a b c d = D * d := by simp [InA, hv, hD]
        have r1 : InB a b c d = -D * b := by simp [InB, hv, hD]
        have r2 : InC a b c d = -D * c := by simp [InC, hv, hD]
        have r3 : InD a b c d = D * a := by simp [InD, hv, hD]
        rw [r0, r1, r2, r3, hv]
        clear r0 r1 r2 r3 hv
        have i1 : (D == 1) = false := by simp [h2]
        have i2 : (D != 1) = true := by simp [h2]
        have i3 : (D == -1) = true := by simp [h2]
        have i4 : (D != -1) = false := by simp [h2]
        have i5 : (iabs D == 1) = true := by simp only [iabs, beq_iff_eq]; omega
        have i6 : (iabs D != 1) = false := by simp only [iabs, bne_eq_false_iff_eq]; omega
        obtain ⟨p0, t0⟩ := mul_bd (D) d 1 1000 (by omega) (by omega) (by omega) (by omega)
        obtain ⟨p1, t1⟩ := mul_bd (-D) b 1 1000 (by omega) (by omega) (by omega) (by omega)
        obtain ⟨p2, t2⟩ := mul_bd (-D) c 1 1000 (by omega) (by omega) (by omega) (by omega)
        obtain ⟨p3, t3⟩ := mul_bd (D) a 1 1000 (by omega) (by omega) (by omega) (by omega)
        clear h2
        go_enter Try.func37, Try.ntmps37
        go_wp2_with (first | (go_at_call 69; refine (spec_validMatrix _ _ _ _ _).mono ?_; rintro e w' ⟨rfl, hb⟩; obtain ⟨hc, hf⟩ := bcell hb; have hz0 : w.heap.size < w'.heap.size := (by ((have := hb.size; try simp at this); omega)); have hz1 : w.heap.size + 1 < w'.heap.size := (by ((have := hb.size; try simp at this); omega))) | (go_at_call 70; refine (spec_determinant _ _ _ _ _ (by omega) (by omega) (by omega) (by omega)).mono ?_; rintro e w' ⟨rfl, hb⟩; obtain ⟨hc, hf⟩ := bcell hb; have hz0 : w.heap.size < w'.heap.size := (by ((have := hb.size; try simp at this); omega)); have hz1 : w.heap.size + 1 < w'.heap.size := (by ((have := hb.size; try simp at this); omega))) | (go_at_call 64; refine (spec_abs _ _ (by omega) (by omega)).mono ?_; rintro e w' ⟨rfl, rfl⟩))
        refine bodyPost_ret (v := .tuple #[.agg #[.int .i64 (D * d), .int .i64 (-D * b), .int .i64 (-D * c), .int .i64 (D * a)], .bool (true)]) (by simp [results, Try.results37, go_sem, *]) rfl ⟨rfl, ?_⟩
        (repeat (first | with_reducible exact Below.refl _ _ | with_reducible refine bl_alloc ?_ _ | with_reducible refine bl_drew ?_ | with_reducible refine bl_set ?_ (by first | (simp; done) | (simp; omega)) _ | with_reducible refine bl_call (by assumption) ?_))
      · have hv : invB a b c d = false := by simp [invB, q, hD, h1, h2]
        have r0 : InA a b c d = 0 := by simp [InA, hv]
        have r1 : InB a b c d = 0 := by simp [InB, hv]
        have r2 : InC a b c d = 0 := by simp [InC, hv]
        have r3 : InD a b c d = 0 := by simp [InD, hv]
        rw [r0, r1, r2, r3, hv]
        clear r0 r1 r2 r3 hv
        have i1 : (D == 1) = false := by simp [h1]
        have i2 : (D == -1) = false := by simp [h2]
        have i3 : (D != 1) = true := by simp [h1]
        have i4 : (D != -1) = true := by simp [h2]
        have i5 : (iabs D == 1) = false := by simp only [iabs, beq_eq_false_iff_ne]; omega
        have i6 : (iabs D != 1) = true := by simp only [iabs, bne_iff_ne]; omega
        go_enter Try.func37, Try.ntmps37
        go_wp2_with (first | (go_at_call 69; refine (spec_validMatrix _ _ _ _ _).mono ?_; rintro e w' ⟨rfl, hb⟩; obtain ⟨hc, hf⟩ := bcell hb; have hz0 : w.heap.size < w'.heap.size := (by ((have := hb.size; try simp at this); omega)); have hz1 : w.heap.size + 1 < w'.heap.size := (by ((have := hb.size; try simp at this); omega))) | (go_at_call 70; refine (spec_determinant _ _ _ _ _ (by omega) (by omega) (by omega) (by omega)).mono ?_; rintro e w' ⟨rfl, hb⟩; obtain ⟨hc, hf⟩ := bcell hb; have hz0 : w.heap.size < w'.heap.size := (by ((have := hb.size; try simp at this); omega)); have hz1 : w.heap.size + 1 < w'.heap.size := (by ((have := hb.size; try simp at this); omega))) | (go_at_call 64; refine (spec_abs _ _ (by omega) (by omega)).mono ?_; rintro e w' ⟨rfl, rfl⟩))
        refine bodyPost_ret (v := .tuple #[.agg #[.int .i64 0, .int .i64 0, .int .i64 0, .int .i64 0], .bool (false)]) (by simp [results, Try.results37, go_sem, *]) rfl ⟨rfl, ?_⟩
        (repeat (first | with_reducible exact Below.refl _ _ | with_reducible refine bl_alloc ?_ _ | with_reducible refine bl_drew ?_ | with_reducible refine bl_set ?_ (by first | (simp; done) | (simp; omega)) _ | with_reducible refine bl_call (by assumption) ?_))

set_option maxHeartbeats 2000000 in
theorem impl_InvertMatrix (a : Int) (b : Int) (c : Int) (d : Int) (w : World) :
    Calls Try.prog 36 #[.agg #[.int .i64 a, .int .i64 b, .int .i64 c, .int .i64 d]] w fun e w' => e = .returned (.tuple #[.agg #[.int .i64 (InA a b c d), .int .i64 (InB a b c d), .int .i64 (InC a b c d), .int .i64 (InD a b c d)], .bool (invB a b c d)]) ∧ Below w.heap.size w w' := by
  cases q : matB a b c d with
  | false =>
    have hv : invB a b c d = false := by simp [invB, q]
    have r0 : InA a b c d = 0 := by simp [InA, hv]
    have r1 : InB a b c d = 0 := by simp [InB, hv]
    have r2 : InC a b c d = 0 := by simp [InC, hv]
    have r3 : InD a b c d = 0 := by simp [InD, hv]
    rw [r0, r1, r2, r3, hv]
    clear r0 r1 r2 r3 hv
    have hF : DetF a b c d = 0 := by simp [DetF, q]
    go_enter Try.func36, Try.ntmps36
    go_wp2_with (first | (go_at_call 34; refine (impl_Determinant _ _ _ _ _).mono ?_; rintro e w' ⟨rfl, hb⟩; obtain ⟨hc, hf⟩ := bcell hb; have hz0 : w.heap.size < w'.heap.size := (by ((have := hb.size; try simp at this); omega)); have hz1 : w.heap.size + 1 < w'.heap.size := (by ((have := hb.size; try simp at this); omega))))
    refine bodyPost_ret (v := .tuple #[.agg #[.int .i64 0, .int .i64 0, .int .i64 0, .int .i64 0], .bool (false)]) (by simp [results, Try.results36, go_sem, *]) rfl ⟨rfl, ?_⟩
    (repeat (first | with_reducible exact Below.refl _ _ | with_reducible refine bl_alloc ?_ _ | with_reducible refine bl_drew ?_ | with_reducible refine bl_set ?_ (by first | (simp; done) | (simp; omega)) _ | with_reducible refine bl_call (by assumption) ?_))
  | true =>
    obtain ⟨⟨la, ua⟩, ⟨lb, ub⟩, ⟨lc, uc⟩, ⟨ld, ud⟩⟩ := matB_true q
    obtain ⟨dl, du⟩ := det_bd a b c d q
    obtain ⟨D, hD⟩ : ∃ D, detV a b c d = D := ⟨_, rfl⟩
    rw [hD] at dl du
    have hF : DetF a b c d = D := by simp [DetF, q, hD]
    by_cases h1 : D = 1
    · have hv : invB a b c d = true := by simp [invB, q, hD, h1]
      have r0 : InA a b c d = D * d := by simp [InA, hv, hD]
      have r1 : InB a b c d = -D * b := by simp [InB, hv, hD]
      have r2 : InC a b c d = -D * c := by simp [InC, hv, hD]
      have r3 : InD a b c d = D * a := by simp [InD, hv, hD]
      rw [r0, r1, r2, r3, hv]
      clear r0 r1 r2 r3 hv
      have i1 : (D == 1) = true := by simp [h1]
      have i2 : (D != 1) = false := by simp [h1]
      have i5 : (iabs D == 1) = true := by simp only [iabs, beq_iff_eq]; omega
      have i6 : (iabs D != 1) = false := by simp only [iabs, bne_eq_false_iff_eq]; omega
      obtain ⟨p0, t0⟩ := mul_bd (D) d 1 1000 (by omega) (by omega) (by omega) (by omega)
      obtain ⟨p1, t1⟩ := mul_bd (-D) b 1 1000 (by omega) (by omega) (by omega) (by omega)
      obtain ⟨p2, t2⟩ := mul_bd (-D) c 1 1000 (by omega) (by omega) (by omega) (by omega)
      obtain ⟨p3, t3⟩ := mul_bd (D) a 1 1000 (by omega) (by omega) (by omega) (by omega)
      clear h1
      go_enter Try.func36, Try.ntmps36
      go_wp2_with (first | (go_at_call 34; refine (impl_Determinant _ _ _ _ _).mono ?_; rintro e w' ⟨rfl, hb⟩; obtain ⟨hc, hf⟩ := bcell hb; have hz0 : w.heap.size < w'.heap.size := (by ((have := hb.size; try simp at this); omega)); have hz1 : w.heap.size + 1 < w'.heap.size := (by ((have := hb.size; try simp at this); omega))))
      refine bodyPost_ret (v := .tuple #[.agg #[.int .i64 (D * d), .int .i64 (-D * b), .int .i64 (-D * c), .int .i64 (D * a)], .bool (true)]) (by simp [results, Try.results36, go_sem, *]) rfl ⟨rfl, ?_⟩
      (repeat (first | with_reducible exact Below.refl _ _ | with_reducible refine bl_alloc ?_ _ | with_reducible refine bl_drew ?_ | with_reducible refine bl_set ?_ (by first | (simp; done) | (simp; omega)) _ | with_reducible refine bl_call (by assumption) ?_))
    · by_cases h2 : D = -1
      · have hv : invB a b c d = true := by simp [invB, q, hD, h2]
        have r0 : InA a b c d = D * d := by simp [InA, hv, hD]
        have r1 : InB a b c d = -D * b := by simp [InB, hv, hD]
        have r2 : InC a b c d = -D * c := by simp [InC, hv, hD]
        have r3 : InD a b c d = D * a := by simp [InD, hv, hD]
        rw [r0, r1, r2, r3, hv]
        clear r0 r1 r2 r3 hv
        have i1 : (D == 1) = false := by simp [h2]
        have i2 : (D != 1) = true := by simp [h2]
        have i3 : (D == -1) = true := by simp [h2]
        have i4 : (D != -1) = false := by simp [h2]
        have i5 : (iabs D == 1) = true := by simp only [iabs, beq_iff_eq]; omega
        have i6 : (iabs D != 1) = false := by simp only [iabs, bne_eq_false_iff_eq]; omega
        obtain ⟨p0, t0⟩ := mul_bd (D) d 1 1000 (by omega) (by omega) (by omega) (by omega)
        obtain ⟨p1, t1⟩ := mul_bd (-D) b 1 1000 (by omega) (by omega) (by omega) (by omega)
        obtain ⟨p2, t2⟩ := mul_bd (-D) c 1 1000 (by omega) (by omega) (by omega) (by omega)
        obtain ⟨p3, t3⟩ := mul_bd (D) a 1 1000 (by omega) (by omega) (by omega) (by omega)
        clear h2
        go_enter Try.func36, Try.ntmps36
        go_wp2_with (first | (go_at_call 34; refine (impl_Determinant _ _ _ _ _).mono ?_; rintro e w' ⟨rfl, hb⟩; obtain ⟨hc, hf⟩ := bcell hb; have hz0 : w.heap.size < w'.heap.size := (by ((have := hb.size; try simp at this); omega)); have hz1 : w.heap.size + 1 < w'.heap.size := (by ((have := hb.size; try simp at this); omega))))
        refine bodyPost_ret (v := .tuple #[.agg #[.int .i64 (D * d), .int .i64 (-D * b), .int .i64 (-D * c), .int .i64 (D * a)], .bool (true)]) (by simp [results, Try.results36, go_sem, *]) rfl ⟨rfl, ?_⟩
        (repeat (first | with_reducible exact Below.refl _ _ | with_reducible refine bl_alloc ?_ _ | with_reducible refine bl_drew ?_ | with_reducible refine bl_set ?_ (by first | (simp; done) | (simp; omega)) _ | with_reducible refine bl_call (by assumption) ?_))
      · have hv : invB a b c d = false := by simp [invB, q, hD, h1, h2]
        have r0 : InA a b c d = 0 := by simp [InA, hv]
        have r1 : InB a b c d = 0 := by simp [InB, hv]
        have r2 : InC a b c d = 0 := by simp [InC, hv]
        have r3 : InD a b c d = 0 := by simp [InD, hv]
        rw [r0, r1, r2, r3, hv]
        clear r0 r1 r2 r3 hv
        have i1 : (D == 1) = false := by simp [h1]
        have i2 : (D == -1) = false := by simp [h2]
        have i3 : (D != 1) = true := by simp [h1]
        have i4 : (D != -1) = true := by simp [h2]
        have i5 : (iabs D == 1) = false := by simp only [iabs, beq_eq_false_iff_ne]; omega
        have i6 : (iabs D != 1) = true := by simp only [iabs, bne_iff_ne]; omega
        go_enter Try.func36, Try.ntmps36
        go_wp2_with (first | (go_at_call 34; refine (impl_Determinant _ _ _ _ _).mono ?_; rintro e w' ⟨rfl, hb⟩; obtain ⟨hc, hf⟩ := bcell hb; have hz0 : w.heap.size < w'.heap.size := (by ((have := hb.size; try simp at this); omega)); have hz1 : w.heap.size + 1 < w'.heap.size := (by ((have := hb.size; try simp at this); omega))))
        refine bodyPost_ret (v := .tuple #[.agg #[.int .i64 0, .int .i64 0, .int .i64 0, .int .i64 0], .bool (false)]) (by simp [results, Try.results36, go_sem, *]) rfl ⟨rfl, ?_⟩
        (repeat (first | with_reducible exact Below.refl _ _ | with_reducible refine bl_alloc ?_ _ | with_reducible refine bl_drew ?_ | with_reducible refine bl_set ?_ (by first | (simp; done) | (simp; omega)) _ | with_reducible refine bl_call (by assumption) ?_))

end Go.Proofs.Ytkhocfoggjdccaa
