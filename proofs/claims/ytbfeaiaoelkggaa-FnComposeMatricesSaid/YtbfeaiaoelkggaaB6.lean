/- Contracts of functions that this seat's statements reach: each is shown to compute a plain Lean function, and to leave what was there as it was. No conditions but those in each theorem. -/
import Derived.Test.YtbfeaiaoelkggaaB5
namespace Go.Proofs.Ytbfeaiaoelkggaa
open Go.RowKit
set_option linter.unusedVariables false

open Go.Sort

set_option maxHeartbeats 2000000 in
theorem spec_ComposeMatrices (a : Int) (b : Int) (c : Int) (d : Int) (p : Int) (q : Int) (r : Int) (s : Int) (w : World) :
    Calls Try.prog 9 #[.agg #[.int .i64 a, .int .i64 b, .int .i64 c, .int .i64 d], .agg #[.int .i64 p, .int .i64 q, .int .i64 r, .int .i64 s]] w fun e w' => e = .returned (.tuple #[.agg #[.int .i64 (CmA a b c d p q r s), .int .i64 (CmB a b c d p q r s), .int .i64 (CmC a b c d p q r s), .int .i64 (CmD a b c d p q r s)], .bool (cmB a b c d p q r s)]) ∧ Below w.heap.size w w' := by
  cases qa : matB a b c d with
  | false =>
    have hv : cmB a b c d p q r s = false := by simp [cmB, qa]
    have hr0 : CmA a b c d p q r s = 0 := by simp [CmA, hv]
    have hr1 : CmB a b c d p q r s = 0 := by simp [CmB, hv]
    have hr2 : CmC a b c d p q r s = 0 := by simp [CmC, hv]
    have hr3 : CmD a b c d p q r s = 0 := by simp [CmD, hv]
    rw [hr0, hr1, hr2, hr3, hv]
    clear hr0 hr1 hr2 hr3 hv
    go_enter Try.func9, Try.ntmps9
    go_wp2_with (first | (go_at_call 29; refine (spec_validMatrix _ _ _ _ _).mono ?_; rintro e w' ⟨rfl, hb⟩; obtain ⟨hc, hf⟩ := bcell hb; have hz0 : w.heap.size < w'.heap.size := (by ((have := hb.size; try simp at this); omega)); have hz1 : w.heap.size + 1 < w'.heap.size := (by ((have := hb.size; try simp at this); omega)); have hz2 : w.heap.size + 2 < w'.heap.size := (by ((have := hb.size; try simp at this); omega))))
    refine bodyPost_ret (v := .tuple #[.agg #[.int .i64 0, .int .i64 0, .int .i64 0, .int .i64 0], .bool (false)]) (by simp [results, Try.results9, go_sem, *]) rfl ⟨rfl, ?_⟩
    (repeat (first | with_reducible exact Below.refl _ _ | with_reducible refine bl_alloc ?_ _ | with_reducible refine bl_drew ?_ | with_reducible refine bl_set ?_ (by first | (simp; done) | (simp; omega)) _ | with_reducible refine bl_call (by assumption) ?_))
  | true =>
    cases qb : matB p q r s with
    | false =>
      have hv : cmB a b c d p q r s = false := by simp [cmB, qa, qb]
      have hr0 : CmA a b c d p q r s = 0 := by simp [CmA, hv]
      have hr1 : CmB a b c d p q r s = 0 := by simp [CmB, hv]
      have hr2 : CmC a b c d p q r s = 0 := by simp [CmC, hv]
      have hr3 : CmD a b c d p q r s = 0 := by simp [CmD, hv]
      rw [hr0, hr1, hr2, hr3, hv]
      clear hr0 hr1 hr2 hr3 hv
      go_enter Try.func9, Try.ntmps9
      go_wp2_with (first | (go_at_call 29; refine (spec_validMatrix _ _ _ _ _).mono ?_; rintro e w' ⟨rfl, hb⟩; obtain ⟨hc, hf⟩ := bcell hb; have hz0 : w.heap.size < w'.heap.size := (by ((have := hb.size; try simp at this); omega)); have hz1 : w.heap.size + 1 < w'.heap.size := (by ((have := hb.size; try simp at this); omega)); have hz2 : w.heap.size + 2 < w'.heap.size := (by ((have := hb.size; try simp at this); omega))))
      refine bodyPost_ret (v := .tuple #[.agg #[.int .i64 0, .int .i64 0, .int .i64 0, .int .i64 0], .bool (false)]) (by simp [results, Try.results9, go_sem, *]) rfl ⟨rfl, ?_⟩
      (repeat (first | with_reducible exact Below.refl _ _ | with_reducible refine bl_alloc ?_ _ | with_reducible refine bl_drew ?_ | with_reducible refine bl_set ?_ (by first | (simp; done) | (simp; omega)) _ | with_reducible refine bl_call (by assumption) ?_))
    | true =>
      cases qm : matB (mm a b p r) (mm a b q s) (mm c d p r) (mm c d q s) with
      | false =>
        have hv : cmB a b c d p q r s = false := by simp [cmB, qa, qb, qm]
        have hr0 : CmA a b c d p q r s = 0 := by simp [CmA, hv]
        have hr1 : CmB a b c d p q r s = 0 := by simp [CmB, hv]
        have hr2 : CmC a b c d p q r s = 0 := by simp [CmC, hv]
        have hr3 : CmD a b c d p q r s = 0 := by simp [CmD, hv]
        rw [hr0, hr1, hr2, hr3, hv]
        clear hr0 hr1 hr2 hr3 hv
        obtain ⟨⟨la, ua⟩, ⟨lb, ub⟩, ⟨lc, uc⟩, ⟨ld, ud⟩⟩ := matB_true qa
        obtain ⟨⟨lp, up⟩, ⟨lq, uq⟩, ⟨lr, ur⟩, ⟨ls, us⟩⟩ := matB_true qb
        obtain ⟨m0l, m0u⟩ := mul_bd a p 1000 1000 (by omega) (by omega) (by omega) (by omega)
        obtain ⟨m1l, m1u⟩ := mul_bd b r 1000 1000 (by omega) (by omega) (by omega) (by omega)
        obtain ⟨m2l, m2u⟩ := mul_bd a q 1000 1000 (by omega) (by omega) (by omega) (by omega)
        obtain ⟨m3l, m3u⟩ := mul_bd b s 1000 1000 (by omega) (by omega) (by omega) (by omega)
        obtain ⟨m4l, m4u⟩ := mul_bd c p 1000 1000 (by omega) (by omega) (by omega) (by omega)
        obtain ⟨m5l, m5u⟩ := mul_bd d r 1000 1000 (by omega) (by omega) (by omega) (by omega)
        obtain ⟨m6l, m6u⟩ := mul_bd c q 1000 1000 (by omega) (by omega) (by omega) (by omega)
        obtain ⟨m7l, m7u⟩ := mul_bd d s 1000 1000 (by omega) (by omega) (by omega) (by omega)
        have e0 : a * p + b * r = mm a b p r := rfl
        have e1 : a * q + b * s = mm a b q s := rfl
        have e2 : c * p + d * r = mm c d p r := rfl
        have e3 : c * q + d * s = mm c d q s := rfl
        go_enter Try.func9, Try.ntmps9
        go_wp2_with (first | (go_at_call 29; refine (spec_validMatrix _ _ _ _ _).mono ?_; rintro e w' ⟨rfl, hb⟩; obtain ⟨hc, hf⟩ := bcell hb; have hz0 : w.heap.size < w'.heap.size := (by ((have := hb.size; try simp at this); omega)); have hz1 : w.heap.size + 1 < w'.heap.size := (by ((have := hb.size; try simp at this); omega)); have hz2 : w.heap.size + 2 < w'.heap.size := (by ((have := hb.size; try simp at this); omega))))
        refine bodyPost_ret (v := .tuple #[.agg #[.int .i64 0, .int .i64 0, .int .i64 0, .int .i64 0], .bool (false)]) (by simp [results, Try.results9, go_sem, *]) rfl ⟨rfl, ?_⟩
        (repeat (first | with_reducible exact Below.refl _ _ | with_reducible refine bl_alloc ?_ _ | with_reducible refine bl_drew ?_ | with_reducible refine bl_set ?_ (by first | (simp; done) | (simp; omega)) _ | with_reducible refine bl_call (by assumption) ?_))
      | true =>
        have hv : cmB a b c d p q r s = true := by simp [cmB, qa, qb, qm]
        have hr0 : CmA a b c d p q r s = mm a b p r := by simp [CmA, hv]
        have hr1 : CmB a b c d p q r s = mm a b q s := by simp [CmB, hv]
        have hr2 : CmC a b c d p q r s = mm c d p r := by simp [CmC, hv]
        have hr3 : CmD a b c d p q r s = mm c d q s := by simp [CmD, hv]
        rw [hr0, hr1, hr2, hr3, hv]
        clear hr0 hr1 hr2 hr3 hv
        obtain ⟨⟨la, ua⟩, ⟨lb, ub⟩, ⟨lc, uc⟩, ⟨ld, ud⟩⟩ := matB_true qa
        obtain ⟨⟨lp, up⟩, ⟨lq, uq⟩, ⟨lr, ur⟩, ⟨ls, us⟩⟩ := matB_true qb
        obtain ⟨m0l, m0u⟩ := mul_bd a p 1000 1000 (by omega) (by omega) (by omega) (by omega)
        obtain ⟨m1l, m1u⟩ := mul_bd b r 1000 1000 (by omega) (by omega) (by omega) (by omega)
        obtain ⟨m2l, m2u⟩ := mul_bd a q 1000 1000 (by omega) (by omega) (by omega) (by omega)
        obtain ⟨m3l, m3u⟩ := mul_bd b s 1000 1000 (by omega) (by omega) (by omega) (by omega)
        obtain ⟨m4l, m4u⟩ := mul_bd c p 1000 1000 (by omega) (by omega) (by omega) (by omega)
        obtain ⟨m5l, m5u⟩ := mul_bd d r 1000 1000 (by omega) (by omega) (by omega) (by omega)
        obtain ⟨m6l, m6u⟩ := mul_bd c q 1000 1000 (by omega) (by omega) (by omega) (by omega)
        obtain ⟨m7l, m7u⟩ := mul_bd d s 1000 1000 (by omega) (by omega) (by omega) (by omega)
        have e0 : a * p + b * r = mm a b p r := rfl
        have e1 : a * q + b * s = mm a b q s := rfl
        have e2 : c * p + d * r = mm c d p r := rfl
        have e3 : c * q + d * s = mm c d q s := rfl
        go_enter Try.func9, Try.ntmps9
        go_wp2_with (first | (go_at_call 29; refine (spec_validMatrix _ _ _ _ _).mono ?_; rintro e w' ⟨rfl, hb⟩; obtain ⟨hc, hf⟩ := bcell hb; have hz0 : w.heap.size < w'.heap.size := (by ((have := hb.size; try simp at this); omega)); have hz1 : w.heap.size + 1 < w'.heap.size := (by ((have := hb.size; try simp at this); omega)); have hz2 : w.heap.size + 2 < w'.heap.size := (by ((have := hb.size; try simp at this); omega))))
        refine bodyPost_ret (v := .tuple #[.agg #[.int .i64 (mm a b p r), .int .i64 (mm a b q s), .int .i64 (mm c d p r), .int .i64 (mm c d q s)], .bool (true)]) (by simp [results, Try.results9, go_sem, *]) rfl ⟨rfl, ?_⟩
        (repeat (first | with_reducible exact Below.refl _ _ | with_reducible refine bl_alloc ?_ _ | with_reducible refine bl_drew ?_ | with_reducible refine bl_set ?_ (by first | (simp; done) | (simp; omega)) _ | with_reducible refine bl_call (by assumption) ?_))

end Go.Proofs.Ytbfeaiaoelkggaa
