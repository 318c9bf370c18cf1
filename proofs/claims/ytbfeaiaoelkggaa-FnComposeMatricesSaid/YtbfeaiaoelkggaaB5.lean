/- Contracts of functions that this seat's statements reach: each is shown to compute a plain Lean function, and to leave what was there as it was. No conditions but those in each theorem. -/
import Derived.Test.YtbfeaiaoelkggaaMat
import Derived.Test.YtbfeaiaoelkggaaPlainD
namespace Go.Proofs.Ytbfeaiaoelkggaa
open Go.RowKit
set_option linter.unusedVariables false

open Go.Sort

theorem impl_Matrix_made (a : Int) (b : Int) (c : Int) (d : Int) (w : World) :
    Calls Try.prog 28 #[.agg #[.int .i64 a, .int .i64 b, .int .i64 c, .int .i64 d]] w fun e w' => e = .returned (.tuple #[.agg #[.int .i64 (okm a b c d a), .int .i64 (okm a b c d b), .int .i64 (okm a b c d c), .int .i64 (okm a b c d d)], .bool (matB a b c d)]) ∧ Below w.heap.size w w' := by
  cases q : matB a b c d with
  | false =>
    have hr0 : okm a b c d a = 0 := by simp [okm, q]
    have hr1 : okm a b c d b = 0 := by simp [okm, q]
    have hr2 : okm a b c d c = 0 := by simp [okm, q]
    have hr3 : okm a b c d d = 0 := by simp [okm, q]
    rw [hr0, hr1, hr2, hr3]
    clear hr0 hr1 hr2 hr3
    go_enter Try.func28, Try.ntmps28
    go_wp2_with (first | (go_at_call 26; refine (impl_Matrix_valid _ _ _ _ _).mono ?_; rintro e w' ⟨rfl, hb⟩; obtain ⟨hc, hf⟩ := bcell hb; have hz0 : w.heap.size < w'.heap.size := (by ((have := hb.size; try simp at this); omega)); have hz1 : w.heap.size + 1 < w'.heap.size := (by ((have := hb.size; try simp at this); omega))))
    refine bodyPost_ret (v := .tuple #[.agg #[.int .i64 0, .int .i64 0, .int .i64 0, .int .i64 0], .bool (false)]) (by simp [results, Try.results28, go_sem, *]) rfl ⟨rfl, ?_⟩
    (repeat (first | with_reducible exact Below.refl _ _ | with_reducible refine bl_alloc ?_ _ | with_reducible refine bl_drew ?_ | with_reducible refine bl_set ?_ (by first | (simp; done) | (simp; omega)) _ | with_reducible refine bl_call (by assumption) ?_))
  | true =>
    have hr0 : okm a b c d a = a := by simp [okm, q]
    have hr1 : okm a b c d b = b := by simp [okm, q]
    have hr2 : okm a b c d c = c := by simp [okm, q]
    have hr3 : okm a b c d d = d := by simp [okm, q]
    rw [hr0, hr1, hr2, hr3]
    clear hr0 hr1 hr2 hr3
    go_enter Try.func28, Try.ntmps28
    go_wp2_with (first | (go_at_call 26; refine (impl_Matrix_valid _ _ _ _ _).mono ?_; rintro e w' ⟨rfl, hb⟩; obtain ⟨hc, hf⟩ := bcell hb; have hz0 : w.heap.size < w'.heap.size := (by ((have := hb.size; try simp at this); omega)); have hz1 : w.heap.size + 1 < w'.heap.size := (by ((have := hb.size; try simp at this); omega))))
    refine bodyPost_ret (v := .tuple #[.agg #[.int .i64 a, .int .i64 b, .int .i64 c, .int .i64 d], .bool (true)]) (by simp [results, Try.results28, go_sem, *]) rfl ⟨rfl, ?_⟩
    (repeat (first | with_reducible exact Below.refl _ _ | with_reducible refine bl_alloc ?_ _ | with_reducible refine bl_drew ?_ | with_reducible refine bl_set ?_ (by first | (simp; done) | (simp; omega)) _ | with_reducible refine bl_call (by assumption) ?_))

theorem impl_Matrix_times (a : Int) (b : Int) (c : Int) (d : Int) (x : Int) (y : Int) (w : World) (ha : -1000 ≤ a ∧ a ≤ 1000) (hb : -1000 ≤ b ∧ b ≤ 1000) (hc : -1000 ≤ c ∧ c ≤ 1000) (hd : -1000 ≤ d ∧ d ≤ 1000) (hx : -1000 ≤ x ∧ x ≤ 1000) (hy : -1000 ≤ y ∧ y ≤ 1000) :
    Calls Try.prog 27 #[.agg #[.int .i64 a, .int .i64 b, .int .i64 c, .int .i64 d], .agg #[.int .i64 x, .int .i64 y]] w fun e w' => e = .returned (.agg #[.int .i64 (mm a b x y), .int .i64 (mm c d x y)]) ∧ Below w.heap.size w w' := by
  obtain ⟨la, ua⟩ := ha
  obtain ⟨lb, ub⟩ := hb
  obtain ⟨lc, uc⟩ := hc
  obtain ⟨ld, ud⟩ := hd
  obtain ⟨lx, ux⟩ := hx
  obtain ⟨ly, uy⟩ := hy
  obtain ⟨m1l, m1u⟩ := mul_bd a x 1000 1000 (by omega) (by omega) (by omega) (by omega)
  obtain ⟨m2l, m2u⟩ := mul_bd b y 1000 1000 (by omega) (by omega) (by omega) (by omega)
  obtain ⟨m3l, m3u⟩ := mul_bd c x 1000 1000 (by omega) (by omega) (by omega) (by omega)
  obtain ⟨m4l, m4u⟩ := mul_bd d y 1000 1000 (by omega) (by omega) (by omega) (by omega)
  go_enter Try.func27, Try.ntmps27
  go_wp2
  refine bodyPost_ret (v := .agg #[.int .i64 (mm a b x y), .int .i64 (mm c d x y)]) (by simp [results, Try.results27, go_sem, mm]) rfl ⟨rfl, ?_⟩
  (repeat (first | with_reducible exact Below.refl _ _ | with_reducible refine bl_alloc ?_ _ | with_reducible refine bl_drew ?_ | with_reducible refine bl_set ?_ (by first | (simp; done) | (simp; omega)) _ | with_reducible refine bl_call (by assumption) ?_))

end Go.Proofs.Ytbfeaiaoelkggaa
