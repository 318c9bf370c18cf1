/- Contracts of functions that this seat's statements reach: each is shown to compute a plain Lean function, and to leave what was there as it was. No conditions but those in each theorem. -/
import Derived.Test.YtgbociejgnifiaaCtn
import Derived.Test.YtgbociejgnifiaaPlainR
namespace Go.Proofs.Ytgbociejgnifiaa
open Go.RowKit
set_option linter.unusedVariables false

open Go.Sort

set_option maxHeartbeats 1000000 in
theorem laws_toRect (a : Int) (b : Int) (c : Int) (d : Int) (w : World) :
    Calls Try.prog 40 #[.agg #[.int .i64 a, .int .i64 b, .int .i64 c, .int .i64 d]] w fun e w' => e = .returned (.agg #[.int .i64 a, .int .i64 b, .int .i64 c, .int .i64 d]) ∧ Below w.heap.size w w' := by
  go_enter Try.func40, Try.ntmps40
  go_wp2_with fail
  refine (laws_toPoint _ _ _).mono ?_
  rintro e w1 ⟨rfl, hb1⟩
  obtain ⟨hc1, hf1⟩ := bcell hb1
  have s1 := hb1.size
  try simp at s1
  have z1_0 : w.heap.size < w1.heap.size := by omega
  have z1_1 : w.heap.size + 1 < w1.heap.size := by omega
  have z1_2 : w.heap.size + 1 + 1 < w1.heap.size := by omega
  go_wp2_with fail
  refine (laws_toPoint _ _ _).mono ?_
  rintro e w2 ⟨rfl, hb2⟩
  obtain ⟨hc2, hf2⟩ := bcell hb2
  have s2 := hb2.size
  try simp at s2
  have z2_0 : w.heap.size < w2.heap.size := by omega
  have z2_1 : w.heap.size + 1 < w2.heap.size := by omega
  have z2_2 : w.heap.size + 1 + 1 < w2.heap.size := by omega
  go_wp2
  refine bodyPost_ret (v := .agg #[.int .i64 a, .int .i64 b, .int .i64 c, .int .i64 d]) (by simp [results, Try.results40, go_sem, *]) rfl ⟨rfl, ?_⟩
  (repeat (first | with_reducible exact Below.refl _ _ | with_reducible refine bl_alloc ?_ _ | with_reducible refine bl_drew ?_ | with_reducible refine bl_set ?_ (by first | (simp; done) | (simp; omega)) _ | with_reducible refine bl_call (by assumption) ?_))

theorem laws_eqRect (a : Int) (b : Int) (c : Int) (d : Int) (w : World) :
    Calls Try.prog 42 #[.agg #[.int .i64 a, .int .i64 b, .int .i64 c, .int .i64 d], .agg #[.int .i64 a, .int .i64 b, .int .i64 c, .int .i64 d]] w fun e w' => e = .returned (.bool true) ∧ Below w.heap.size w w' := by
  go_enter Try.func42, Try.ntmps42
  go_wp2_with (first | (go_at_call 88; refine (laws_eqPoint _ _ _).mono ?_; rintro e w' ⟨rfl, hb⟩; obtain ⟨hc, hf⟩ := bcell hb; have hz0 : w.heap.size < w'.heap.size := (by ((have := hb.size; try simp at this); omega)); have hz1 : w.heap.size + 1 < w'.heap.size := (by ((have := hb.size; try simp at this); omega))))
  all_goals go_ret
  all_goals exact ⟨rfl, (by (repeat (first | with_reducible exact Below.refl _ _ | with_reducible refine bl_alloc ?_ _ | with_reducible refine bl_drew ?_ | with_reducible refine bl_set ?_ (by first | (simp; done) | (simp; omega)) _ | with_reducible refine bl_call (by assumption) ?_)))⟩

set_option maxHeartbeats 1000000 in
theorem spec_validRect (a : Int) (b : Int) (c : Int) (d : Int) (w : World) :
    Calls Try.prog 85 #[.agg #[.int .i64 a, .int .i64 b, .int .i64 c, .int .i64 d]] w fun e w' => e = .returned (.bool (rectB a b c d)) ∧ Below w.heap.size w w' := by
  go_enter Try.func85, Try.ntmps85
  go_wp2_with (first | (go_at_call 60; refine (spec_validPoint _ _ _).mono ?_; rintro e w' ⟨rfl, hb⟩; obtain ⟨hc, hf⟩ := bcell hb; have hz0 : w.heap.size < w'.heap.size := (by ((have := hb.size; try simp at this); omega))))
  all_goals go_ret
  all_goals exact ⟨ret_bool (by first | (simp [rectB, v2B, *]; done) | (simp [rectB, v2B, *]; omega)), (by (repeat (first | with_reducible exact Below.refl _ _ | with_reducible refine bl_alloc ?_ _ | with_reducible refine bl_drew ?_ | with_reducible refine bl_set ?_ (by first | (simp; done) | (simp; omega)) _ | with_reducible refine bl_call (by assumption) ?_)))⟩

set_option maxHeartbeats 1000000 in
theorem impl_Rect_valid (a : Int) (b : Int) (c : Int) (d : Int) (w : World) :
    Calls Try.prog 87 #[.agg #[.int .i64 a, .int .i64 b, .int .i64 c, .int .i64 d]] w fun e w' => e = .returned (.bool (rectB a b c d)) ∧ Below w.heap.size w w' := by
  go_enter Try.func87, Try.ntmps87
  go_wp2_with (first | (go_at_call 90; refine (impl_allValid2 _ _ a b c d _ (by simp) ⟨by simp [go_sem], by simp [go_sem], by simp [go_sem], by simp [go_sem]⟩).mono ?_; rintro e w' ⟨rfl, hb⟩; obtain ⟨hc, hf⟩ := bcell hb; have hz0 : w.heap.size < w'.heap.size := (by ((have := hb.size; try simp at this); omega))))
  all_goals go_ret
  all_goals exact ⟨ret_bool (by first | (simp [rectB, *]; done) | (simp [rectB, *]; omega)), (by (repeat (first | with_reducible exact Below.refl _ _ | with_reducible refine bl_alloc ?_ _ | with_reducible refine bl_drew ?_ | with_reducible refine bl_set ?_ (by first | (simp; done) | (simp; omega)) _ | with_reducible refine bl_call (by assumption) ?_)))⟩

set_option maxHeartbeats 2000000 in
theorem spec_meetRects (a : Int) (b : Int) (c : Int) (d : Int) (p : Int) (q : Int) (r : Int) (s : Int) (w : World) :
    Calls Try.prog 86 #[.agg #[.int .i64 a, .int .i64 b, .int .i64 c, .int .i64 d], .agg #[.int .i64 p, .int .i64 q, .int .i64 r, .int .i64 s]] w fun e w' => e = .returned (.tuple #[.agg #[.int .i64 (mxI a p), .int .i64 (mxI b q), .int .i64 (mnI c r), .int .i64 (mnI d s)], .bool (rectB (mxI a p) (mxI b q) (mnI c r) (mnI d s))]) ∧ Below w.heap.size w w' := by
  have e0 : (if a < p then p else a) = mxI a p := rfl
  have e1 : (if b < q then q else b) = mxI b q := rfl
  have e2 : (if r < c then r else c) = mnI c r := rfl
  have e3 : (if s < d then s else d) = mnI d s := rfl
  go_enter Try.func86, Try.ntmps86
  go_wp2
  have fc0 : ((((w.alloc (Obj.cells #[.int .i64 a, .int .i64 b, .int .i64 c, .int .i64 d] 69)).alloc (Obj.cells #[.int .i64 p, .int .i64 q, .int .i64 r, .int .i64 s] 69)).alloc (Obj.cells #[.int .i64 0, .int .i64 0, .int .i64 0, .int .i64 0] 69)).alloc (Obj.cells #[.int .i64 (mxI a p), .int .i64 (mxI b q), .int .i64 (mnI c r), .int .i64 (mnI d s)] 69)).cell? ⟨w.heap.size + 1 + 1 + 1, 0, none⟩ = some (.int .i64 (mxI a p)) := by simp [go_sem]
  have fc1 : ((((w.alloc (Obj.cells #[.int .i64 a, .int .i64 b, .int .i64 c, .int .i64 d] 69)).alloc (Obj.cells #[.int .i64 p, .int .i64 q, .int .i64 r, .int .i64 s] 69)).alloc (Obj.cells #[.int .i64 0, .int .i64 0, .int .i64 0, .int .i64 0] 69)).alloc (Obj.cells #[.int .i64 (mxI a p), .int .i64 (mxI b q), .int .i64 (mnI c r), .int .i64 (mnI d s)] 69)).cell? ⟨w.heap.size + 1 + 1 + 1, 1, none⟩ = some (.int .i64 (mxI b q)) := by simp [go_sem]
  have fc2 : ((((w.alloc (Obj.cells #[.int .i64 a, .int .i64 b, .int .i64 c, .int .i64 d] 69)).alloc (Obj.cells #[.int .i64 p, .int .i64 q, .int .i64 r, .int .i64 s] 69)).alloc (Obj.cells #[.int .i64 0, .int .i64 0, .int .i64 0, .int .i64 0] 69)).alloc (Obj.cells #[.int .i64 (mxI a p), .int .i64 (mxI b q), .int .i64 (mnI c r), .int .i64 (mnI d s)] 69)).cell? ⟨w.heap.size + 1 + 1 + 1, 2, none⟩ = some (.int .i64 (mnI c r)) := by simp [go_sem]
  have fc3 : ((((w.alloc (Obj.cells #[.int .i64 a, .int .i64 b, .int .i64 c, .int .i64 d] 69)).alloc (Obj.cells #[.int .i64 p, .int .i64 q, .int .i64 r, .int .i64 s] 69)).alloc (Obj.cells #[.int .i64 0, .int .i64 0, .int .i64 0, .int .i64 0] 69)).alloc (Obj.cells #[.int .i64 (mxI a p), .int .i64 (mxI b q), .int .i64 (mnI c r), .int .i64 (mnI d s)] 69)).cell? ⟨w.heap.size + 1 + 1 + 1, 3, none⟩ = some (.int .i64 (mnI d s)) := by simp [go_sem]
  go_region_held3 (fun w' => w'.cell? ⟨w.heap.size + 1 + 1 + 1, 0, none⟩ = some (.int .i64 (mxI a p)) ∧ w'.cell? ⟨w.heap.size + 1 + 1 + 1, 1, none⟩ = some (.int .i64 (mxI b q)) ∧ w'.cell? ⟨w.heap.size + 1 + 1 + 1, 2, none⟩ = some (.int .i64 (mnI c r)) ∧ w'.cell? ⟨w.heap.size + 1 + 1 + 1, 3, none⟩ = some (.int .i64 (mnI d s))) ((first | (go_keep; done) | (refine ⟨?_, ?_, ?_, ?_⟩ <;> first | assumption | (go_keep; done) | (simp [go_sem, *]; done)))) (first | (go_at_call 85; refine (spec_validRect _ _ _ _ _).mono ?_; rintro e w' ⟨rfl, hb⟩; have hz0 : w.heap.size < w'.heap.size := (by ((have := hb.size; try simp at this); omega)); have hz1 : w.heap.size + 1 < w'.heap.size := (by ((have := hb.size; try simp at this); omega)); have hz2 : w.heap.size + 1 + 1 < w'.heap.size := (by ((have := hb.size; try simp at this); omega)); have hz3 : w.heap.size + 1 + 1 + 1 < w'.heap.size := (by ((have := hb.size; try simp at this); omega)); have q0 : w'.cell? ⟨w.heap.size + 1 + 1 + 1, 0, none⟩ = some (.int .i64 (mxI a p)) := (hb.cell (p := ⟨w.heap.size + 1 + 1 + 1, 0, none⟩) (by first | (simp; omega) | (simp; done) | omega)).trans (by first | assumption | (simp [*]; done)); have q1 : w'.cell? ⟨w.heap.size + 1 + 1 + 1, 1, none⟩ = some (.int .i64 (mxI b q)) := (hb.cell (p := ⟨w.heap.size + 1 + 1 + 1, 1, none⟩) (by first | (simp; omega) | (simp; done) | omega)).trans (by first | assumption | (simp [*]; done)); have q2 : w'.cell? ⟨w.heap.size + 1 + 1 + 1, 2, none⟩ = some (.int .i64 (mnI c r)) := (hb.cell (p := ⟨w.heap.size + 1 + 1 + 1, 2, none⟩) (by first | (simp; omega) | (simp; done) | omega)).trans (by first | assumption | (simp [*]; done)); have q3 : w'.cell? ⟨w.heap.size + 1 + 1 + 1, 3, none⟩ = some (.int .i64 (mnI d s)) := (hb.cell (p := ⟨w.heap.size + 1 + 1 + 1, 3, none⟩) (by first | (simp; omega) | (simp; done) | omega)).trans (by first | assumption | (simp [*]; done)); obtain ⟨hc, hf⟩ := bcell hb; have hs := hb.size; (try simp at hs); (try have l5 := Nat.lt_of_lt_of_le l4 (show _ ≤ w'.heap.size by omega)); (try have k5 := Nat.lt_of_lt_of_le k4 (show _ ≤ w'.heap.size by omega)); (try have l4 := Nat.lt_of_lt_of_le l3 (show _ ≤ w'.heap.size by omega)); (try have k4 := Nat.lt_of_lt_of_le k3 (show _ ≤ w'.heap.size by omega)); (try have l3 := Nat.lt_of_lt_of_le l2 (show _ ≤ w'.heap.size by omega)); (try have k3 := Nat.lt_of_lt_of_le k2 (show _ ≤ w'.heap.size by omega)); (try have l2 := Nat.lt_of_lt_of_le l1 (show _ ≤ w'.heap.size by omega)); (try have k2 := Nat.lt_of_lt_of_le k1 (show _ ≤ w'.heap.size by omega)); (try have l1 := Nat.lt_of_lt_of_le l0 (show _ ≤ w'.heap.size by omega)); (try have k1 := Nat.lt_of_lt_of_le k0 (show _ ≤ w'.heap.size by omega)); (try have l0 := Nat.lt_of_succ_le hs); (try have k0 := Nat.lt_of_succ_lt (Nat.lt_of_succ_le hs))))
  all_goals go_wp2
  all_goals (refine bodyPost_ret (v := .tuple #[.agg #[.int .i64 (mxI a p), .int .i64 (mxI b q), .int .i64 (mnI c r), .int .i64 (mnI d s)], .bool (rectB (mxI a p) (mxI b q) (mnI c r) (mnI d s))]) (by simp [results, Try.results86, go_sem, *]) rfl ⟨rfl, ?_⟩)
  all_goals (repeat (first | with_reducible exact Below.refl _ _ | with_reducible refine bl_alloc ?_ _ | with_reducible refine bl_drew ?_ | with_reducible refine bl_set ?_ (by first | (simp; done) | (simp; omega)) _ | with_reducible refine bl_call (by assumption) ?_))

set_option maxHeartbeats 2000000 in
theorem spec_MeetRects (a : Int) (b : Int) (c : Int) (d : Int) (p : Int) (q : Int) (r : Int) (s : Int) (w : World) :
    Calls Try.prog 39 #[.agg #[.int .i64 a, .int .i64 b, .int .i64 c, .int .i64 d], .agg #[.int .i64 p, .int .i64 q, .int .i64 r, .int .i64 s]] w fun e w' => e = .returned (.tuple #[.agg #[.int .i64 (MtA a b c d p q r s), .int .i64 (MtB a b c d p q r s), .int .i64 (MtC a b c d p q r s), .int .i64 (MtD a b c d p q r s)], .bool (mtB a b c d p q r s)]) ∧ Below w.heap.size w w' := by
  cases q1 : rectB a b c d with
  | false =>
    have hv : mtB a b c d p q r s = false := by simp [mtB, q1]
    have hr0 : MtA a b c d p q r s = 0 := by simp [MtA, hv]
    have hr1 : MtB a b c d p q r s = 0 := by simp [MtB, hv]
    have hr2 : MtC a b c d p q r s = 0 := by simp [MtC, hv]
    have hr3 : MtD a b c d p q r s = 0 := by simp [MtD, hv]
    rw [hr0, hr1, hr2, hr3, hv]
    clear hr0 hr1 hr2 hr3 hv
    have e0 : (if a < p then p else a) = mxI a p := rfl
    have e1 : (if b < q then q else b) = mxI b q := rfl
    have e2 : (if r < c then r else c) = mnI c r := rfl
    have e3 : (if s < d then s else d) = mnI d s := rfl
    go_enter Try.func39, Try.ntmps39
    go_wp2_with (first | (go_at_call 85; refine (spec_validRect _ _ _ _ _).mono ?_; rintro e w' ⟨rfl, hb⟩; obtain ⟨hc, hf⟩ := bcell hb; have hz0 : w.heap.size < w'.heap.size := (by ((have := hb.size; try simp at this); omega)); have hz1 : w.heap.size + 1 < w'.heap.size := (by ((have := hb.size; try simp at this); omega)); have hz2 : w.heap.size + 2 < w'.heap.size := (by ((have := hb.size; try simp at this); omega))) | (go_at_call 86; refine (spec_meetRects _ _ _ _ _ _ _ _ _).mono ?_; rintro e w' ⟨rfl, hb⟩; obtain ⟨hc, hf⟩ := bcell hb; have hz0 : w.heap.size < w'.heap.size := (by ((have := hb.size; try simp at this); omega)); have hz1 : w.heap.size + 1 < w'.heap.size := (by ((have := hb.size; try simp at this); omega)); have hz2 : w.heap.size + 2 < w'.heap.size := (by ((have := hb.size; try simp at this); omega))))
    refine bodyPost_ret (v := .tuple #[.agg #[.int .i64 0, .int .i64 0, .int .i64 0, .int .i64 0], .bool (false)]) (by simp [results, Try.results39, go_sem, *]) rfl ⟨rfl, ?_⟩
    (repeat (first | with_reducible exact Below.refl _ _ | with_reducible refine bl_alloc ?_ _ | with_reducible refine bl_drew ?_ | with_reducible refine bl_set ?_ (by first | (simp; done) | (simp; omega)) _ | with_reducible refine bl_call (by assumption) ?_))
  | true =>
    cases q2 : rectB p q r s with
    | false =>
      have hv : mtB a b c d p q r s = false := by simp [mtB, q1, q2]
      have hr0 : MtA a b c d p q r s = 0 := by simp [MtA, hv]
      have hr1 : MtB a b c d p q r s = 0 := by simp [MtB, hv]
      have hr2 : MtC a b c d p q r s = 0 := by simp [MtC, hv]
      have hr3 : MtD a b c d p q r s = 0 := by simp [MtD, hv]
      rw [hr0, hr1, hr2, hr3, hv]
      clear hr0 hr1 hr2 hr3 hv
      have e0 : (if a < p then p else a) = mxI a p := rfl
      have e1 : (if b < q then q else b) = mxI b q := rfl
      have e2 : (if r < c then r else c) = mnI c r := rfl
      have e3 : (if s < d then s else d) = mnI d s := rfl
      go_enter Try.func39, Try.ntmps39
      go_wp2_with (first | (go_at_call 85; refine (spec_validRect _ _ _ _ _).mono ?_; rintro e w' ⟨rfl, hb⟩; obtain ⟨hc, hf⟩ := bcell hb; have hz0 : w.heap.size < w'.heap.size := (by ((have := hb.size; try simp at this); omega)); have hz1 : w.heap.size + 1 < w'.heap.size := (by ((have := hb.size; try simp at this); omega)); have hz2 : w.heap.size + 2 < w'.heap.size := (by ((have := hb.size; try simp at this); omega))) | (go_at_call 86; refine (spec_meetRects _ _ _ _ _ _ _ _ _).mono ?_; rintro e w' ⟨rfl, hb⟩; obtain ⟨hc, hf⟩ := bcell hb; have hz0 : w.heap.size < w'.heap.size := (by ((have := hb.size; try simp at this); omega)); have hz1 : w.heap.size + 1 < w'.heap.size := (by ((have := hb.size; try simp at this); omega)); have hz2 : w.heap.size + 2 < w'.heap.size := (by ((have := hb.size; try simp at this); omega))))
      refine bodyPost_ret (v := .tuple #[.agg #[.int .i64 0, .int .i64 0, .int .i64 0, .int .i64 0], .bool (false)]) (by simp [results, Try.results39, go_sem, *]) rfl ⟨rfl, ?_⟩
      (repeat (first | with_reducible exact Below.refl _ _ | with_reducible refine bl_alloc ?_ _ | with_reducible refine bl_drew ?_ | with_reducible refine bl_set ?_ (by first | (simp; done) | (simp; omega)) _ | with_reducible refine bl_call (by assumption) ?_))
    | true =>
      cases q3 : rectB (mxI a p) (mxI b q) (mnI c r) (mnI d s) with
      | false =>
        have hv : mtB a b c d p q r s = false := by simp [mtB, q1, q2, q3]
        have hr0 : MtA a b c d p q r s = 0 := by simp [MtA, hv]
        have hr1 : MtB a b c d p q r s = 0 := by simp [MtB, hv]
        have hr2 : MtC a b c d p q r s = 0 := by simp [MtC, hv]
        have hr3 : MtD a b c d p q r s = 0 := by simp [MtD, hv]
        rw [hr0, hr1, hr2, hr3, hv]
        clear hr0 hr1 hr2 hr3 hv
        have e0 : (if a < p then p else a) = mxI a p := rfl
        have e1 : (if b < q then q else b) = mxI b q := rfl
        have e2 : (if r < c then r else c) = mnI c r := rfl
        have e3 : (if s < d then s else d) = mnI d s := rfl
        go_enter Try.func39, Try.ntmps39
        go_wp2_with (first | (go_at_call 85; refine (spec_validRect _ _ _ _ _).mono ?_; rintro e w' ⟨rfl, hb⟩; obtain ⟨hc, hf⟩ := bcell hb; have hz0 : w.heap.size < w'.heap.size := (by ((have := hb.size; try simp at this); omega)); have hz1 : w.heap.size + 1 < w'.heap.size := (by ((have := hb.size; try simp at this); omega)); have hz2 : w.heap.size + 2 < w'.heap.size := (by ((have := hb.size; try simp at this); omega))) | (go_at_call 86; refine (spec_meetRects _ _ _ _ _ _ _ _ _).mono ?_; rintro e w' ⟨rfl, hb⟩; obtain ⟨hc, hf⟩ := bcell hb; have hz0 : w.heap.size < w'.heap.size := (by ((have := hb.size; try simp at this); omega)); have hz1 : w.heap.size + 1 < w'.heap.size := (by ((have := hb.size; try simp at this); omega)); have hz2 : w.heap.size + 2 < w'.heap.size := (by ((have := hb.size; try simp at this); omega))))
        refine bodyPost_ret (v := .tuple #[.agg #[.int .i64 0, .int .i64 0, .int .i64 0, .int .i64 0], .bool (false)]) (by simp [results, Try.results39, go_sem, *]) rfl ⟨rfl, ?_⟩
        (repeat (first | with_reducible exact Below.refl _ _ | with_reducible refine bl_alloc ?_ _ | with_reducible refine bl_drew ?_ | with_reducible refine bl_set ?_ (by first | (simp; done) | (simp; omega)) _ | with_reducible refine bl_call (by assumption) ?_))
      | true =>
        have hv : mtB a b c d p q r s = true := by simp [mtB, q1, q2, q3]
        have hr0 : MtA a b c d p q r s = mxI a p := by simp [MtA, hv]
        have hr1 : MtB a b c d p q r s = mxI b q := by simp [MtB, hv]
        have hr2 : MtC a b c d p q r s = mnI c r := by simp [MtC, hv]
        have hr3 : MtD a b c d p q r s = mnI d s := by simp [MtD, hv]
        rw [hr0, hr1, hr2, hr3, hv]
        clear hr0 hr1 hr2 hr3 hv
        have e0 : (if a < p then p else a) = mxI a p := rfl
        have e1 : (if b < q then q else b) = mxI b q := rfl
        have e2 : (if r < c then r else c) = mnI c r := rfl
        have e3 : (if s < d then s else d) = mnI d s := rfl
        go_enter Try.func39, Try.ntmps39
        go_wp2_with (first | (go_at_call 85; refine (spec_validRect _ _ _ _ _).mono ?_; rintro e w' ⟨rfl, hb⟩; obtain ⟨hc, hf⟩ := bcell hb; have hz0 : w.heap.size < w'.heap.size := (by ((have := hb.size; try simp at this); omega)); have hz1 : w.heap.size + 1 < w'.heap.size := (by ((have := hb.size; try simp at this); omega)); have hz2 : w.heap.size + 2 < w'.heap.size := (by ((have := hb.size; try simp at this); omega))) | (go_at_call 86; refine (spec_meetRects _ _ _ _ _ _ _ _ _).mono ?_; rintro e w' ⟨rfl, hb⟩; obtain ⟨hc, hf⟩ := bcell hb; have hz0 : w.heap.size < w'.heap.size := (by ((have := hb.size; try simp at this); omega)); have hz1 : w.heap.size + 1 < w'.heap.size := (by ((have := hb.size; try simp at this); omega)); have hz2 : w.heap.size + 2 < w'.heap.size := (by ((have := hb.size; try simp at this); omega))))
        refine bodyPost_ret (v := .tuple #[.agg #[.int .i64 (mxI a p), .int .i64 (mxI b q), .int .i64 (mnI c r), .int .i64 (mnI d s)], .bool (true)]) (by simp [results, Try.results39, go_sem, *]) rfl ⟨rfl, ?_⟩
        (repeat (first | with_reducible exact Below.refl _ _ | with_reducible refine bl_alloc ?_ _ | with_reducible refine bl_drew ?_ | with_reducible refine bl_set ?_ (by first | (simp; done) | (simp; omega)) _ | with_reducible refine bl_call (by assumption) ?_))

set_option maxHeartbeats 2000000 in
theorem impl_MeetRects (a : Int) (b : Int) (c : Int) (d : Int) (p : Int) (q : Int) (r : Int) (s : Int) (w : World) :
    Calls Try.prog 41 #[.agg #[.int .i64 a, .int .i64 b, .int .i64 c, .int .i64 d], .agg #[.int .i64 p, .int .i64 q, .int .i64 r, .int .i64 s]] w fun e w' => e = .returned (.tuple #[.agg #[.int .i64 (MtA a b c d p q r s), .int .i64 (MtB a b c d p q r s), .int .i64 (MtC a b c d p q r s), .int .i64 (MtD a b c d p q r s)], .bool (mtB a b c d p q r s)]) ∧ Below w.heap.size w w' := by
  cases q1 : rectB a b c d with
  | false =>
    have hv : mtB a b c d p q r s = false := by simp [mtB, q1]
    have hr0 : MtA a b c d p q r s = 0 := by simp [MtA, hv]
    have hr1 : MtB a b c d p q r s = 0 := by simp [MtB, hv]
    have hr2 : MtC a b c d p q r s = 0 := by simp [MtC, hv]
    have hr3 : MtD a b c d p q r s = 0 := by simp [MtD, hv]
    rw [hr0, hr1, hr2, hr3, hv]
    clear hr0 hr1 hr2 hr3 hv
    have e0 : (if a < p then p else a) = mxI a p := rfl
    have e1 : (if b < q then q else b) = mxI b q := rfl
    have e2 : (if r < c then r else c) = mnI c r := rfl
    have e3 : (if s < d then s else d) = mnI d s := rfl
    go_enter Try.func41, Try.ntmps41
    go_wp2_with (first | (go_at_call 87; refine (impl_Rect_valid _ _ _ _ _).mono ?_; rintro e w' ⟨rfl, hb⟩; obtain ⟨hc, hf⟩ := bcell hb; have hz0 : w.heap.size < w'.heap.size := (by ((have := hb.size; try simp at this); omega)); have hz1 : w.heap.size + 1 < w'.heap.size := (by ((have := hb.size; try simp at this); omega)); have hz2 : w.heap.size + 2 < w'.heap.size := (by ((have := hb.size; try simp at this); omega)); have hz3 : w.heap.size + 3 < w'.heap.size := (by ((have := hb.size; try simp at this); omega))))
    refine bodyPost_ret (v := .tuple #[.agg #[.int .i64 0, .int .i64 0, .int .i64 0, .int .i64 0], .bool (false)]) (by simp [results, Try.results41, go_sem, *]) rfl ⟨rfl, ?_⟩
    (repeat (first | with_reducible exact Below.refl _ _ | with_reducible refine bl_alloc ?_ _ | with_reducible refine bl_drew ?_ | with_reducible refine bl_set ?_ (by first | (simp; done) | (simp; omega)) _ | with_reducible refine bl_call (by assumption) ?_))
  | true =>
    cases q2 : rectB p q r s with
    | false =>
      have hv : mtB a b c d p q r s = false := by simp [mtB, q1, q2]
      have hr0 : MtA a b c d p q r s = 0 := by simp [MtA, hv]
      have hr1 : MtB a b c d p q r s = 0 := by simp [MtB, hv]
      have hr2 : MtC a b c d p q r s = 0 := by simp [MtC, hv]
      have hr3 : MtD a b c d p q r s = 0 := by simp [MtD, hv]
      rw [hr0, hr1, hr2, hr3, hv]
      clear hr0 hr1 hr2 hr3 hv
      have e0 : (if a < p then p else a) = mxI a p := rfl
      have e1 : (if b < q then q else b) = mxI b q := rfl
      have e2 : (if r < c then r else c) = mnI c r := rfl
      have e3 : (if s < d then s else d) = mnI d s := rfl
      go_enter Try.func41, Try.ntmps41
      go_wp2_with (first | (go_at_call 87; refine (impl_Rect_valid _ _ _ _ _).mono ?_; rintro e w' ⟨rfl, hb⟩; obtain ⟨hc, hf⟩ := bcell hb; have hz0 : w.heap.size < w'.heap.size := (by ((have := hb.size; try simp at this); omega)); have hz1 : w.heap.size + 1 < w'.heap.size := (by ((have := hb.size; try simp at this); omega)); have hz2 : w.heap.size + 2 < w'.heap.size := (by ((have := hb.size; try simp at this); omega)); have hz3 : w.heap.size + 3 < w'.heap.size := (by ((have := hb.size; try simp at this); omega))))
      refine bodyPost_ret (v := .tuple #[.agg #[.int .i64 0, .int .i64 0, .int .i64 0, .int .i64 0], .bool (false)]) (by simp [results, Try.results41, go_sem, *]) rfl ⟨rfl, ?_⟩
      (repeat (first | with_reducible exact Below.refl _ _ | with_reducible refine bl_alloc ?_ _ | with_reducible refine bl_drew ?_ | with_reducible refine bl_set ?_ (by first | (simp; done) | (simp; omega)) _ | with_reducible refine bl_call (by assumption) ?_))
    | true =>
      cases q3 : rectB (mxI a p) (mxI b q) (mnI c r) (mnI d s) with
      | false =>
        have hv : mtB a b c d p q r s = false := by simp [mtB, q1, q2, q3]
        have hr0 : MtA a b c d p q r s = 0 := by simp [MtA, hv]
        have hr1 : MtB a b c d p q r s = 0 := by simp [MtB, hv]
        have hr2 : MtC a b c d p q r s = 0 := by simp [MtC, hv]
        have hr3 : MtD a b c d p q r s = 0 := by simp [MtD, hv]
        rw [hr0, hr1, hr2, hr3, hv]
        clear hr0 hr1 hr2 hr3 hv
        have e0 : (if a < p then p else a) = mxI a p := rfl
        have e1 : (if b < q then q else b) = mxI b q := rfl
        have e2 : (if r < c then r else c) = mnI c r := rfl
        have e3 : (if s < d then s else d) = mnI d s := rfl
        go_enter Try.func41, Try.ntmps41
        go_wp2_with (first | (go_at_call 87; refine (impl_Rect_valid _ _ _ _ _).mono ?_; rintro e w' ⟨rfl, hb⟩; obtain ⟨hc, hf⟩ := bcell hb; have hz0 : w.heap.size < w'.heap.size := (by ((have := hb.size; try simp at this); omega)); have hz1 : w.heap.size + 1 < w'.heap.size := (by ((have := hb.size; try simp at this); omega)); have hz2 : w.heap.size + 2 < w'.heap.size := (by ((have := hb.size; try simp at this); omega)); have hz3 : w.heap.size + 3 < w'.heap.size := (by ((have := hb.size; try simp at this); omega))))
        refine bodyPost_ret (v := .tuple #[.agg #[.int .i64 0, .int .i64 0, .int .i64 0, .int .i64 0], .bool (false)]) (by simp [results, Try.results41, go_sem, *]) rfl ⟨rfl, ?_⟩
        (repeat (first | with_reducible exact Below.refl _ _ | with_reducible refine bl_alloc ?_ _ | with_reducible refine bl_drew ?_ | with_reducible refine bl_set ?_ (by first | (simp; done) | (simp; omega)) _ | with_reducible refine bl_call (by assumption) ?_))
      | true =>
        have hv : mtB a b c d p q r s = true := by simp [mtB, q1, q2, q3]
        have hr0 : MtA a b c d p q r s = mxI a p := by simp [MtA, hv]
        have hr1 : MtB a b c d p q r s = mxI b q := by simp [MtB, hv]
        have hr2 : MtC a b c d p q r s = mnI c r := by simp [MtC, hv]
        have hr3 : MtD a b c d p q r s = mnI d s := by simp [MtD, hv]
        rw [hr0, hr1, hr2, hr3, hv]
        clear hr0 hr1 hr2 hr3 hv
        have e0 : (if a < p then p else a) = mxI a p := rfl
        have e1 : (if b < q then q else b) = mxI b q := rfl
        have e2 : (if r < c then r else c) = mnI c r := rfl
        have e3 : (if s < d then s else d) = mnI d s := rfl
        go_enter Try.func41, Try.ntmps41
        go_wp2_with (first | (go_at_call 87; refine (impl_Rect_valid _ _ _ _ _).mono ?_; rintro e w' ⟨rfl, hb⟩; obtain ⟨hc, hf⟩ := bcell hb; have hz0 : w.heap.size < w'.heap.size := (by ((have := hb.size; try simp at this); omega)); have hz1 : w.heap.size + 1 < w'.heap.size := (by ((have := hb.size; try simp at this); omega)); have hz2 : w.heap.size + 2 < w'.heap.size := (by ((have := hb.size; try simp at this); omega)); have hz3 : w.heap.size + 3 < w'.heap.size := (by ((have := hb.size; try simp at this); omega))))
        refine bodyPost_ret (v := .tuple #[.agg #[.int .i64 (mxI a p), .int .i64 (mxI b q), .int .i64 (mnI c r), .int .i64 (mnI d s)], .bool (true)]) (by simp [results, Try.results41, go_sem, *]) rfl ⟨rfl, ?_⟩
        (repeat (first | with_reducible exact Below.refl _ _ | with_reducible refine bl_alloc ?_ _ | with_reducible refine bl_drew ?_ | with_reducible refine bl_set ?_ (by first | (simp; done) | (simp; omega)) _ | with_reducible refine bl_call (by assumption) ?_))

end Go.Proofs.Ytgbociejgnifiaa
