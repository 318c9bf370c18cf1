/- Contracts of functions that this seat's statements reach: each is shown to compute a plain Lean function, and to leave what was there as it was. No conditions but those in each theorem. -/
import Derived.Test.YtnfefhphkjfhjaaCtn
import Derived.Test.YtnfefhphkjfhjaaPlainR
namespace Go.Proofs.Ytnfefhphkjfhjaa
open Go.RowKit
set_option linter.unusedVariables false

open Go.Sort

set_option maxHeartbeats 1000000 in
theorem spec_validRect (a : Int) (b : Int) (c : Int) (d : Int) (w : World) :
    Calls Try.prog 75 #[.agg #[.int .i64 a, .int .i64 b, .int .i64 c, .int .i64 d]] w fun e w' => e = .returned (.bool (rectB a b c d)) ∧ Below w.heap.size w w' := by
  go_enter Try.func75, Try.ntmps75
  go_wp2_with (first | (go_at_call 52; refine (spec_validPoint _ _ _).mono ?_; rintro e w' ⟨rfl, hb⟩; obtain ⟨hc, hf⟩ := bcell hb; have hz0 : w.heap.size < w'.heap.size := (by ((have := hb.size; try simp at this); omega))))
  all_goals go_ret
  all_goals exact ⟨ret_bool (by first | (simp [rectB, v2B, *]; done) | (simp [rectB, v2B, *]; omega)), (by (repeat (first | with_reducible exact Below.refl _ _ | with_reducible refine bl_alloc ?_ _ | with_reducible refine bl_drew ?_ | with_reducible refine bl_set ?_ (by first | (simp; done) | (simp; omega)) _ | with_reducible refine bl_call (by assumption) ?_)))⟩

set_option maxHeartbeats 1000000 in
theorem impl_Rect_valid (a : Int) (b : Int) (c : Int) (d : Int) (w : World) :
    Calls Try.prog 74 #[.agg #[.int .i64 a, .int .i64 b, .int .i64 c, .int .i64 d]] w fun e w' => e = .returned (.bool (rectB a b c d)) ∧ Below w.heap.size w w' := by
  go_enter Try.func74, Try.ntmps74
  go_wp2_with (first | (go_at_call 50; refine (impl_allValid2 _ _ a b c d _ (by simp) ⟨by simp [go_sem], by simp [go_sem], by simp [go_sem], by simp [go_sem]⟩).mono ?_; rintro e w' ⟨rfl, hb⟩; obtain ⟨hc, hf⟩ := bcell hb; have hz0 : w.heap.size < w'.heap.size := (by ((have := hb.size; try simp at this); omega))))
  all_goals go_ret
  all_goals exact ⟨ret_bool (by first | (simp [rectB, *]; done) | (simp [rectB, *]; omega)), (by (repeat (first | with_reducible exact Below.refl _ _ | with_reducible refine bl_alloc ?_ _ | with_reducible refine bl_drew ?_ | with_reducible refine bl_set ?_ (by first | (simp; done) | (simp; omega)) _ | with_reducible refine bl_call (by assumption) ?_)))⟩

set_option maxHeartbeats 2000000 in
theorem spec_meetRects (a : Int) (b : Int) (c : Int) (d : Int) (p : Int) (q : Int) (r : Int) (s : Int) (w : World) :
    Calls Try.prog 76 #[.agg #[.int .i64 a, .int .i64 b, .int .i64 c, .int .i64 d], .agg #[.int .i64 p, .int .i64 q, .int .i64 r, .int .i64 s]] w fun e w' => e = .returned (.tuple #[.agg #[.int .i64 (mxI a p), .int .i64 (mxI b q), .int .i64 (mnI c r), .int .i64 (mnI d s)], .bool (rectB (mxI a p) (mxI b q) (mnI c r) (mnI d s))]) ∧ Below w.heap.size w w' := by
  have e0 : (if a < p then p else a) = mxI a p := rfl
  have e1 : (if b < q then q else b) = mxI b q := rfl
  have e2 : (if r < c then r else c) = mnI c r := rfl
  have e3 : (if s < d then s else d) = mnI d s := rfl
  go_enter Try.func76, Try.ntmps76
  go_wp2
  have fc0 : ((((w.alloc (Obj.cells #[.int .i64 a, .int .i64 b, .int .i64 c, .int .i64 d] 51)).alloc (Obj.cells #[.int .i64 p, .int .i64 q, .int .i64 r, .int .i64 s] 51)).alloc (Obj.cells #[.int .i64 0, .int .i64 0, .int .i64 0, .int .i64 0] 51)).alloc (Obj.cells #[.int .i64 (mxI a p), .int .i64 (mxI b q), .int .i64 (mnI c r), .int .i64 (mnI d s)] 51)).cell? ⟨w.heap.size + 1 + 1 + 1, 0, none⟩ = some (.int .i64 (mxI a p)) := by simp [go_sem]
  have fc1 : ((((w.alloc (Obj.cells #[.int .i64 a, .int .i64 b, .int .i64 c, .int .i64 d] 51)).alloc (Obj.cells #[.int .i64 p, .int .i64 q, .int .i64 r, .int .i64 s] 51)).alloc (Obj.cells #[.int .i64 0, .int .i64 0, .int .i64 0, .int .i64 0] 51)).alloc (Obj.cells #[.int .i64 (mxI a p), .int .i64 (mxI b q), .int .i64 (mnI c r), .int .i64 (mnI d s)] 51)).cell? ⟨w.heap.size + 1 + 1 + 1, 1, none⟩ = some (.int .i64 (mxI b q)) := by simp [go_sem]
  have fc2 : ((((w.alloc (Obj.cells #[.int .i64 a, .int .i64 b, .int .i64 c, .int .i64 d] 51)).alloc (Obj.cells #[.int .i64 p, .int .i64 q, .int .i64 r, .int .i64 s] 51)).alloc (Obj.cells #[.int .i64 0, .int .i64 0, .int .i64 0, .int .i64 0] 51)).alloc (Obj.cells #[.int .i64 (mxI a p), .int .i64 (mxI b q), .int .i64 (mnI c r), .int .i64 (mnI d s)] 51)).cell? ⟨w.heap.size + 1 + 1 + 1, 2, none⟩ = some (.int .i64 (mnI c r)) := by simp [go_sem]
  have fc3 : ((((w.alloc (Obj.cells #[.int .i64 a, .int .i64 b, .int .i64 c, .int .i64 d] 51)).alloc (Obj.cells #[.int .i64 p, .int .i64 q, .int .i64 r, .int .i64 s] 51)).alloc (Obj.cells #[.int .i64 0, .int .i64 0, .int .i64 0, .int .i64 0] 51)).alloc (Obj.cells #[.int .i64 (mxI a p), .int .i64 (mxI b q), .int .i64 (mnI c r), .int .i64 (mnI d s)] 51)).cell? ⟨w.heap.size + 1 + 1 + 1, 3, none⟩ = some (.int .i64 (mnI d s)) := by simp [go_sem]
  go_region_held3 (fun w' => w'.cell? ⟨w.heap.size + 1 + 1 + 1, 0, none⟩ = some (.int .i64 (mxI a p)) ∧ w'.cell? ⟨w.heap.size + 1 + 1 + 1, 1, none⟩ = some (.int .i64 (mxI b q)) ∧ w'.cell? ⟨w.heap.size + 1 + 1 + 1, 2, none⟩ = some (.int .i64 (mnI c r)) ∧ w'.cell? ⟨w.heap.size + 1 + 1 + 1, 3, none⟩ = some (.int .i64 (mnI d s))) ((first | (go_keep; done) | (refine ⟨?_, ?_, ?_, ?_⟩ <;> first | assumption | (go_keep; done) | (simp [go_sem, *]; done)))) (first | (go_at_call 75; refine (spec_validRect _ _ _ _ _).mono ?_; rintro e w' ⟨rfl, hb⟩; have hz0 : w.heap.size < w'.heap.size := (by ((have := hb.size; try simp at this); omega)); have hz1 : w.heap.size + 1 < w'.heap.size := (by ((have := hb.size; try simp at this); omega)); have hz2 : w.heap.size + 1 + 1 < w'.heap.size := (by ((have := hb.size; try simp at this); omega)); have hz3 : w.heap.size + 1 + 1 + 1 < w'.heap.size := (by ((have := hb.size; try simp at this); omega)); have q0 : w'.cell? ⟨w.heap.size + 1 + 1 + 1, 0, none⟩ = some (.int .i64 (mxI a p)) := (hb.cell (p := ⟨w.heap.size + 1 + 1 + 1, 0, none⟩) (by first | (simp; omega) | (simp; done) | omega)).trans (by first | assumption | (simp [*]; done)); have q1 : w'.cell? ⟨w.heap.size + 1 + 1 + 1, 1, none⟩ = some (.int .i64 (mxI b q)) := (hb.cell (p := ⟨w.heap.size + 1 + 1 + 1, 1, none⟩) (by first | (simp; omega) | (simp; done) | omega)).trans (by first | assumption | (simp [*]; done)); have q2 : w'.cell? ⟨w.heap.size + 1 + 1 + 1, 2, none⟩ = some (.int .i64 (mnI c r)) := (hb.cell (p := ⟨w.heap.size + 1 + 1 + 1, 2, none⟩) (by first | (simp; omega) | (simp; done) | omega)).trans (by first | assumption | (simp [*]; done)); have q3 : w'.cell? ⟨w.heap.size + 1 + 1 + 1, 3, none⟩ = some (.int .i64 (mnI d s)) := (hb.cell (p := ⟨w.heap.size + 1 + 1 + 1, 3, none⟩) (by first | (simp; omega) | (simp; done) | omega)).trans (by first | assumption | (simp [*]; done)); obtain ⟨hc, hf⟩ := bcell hb; have hs := hb.size; (try simp at hs); (try have l5 := Nat.lt_of_lt_of_le l4 (show _ ≤ w'.heap.size by omega)); (try have k5 := Nat.lt_of_lt_of_le k4 (show _ ≤ w'.heap.size by omega)); (try have l4 := Nat.lt_of_lt_of_le l3 (show _ ≤ w'.heap.size by omega)); (try have k4 := Nat.lt_of_lt_of_le k3 (show _ ≤ w'.heap.size by omega)); (try have l3 := Nat.lt_of_lt_of_le l2 (show _ ≤ w'.heap.size by omega)); (try have k3 := Nat.lt_of_lt_of_le k2 (show _ ≤ w'.heap.size by omega)); (try have l2 := Nat.lt_of_lt_of_le l1 (show _ ≤ w'.heap.size by omega)); (try have k2 := Nat.lt_of_lt_of_le k1 (show _ ≤ w'.heap.size by omega)); (try have l1 := Nat.lt_of_lt_of_le l0 (show _ ≤ w'.heap.size by omega)); (try have k1 := Nat.lt_of_lt_of_le k0 (show _ ≤ w'.heap.size by omega)); (try have l0 := Nat.lt_of_succ_le hs); (try have k0 := Nat.lt_of_succ_lt (Nat.lt_of_succ_le hs))))
  all_goals go_wp2
  all_goals (refine bodyPost_ret (v := .tuple #[.agg #[.int .i64 (mxI a p), .int .i64 (mxI b q), .int .i64 (mnI c r), .int .i64 (mnI d s)], .bool (rectB (mxI a p) (mxI b q) (mnI c r) (mnI d s))]) (by simp [results, Try.results76, go_sem, *]) rfl ⟨rfl, ?_⟩)
  all_goals (repeat (first | with_reducible exact Below.refl _ _ | with_reducible refine bl_alloc ?_ _ | with_reducible refine bl_drew ?_ | with_reducible refine bl_set ?_ (by first | (simp; done) | (simp; omega)) _ | with_reducible refine bl_call (by assumption) ?_))

set_option maxHeartbeats 2000000 in
theorem spec_MeetRects (a : Int) (b : Int) (c : Int) (d : Int) (p : Int) (q : Int) (r : Int) (s : Int) (w : World) :
    Calls Try.prog 44 #[.agg #[.int .i64 a, .int .i64 b, .int .i64 c, .int .i64 d], .agg #[.int .i64 p, .int .i64 q, .int .i64 r, .int .i64 s]] w fun e w' => e = .returned (.tuple #[.agg #[.int .i64 (MtA a b c d p q r s), .int .i64 (MtB a b c d p q r s), .int .i64 (MtC a b c d p q r s), .int .i64 (MtD a b c d p q r s)], .bool (mtB a b c d p q r s)]) ∧ Below w.heap.size w w' := by
  cases q1 : rectB a b c d with
  | false =>
    have hv : mtB a b c d p q r s = false := by simp [mtB, q1]
    have hr0 : MtA a b c d p q r s = 0 := by simp [MtA, hv]
    have hr1 : MtB a b c d p q r s = 0 := by simp [MtB, hv]
    have hr2 : MtC a b c d p q r s = 0 := by simp [MtC, hv]
    have hr3 : MtD a b c d p q r s = 0 := by simp [MtD, hv]
    rw [hr0, hr1, hr2, hr3, hv]
    clear hr0 hr1 hr2 hr3 hv
    have e0 : (if a < p then p else a) = mxI a p := rfl
    have e1 : (if b < q then q else b) = mxI b q := rfl
    have e2 : (if r < c then r else c) = mnI c r := rfl
    have e3 : (if s < d then s else d) = mnI d s := rfl
    go_enter Try.func44, Try.ntmps44
    go_wp2_with (first | (go_at_call 75; refine (spec_validRect _ _ _ _ _).mono ?_; rintro e w' ⟨rfl, hb⟩; obtain ⟨hc, hf⟩ := bcell hb; have hz0 : w.heap.size < w'.heap.size := (by ((have := hb.size; try simp at this); omega)); have hz1 : w.heap.size + 1 < w'.heap.size := (by ((have := hb.size; try simp at this); omega)); have hz2 : w.heap.size + 2 < w'.heap.size := (by ((have := hb.size; try simp at this); omega))) | (go_at_call 76; refine (spec_meetRects _ _ _ _ _ _ _ _ _).mono ?_; rintro e w' ⟨rfl, hb⟩; obtain ⟨hc, hf⟩ := bcell hb; have hz0 : w.heap.size < w'.heap.size := (by ((have := hb.size; try simp at this); omega)); have hz1 : w.heap.size + 1 < w'.heap.size := (by ((have := hb.size; try simp at this); omega)); have hz2 : w.heap.size + 2 < w'.heap.size := (by ((have := hb.size; try simp at this); omega))))
    refine bodyPost_ret (v := .tuple #[.agg #[.int .i64 0, .int .i64 0, .int .i64 0, .int .i64 0], .bool (false)]) (by simp [results, Try.results44, go_sem, *]) rfl ⟨rfl, ?_⟩
    (repeat (first | with_reducible exact Below.refl _ _ | with_reducible refine bl_alloc ?_ _ | with_reducible refine bl_drew ?_ | with_reducible refine bl_set ?_ (by first | (simp; done) | (simp; omega)) _ | with_reducible refine bl_call (by assumption) ?_))
  | true =>
    cases q2 : rectB p q r s with
    | false =>
      have hv : mtB a b c d p q r s = false := by simp [mtB, q1, q2]
      have hr0 : MtA a b c d p q r s = 0 := by simp [MtA, hv]
      have hr1 : MtB a b c d p q r s = 0 := by simp [MtB, hv]
      have hr2 : MtC a b c d p q r s = 0 := by simp [MtC, hv]
      have hr3 : MtD a b c d p q r s = 0 := by simp [MtD, hv]
      rw [hr0, hr1, hr2, hr3, hv]
      clear hr0 hr1 hr2 hr3 hv
      have e0 : (if a < p then p else a) = mxI a p := rfl
      have e1 : (if b < q then q else b) = mxI b q := rfl
      have e2 : (if r < c then r else c) = mnI c r := rfl
      have e3 : (if s < d then s else d) = mnI d s := rfl
      go_enter Try.func44, Try.ntmps44
      go_wp2_with (first | (go_at_call 75; refine (spec_validRect _ _ _ _ _).mono ?_; rintro e w' ⟨rfl, hb⟩; obtain ⟨hc, hf⟩ := bcell hb; have hz0 : w.heap.size < w'.heap.size := (by ((have := hb.size; try simp at this); omega)); have hz1 : w.heap.size + 1 < w'.heap.size := (by ((have := hb.size; try simp at this); omega)); have hz2 : w.heap.size + 2 < w'.heap.size := (by ((have := hb.size; try simp at this); omega))) | (go_at_call 76; refine (spec_meetRects _ _ _ _ _ _ _ _ _).mono ?_; rintro e w' ⟨rfl, hb⟩; obtain ⟨hc, hf⟩ := bcell hb; have hz0 : w.heap.size < w'.heap.size := (by ((have := hb.size; try simp at this); omega)); have hz1 : w.heap.size + 1 < w'.heap.size := (by ((have := hb.size; try simp at this); omega)); have hz2 : w.heap.size + 2 < w'.heap.size := (by ((have := hb.size; try simp at this); omega))))
      refine bodyPost_ret (v := .tuple #[.agg #[.int .i64 0, .int .i64 0, .int .i64 0, .int .i64 0], .bool (false)]) (by simp [results, Try.results44, go_sem, *]) rfl ⟨rfl, ?_⟩
      (repeat (first | with_reducible exact Below.refl _ _ | with_reducible refine bl_alloc ?_ _ | with_reducible refine bl_drew ?_ | with_reducible refine bl_set ?_ (by first | (simp; done) | (simp; omega)) _ | with_reducible refine bl_call (by assumption) ?_))
    | true =>
      cases q3 : rectB (mxI a p) (mxI b q) (mnI c r) (mnI d s) with
      | false =>
        have hv : mtB a b c d p q r s = false := by simp [mtB, q1, q2, q3]
        have hr0 : MtA a b c d p q r s = 0 := by simp [MtA, hv]
        have hr1 : MtB a b c d p q r s = 0 := by simp [MtB, hv]
        have hr2 : MtC a b c d p q r s = 0 := by simp [MtC, hv]
        have hr3 : MtD a b c d p q r s = 0 := by simp [MtD, hv]
        rw [hr0, hr1, hr2, hr3, hv]
        clear hr0 hr1 hr2 hr3 hv
        have e0 : (if a < p then p else a) = mxI a p := rfl
        have e1 : (if b < q then q else b) = mxI b q := rfl
        have e2 : (if r < c then r else c) = mnI c r := rfl
        have e3 : (if s < d then s else d) = mnI d s := rfl
        go_enter Try.func44, Try.ntmps44
        go_wp2_with (first | (go_at_call 75; refine (spec_validRect _ _ _ _ _).mono ?_; rintro e w' ⟨rfl, hb⟩; obtain ⟨hc, hf⟩ := bcell hb; have hz0 : w.heap.size < w'.heap.size := (by ((have := hb.size; try simp at this); omega)); have hz1 : w.heap.size + 1 < w'.heap.size := (by ((have := hb.size; try simp at this); omega)); have hz2 : w.heap.size + 2 < w'.heap.size := (by ((have := hb.size; try simp at this); omega))) | (go_at_call 76; refine (spec_meetRects _ _ _ _ _ _ _ _ _).mono ?_; rintro e w' ⟨rfl, hb⟩; obtain ⟨hc, hf⟩ := bcell hb; have hz0 : w.heap.size < w'.heap.size := (by ((have := hb.size; try simp at this); omega)); have hz1 : w.heap.size + 1 < w'.heap.size := (by ((have := hb.size; try simp at this); omega)); have hz2 : w.heap.size + 2 < w'.heap.size := (by ((have := hb.size; try simp at this); omega))))
        refine bodyPost_ret (v := .tuple #[.agg #[.int .i64 0, .int .i64 0, .int .i64 0, .int .i64 0], .bool (false)]) (by simp [results, Try.results44, go_sem, *]) rfl ⟨rfl, ?_⟩
        (repeat (first | with_reducible exact Below.refl _ _ | with_reducible refine bl_alloc ?_ _ | with_reducible refine bl_drew ?_ | with_reducible refine bl_set ?_ (by first | (simp; done) | (simp; omega)) _ | with_reducible refine bl_call (by assumption) ?_))
      | true =>
        have hv : mtB a b c d p q r s = true := by simp [mtB, q1, q2, q3]
        have hr0 : MtA a b c d p q r s = mxI a p := by simp [MtA, hv]
        have hr1 : MtB a b c d p q r s = mxI b q := by simp [MtB, hv]
        have hr2 : MtC a b c d p q r s = mnI c r := by simp [MtC, hv]
        have hr3 : MtD a b c d p q r s = mnI d s := by simp [MtD, hv]
        rw [hr0, hr1, hr2, hr3, hv]
        clear hr0 hr1 hr2 hr3 hv
        have e0 : (if a < p then p else a) = mxI a p := rfl
        have e1 : (if b < q then q else b) = mxI b q := rfl
        have e2 : (if r < c then r else c) = mnI c r := rfl
        have e3 : (if s < d then s else d) = mnI d s := rfl
        go_enter Try.func44, Try.ntmps44
        go_wp2_with (first | (go_at_call 75; refine (spec_validRect _ _ _ _ _).mono ?_; rintro e w' ⟨rfl, hb⟩; obtain ⟨hc, hf⟩ := bcell hb; have hz0 : w.heap.size < w'.heap.size := (by ((have := hb.size; try simp at this); omega)); have hz1 : w.heap.size + 1 < w'.heap.size := (by ((have := hb.size; try simp at this); omega)); have hz2 : w.heap.size + 2 < w'.heap.size := (by ((have := hb.size; try simp at this); omega))) | (go_at_call 76; refine (spec_meetRects _ _ _ _ _ _ _ _ _).mono ?_; rintro e w' ⟨rfl, hb⟩; obtain ⟨hc, hf⟩ := bcell hb; have hz0 : w.heap.size < w'.heap.size := (by ((have := hb.size; try simp at this); omega)); have hz1 : w.heap.size + 1 < w'.heap.size := (by ((have := hb.size; try simp at this); omega)); have hz2 : w.heap.size + 2 < w'.heap.size := (by ((have := hb.size; try simp at this); omega))))
        refine bodyPost_ret (v := .tuple #[.agg #[.int .i64 (mxI a p), .int .i64 (mxI b q), .int .i64 (mnI c r), .int .i64 (mnI d s)], .bool (true)]) (by simp [results, Try.results44, go_sem, *]) rfl ⟨rfl, ?_⟩
        (repeat (first | with_reducible exact Below.refl _ _ | with_reducible refine bl_alloc ?_ _ | with_reducible refine bl_drew ?_ | with_reducible refine bl_set ?_ (by first | (simp; done) | (simp; omega)) _ | with_reducible refine bl_call (by assumption) ?_))

set_option maxHeartbeats 2000000 in
theorem impl_MeetRects (a : Int) (b : Int) (c : Int) (d : Int) (p : Int) (q : Int) (r : Int) (s : Int) (w : World) :
    Calls Try.prog 43 #[.agg #[.int .i64 a, .int .i64 b, .int .i64 c, .int .i64 d], .agg #[.int .i64 p, .int .i64 q, .int .i64 r, .int .i64 s]] w fun e w' => e = .returned (.tuple #[.agg #[.int .i64 (MtA a b c d p q r s), .int .i64 (MtB a b c d p q r s), .int .i64 (MtC a b c d p q r s), .int .i64 (MtD a b c d p q r s)], .bool (mtB a b c d p q r s)]) ∧ Below w.heap.size w w' := by
  cases q1 : rectB a b c d with
  | false =>
    have hv : mtB a b c d p q r s = false := by simp [mtB, q1]
    have hr0 : MtA a b c d p q r s = 0 := by simp [MtA, hv]
    have hr1 : MtB a b c d p q r s = 0 := by simp [MtB, hv]
    have hr2 : MtC a b c d p q r s = 0 := by simp [MtC, hv]
    have hr3 : MtD a b c d p q r s = 0 := by simp [MtD, hv]
    rw [hr0, hr1, hr2, hr3, hv]
    clear hr0 hr1 hr2 hr3 hv
    have e0 : (if a < p then p else a) = mxI a p := rfl
    have e1 : (if b < q then q else b) = mxI b q := rfl
    have e2 : (if r < c then r else c) = mnI c r := rfl
    have e3 : (if s < d then s else d) = mnI d s := rfl
    go_enter Try.func43, Try.ntmps43
    go_wp2_with (first | (go_at_call 74; refine (impl_Rect_valid _ _ _ _ _).mono ?_; rintro e w' ⟨rfl, hb⟩; obtain ⟨hc, hf⟩ := bcell hb; have hz0 : w.heap.size < w'.heap.size := (by ((have := hb.size; try simp at this); omega)); have hz1 : w.heap.size + 1 < w'.heap.size := (by ((have := hb.size; try simp at this); omega)); have hz2 : w.heap.size + 2 < w'.heap.size := (by ((have := hb.size; try simp at this); omega)); have hz3 : w.heap.size + 3 < w'.heap.size := (by ((have := hb.size; try simp at this); omega))))
    refine bodyPost_ret (v := .tuple #[.agg #[.int .i64 0, .int .i64 0, .int .i64 0, .int .i64 0], .bool (false)]) (by simp [results, Try.results43, go_sem, *]) rfl ⟨rfl, ?_⟩
    (repeat (first | with_reducible exact Below.refl _ _ | with_reducible refine bl_alloc ?_ _ | with_reducible refine bl_drew ?_ | with_reducible refine bl_set ?_ (by first | (simp; done) | (simp; omega)) _ | with_reducible refine bl_call (by assumption) ?_))
  | true =>
    cases q2 : rectB p q r s with
    | false =>
      have hv : mtB a b c d p q r s = false := by simp [mtB, q1, q2]
      have hr0 : MtA a b c d p q r s = 0 := by simp [MtA, hv]
      have hr1 : MtB a b c d p q r s = 0 := by simp [MtB, hv]
      have hr2 : MtC a b c d p q r s = 0 := by simp [MtC, hv]
      have hr3 : MtD a b c d p q r s = 0 := by simp [MtD, hv]
      rw [hr0, hr1, hr2, hr3, hv]
      clear hr0 hr1 hr2 hr3 hv
      have e0 : (if a < p then p else a) = mxI a p := rfl
      have e1 : (if b < q then q else b) = mxI b q := rfl
      have e2 : (if r < c then r else c) = mnI c r := rfl
      have e3 : (if s < d then s else d) = mnI d s := rfl
      go_enter Try.func43, Try.ntmps43
      go_wp2_with (first | (go_at_call 74; refine (impl_Rect_valid _ _ _ _ _).mono ?_; rintro e w' ⟨rfl, hb⟩; obtain ⟨hc, hf⟩ := bcell hb; have hz0 : w.heap.size < w'.heap.size := (by ((have := hb.size; try simp at this); omega)); have hz1 : w.heap.size + 1 < w'.heap.size := (by ((have := hb.size; try simp at this); omega)); have hz2 : w.heap.size + 2 < w'.heap.size := (by ((have := hb.size; try simp at this); omega)); have hz3 : w.heap.size + 3 < w'.heap.size := (by ((have := hb.size; try simp at this); omega))))
      refine bodyPost_ret (v := .tuple #[.agg #[.int .i64 0, .int .i64 0, .int .i64 0, .int .i64 0], .bool (false)]) (by simp [results, Try.results43, go_sem, *]) rfl ⟨rfl, ?_⟩
      (repeat (first | with_reducible exact Below.refl _ _ | with_reducible refine bl_alloc ?_ _ | with_reducible refine bl_drew ?_ | with_reducible refine bl_set ?_ (by first | (simp; done) | (simp; omega)) _ | with_reducible refine bl_call (by assumption) ?_))
    | true =>
      cases q3 : rectB (mxI a p) (mxI b q) (mnI c r) (mnI d s) with
      | false =>
        have hv : mtB a b c d p q r s = false := by simp [mtB, q1, q2, q3]
        have hr0 : MtA a b c d p q r s = 0 := by simp [MtA, hv]
        have hr1 : MtB a b c d p q r s = 0 := by simp [MtB, hv]
        have hr2 : MtC a b c d p q r s = 0 := by simp [MtC, hv]
        have hr3 : MtD a b c d p q r s = 0 := by simp [MtD, hv]
        rw [hr0, hr1, hr2, hr3, hv]
        clear hr0 hr1 hr2 hr3 hv
        have e0 : (if a < p then p else a) = mxI a p := rfl
        have e1 : (if b < q then q else b) = mxI b q := rfl
        have e2 : (if r < c then r else c) = mnI c r := rfl
        have e3 : (if s < d then s else d) = mnI d s := rfl
        go_enter Try.func43, Try.ntmps43
        go_wp2_with (first | (go_at_call 74; refine (impl_Rect_valid _ _ _ _ _).mono ?_; rintro e w' ⟨rfl, hb⟩; obtain ⟨hc, hf⟩ := bcell hb; have hz0 : w.heap.size < w'.heap.size := (by ((have := hb.size; try simp at this); omega)); have hz1 : w.heap.size + 1 < w'.heap.size := (by ((have := hb.size; try simp at this); omega)); have hz2 : w.heap.size + 2 < w'.heap.size := (by ((have := hb.size; try simp at this); omega)); have hz3 : w.heap.size + 3 < w'.heap.size := (by ((have := hb.size; try simp at this); omega))))
        refine bodyPost_ret (v := .tuple #[.agg #[.int .i64 0, .int .i64 0, .int .i64 0, .int .i64 0], .bool (false)]) (by simp [results, Try.results43, go_sem, *]) rfl ⟨rfl, ?_⟩
        (repeat (first | with_reducible exact Below.refl _ _ | with_reducible refine bl_alloc ?_ _ | with_reducible refine bl_drew ?_ | with_reducible refine bl_set ?_ (by first | (simp; done) | (simp; omega)) _ | with_reducible refine bl_call (by assumption) ?_))
      | true =>
        have hv : mtB a b c d p q r s = true := by simp [mtB, q1, q2, q3]
        have hr0 : MtA a b c d p q r s = mxI a p := by simp [MtA, hv]
        have hr1 : MtB a b c d p q r s = mxI b q := by simp [MtB, hv]
        have hr2 : MtC a b c d p q r s = mnI c r := by simp [MtC, hv]
        have hr3 : MtD a b c d p q r s = mnI d s := by simp [MtD, hv]
        rw [hr0, hr1, hr2, hr3, hv]
        clear hr0 hr1 hr2 hr3 hv
        have e0 : (if a < p then p else a) = mxI a p := rfl
        have e1 : (if b < q then q else b) = mxI b q := rfl
        have e2 : (if r < c then r else c) = mnI c r := rfl
        have e3 : (if s < d then s else d) = mnI d s := rfl
        go_enter Try.func43, Try.ntmps43
        go_wp2_with (first | (go_at_call 74; refine (impl_Rect_valid _ _ _ _ _).mono ?_; rintro e w' ⟨rfl, hb⟩; obtain ⟨hc, hf⟩ := bcell hb; have hz0 : w.heap.size < w'.heap.size := (by ((have := hb.size; try simp at this); omega)); have hz1 : w.heap.size + 1 < w'.heap.size := (by ((have := hb.size; try simp at this); omega)); have hz2 : w.heap.size + 2 < w'.heap.size := (by ((have := hb.size; try simp at this); omega)); have hz3 : w.heap.size + 3 < w'.heap.size := (by ((have := hb.size; try simp at this); omega))))
        refine bodyPost_ret (v := .tuple #[.agg #[.int .i64 (mxI a p), .int .i64 (mxI b q), .int .i64 (mnI c r), .int .i64 (mnI d s)], .bool (true)]) (by simp [results, Try.results43, go_sem, *]) rfl ⟨rfl, ?_⟩
        (repeat (first | with_reducible exact Below.refl _ _ | with_reducible refine bl_alloc ?_ _ | with_reducible refine bl_drew ?_ | with_reducible refine bl_set ?_ (by first | (simp; done) | (simp; omega)) _ | with_reducible refine bl_call (by assumption) ?_))

end Go.Proofs.Ytnfefhphkjfhjaa
