/- Contracts of functions that this seat's statements reach: each is shown to compute a plain Lean function, and to leave what was there as it was. No conditions but those in each theorem. -/
import Derived.Test.YtbhcodmpcknllaaLn
import Derived.Test.YtbhcodmpcknllaaB3
import Derived.Test.YtbhcodmpcknllaaPlainM
import Derived.Test.YtbhcodmpcknllaaGn
namespace Go.Proofs.Ytbhcodmpcknllaa
open Go.RowKit
set_option linter.unusedVariables false

open Go.Sort

set_option maxHeartbeats 16000000 in
theorem impl_MeetLines (a : Int) (b : Int) (c : Int) (d : Int) (e : Int) (f : Int) (w : World) :
    Calls Try.prog 47 #[.agg #[.int .i64 a, .int .i64 b, .int .i64 c], .agg #[.int .i64 d, .int .i64 e, .int .i64 f]] w fun e_ w' => e_ = .returned (.tuple #[.agg #[.int .i64 (MlA a b c d e f), .int .i64 (MlB a b c d e f), .int .i64 (MlC a b c d e f), .int .i64 (MlD a b c d e f)], .int .i64 (MlK a b c d e f)]) ∧ Below w.heap.size w w' := by
  cases q1 : lineB a b c with
  | false =>
    have r4 : MlK a b c d e f = -1 := by simp [MlK, mlB, q1]
    have r0 : MlA a b c d e f = 0 := by simp [MlA, mlOne, mlB, q1]
    have r1 : MlB a b c d e f = 0 := by simp [MlB, mlOne, mlB, q1]
    have r2 : MlC a b c d e f = 0 := by simp [MlC, mlOne, mlB, q1]
    have r3 : MlD a b c d e f = 0 := by simp [MlD, mlOne, mlB, q1]
    rw [r0, r1, r2, r3, r4]
    clear r0 r1 r2 r3 r4
    have K1 : Hid (∀ W : World, Calls Try.prog 93 #[.agg #[.int .i64 a, .int .i64 b, .int .i64 c]] W fun e_ w' => e_ = .returned (.bool false) ∧ Below W.heap.size W w') := Lib.hid fun W => by
      have h := impl_Line_valid (a) (b) (c) W
      rw [q1] at h
      exact h
    clear q1
    go_enter Try.func47, Try.ntmps47
    go_wp2_with fail
    refine (K1.out _).mono ?_
    rintro e_ w1 ⟨rfl, b1⟩
    have s1 := b1.size
    try simp at s1
    have z1_0 : w.heap.size < w1.heap.size := by omega
    have k1_0_0 : w1.cell? ⟨w.heap.size, 0, none⟩ = some (.int .i64 (a)) := (b1.cell (p := ⟨w.heap.size, 0, none⟩) (by first | (simp; done) | (simp; omega) | omega)).trans (by first | with_reducible assumption | (simp [go_sem]; done) | (simp [go_sem, *]; done))
    have g1_0_0 : w1.frozen? ⟨w.heap.size, 0, none⟩ = false := (b1.frozen (p := ⟨w.heap.size, 0, none⟩) (by first | (simp; done) | (simp; omega) | omega)).trans (by first | with_reducible assumption | (simp [go_sem]; done) | (simp [go_sem, *]; done))
    have k1_0_1 : w1.cell? ⟨w.heap.size, 1, none⟩ = some (.int .i64 (b)) := (b1.cell (p := ⟨w.heap.size, 1, none⟩) (by first | (simp; done) | (simp; omega) | omega)).trans (by first | with_reducible assumption | (simp [go_sem]; done) | (simp [go_sem, *]; done))
    have g1_0_1 : w1.frozen? ⟨w.heap.size, 1, none⟩ = false := (b1.frozen (p := ⟨w.heap.size, 1, none⟩) (by first | (simp; done) | (simp; omega) | omega)).trans (by first | with_reducible assumption | (simp [go_sem]; done) | (simp [go_sem, *]; done))
    have k1_0_2 : w1.cell? ⟨w.heap.size, 2, none⟩ = some (.int .i64 (c)) := (b1.cell (p := ⟨w.heap.size, 2, none⟩) (by first | (simp; done) | (simp; omega) | omega)).trans (by first | with_reducible assumption | (simp [go_sem]; done) | (simp [go_sem, *]; done))
    have g1_0_2 : w1.frozen? ⟨w.heap.size, 2, none⟩ = false := (b1.frozen (p := ⟨w.heap.size, 2, none⟩) (by first | (simp; done) | (simp; omega) | omega)).trans (by first | with_reducible assumption | (simp [go_sem]; done) | (simp [go_sem, *]; done))
    have z1_1 : w.heap.size + 1 < w1.heap.size := by omega
    have k1_1_0 : w1.cell? ⟨w.heap.size + 1, 0, none⟩ = some (.int .i64 (d)) := (b1.cell (p := ⟨w.heap.size + 1, 0, none⟩) (by first | (simp; done) | (simp; omega) | omega)).trans (by first | with_reducible assumption | (simp [go_sem]; done) | (simp [go_sem, *]; done))
    have g1_1_0 : w1.frozen? ⟨w.heap.size + 1, 0, none⟩ = false := (b1.frozen (p := ⟨w.heap.size + 1, 0, none⟩) (by first | (simp; done) | (simp; omega) | omega)).trans (by first | with_reducible assumption | (simp [go_sem]; done) | (simp [go_sem, *]; done))
    have k1_1_1 : w1.cell? ⟨w.heap.size + 1, 1, none⟩ = some (.int .i64 (e)) := (b1.cell (p := ⟨w.heap.size + 1, 1, none⟩) (by first | (simp; done) | (simp; omega) | omega)).trans (by first | with_reducible assumption | (simp [go_sem]; done) | (simp [go_sem, *]; done))
    have g1_1_1 : w1.frozen? ⟨w.heap.size + 1, 1, none⟩ = false := (b1.frozen (p := ⟨w.heap.size + 1, 1, none⟩) (by first | (simp; done) | (simp; omega) | omega)).trans (by first | with_reducible assumption | (simp [go_sem]; done) | (simp [go_sem, *]; done))
    have k1_1_2 : w1.cell? ⟨w.heap.size + 1, 2, none⟩ = some (.int .i64 (f)) := (b1.cell (p := ⟨w.heap.size + 1, 2, none⟩) (by first | (simp; done) | (simp; omega) | omega)).trans (by first | with_reducible assumption | (simp [go_sem]; done) | (simp [go_sem, *]; done))
    have g1_1_2 : w1.frozen? ⟨w.heap.size + 1, 2, none⟩ = false := (b1.frozen (p := ⟨w.heap.size + 1, 2, none⟩) (by first | (simp; done) | (simp; omega) | omega)).trans (by first | with_reducible assumption | (simp [go_sem]; done) | (simp [go_sem, *]; done))
    have z1_2 : w.heap.size + 1 + 1 < w1.heap.size := by omega
    have k1_2_0 : w1.cell? ⟨w.heap.size + 1 + 1, 0, none⟩ = some (.int .i64 (0)) := (b1.cell (p := ⟨w.heap.size + 1 + 1, 0, none⟩) (by first | (simp; done) | (simp; omega) | omega)).trans (by first | with_reducible assumption | (simp [go_sem]; done) | (simp [go_sem, *]; done))
    have g1_2_0 : w1.frozen? ⟨w.heap.size + 1 + 1, 0, none⟩ = false := (b1.frozen (p := ⟨w.heap.size + 1 + 1, 0, none⟩) (by first | (simp; done) | (simp; omega) | omega)).trans (by first | with_reducible assumption | (simp [go_sem]; done) | (simp [go_sem, *]; done))
    have k1_2_1 : w1.cell? ⟨w.heap.size + 1 + 1, 1, none⟩ = some (.int .i64 (0)) := (b1.cell (p := ⟨w.heap.size + 1 + 1, 1, none⟩) (by first | (simp; done) | (simp; omega) | omega)).trans (by first | with_reducible assumption | (simp [go_sem]; done) | (simp [go_sem, *]; done))
    have g1_2_1 : w1.frozen? ⟨w.heap.size + 1 + 1, 1, none⟩ = false := (b1.frozen (p := ⟨w.heap.size + 1 + 1, 1, none⟩) (by first | (simp; done) | (simp; omega) | omega)).trans (by first | with_reducible assumption | (simp [go_sem]; done) | (simp [go_sem, *]; done))
    have k1_2_2 : w1.cell? ⟨w.heap.size + 1 + 1, 2, none⟩ = some (.int .i64 (0)) := (b1.cell (p := ⟨w.heap.size + 1 + 1, 2, none⟩) (by first | (simp; done) | (simp; omega) | omega)).trans (by first | with_reducible assumption | (simp [go_sem]; done) | (simp [go_sem, *]; done))
    have g1_2_2 : w1.frozen? ⟨w.heap.size + 1 + 1, 2, none⟩ = false := (b1.frozen (p := ⟨w.heap.size + 1 + 1, 2, none⟩) (by first | (simp; done) | (simp; omega) | omega)).trans (by first | with_reducible assumption | (simp [go_sem]; done) | (simp [go_sem, *]; done))
    have k1_2_3 : w1.cell? ⟨w.heap.size + 1 + 1, 3, none⟩ = some (.int .i64 (0)) := (b1.cell (p := ⟨w.heap.size + 1 + 1, 3, none⟩) (by first | (simp; done) | (simp; omega) | omega)).trans (by first | with_reducible assumption | (simp [go_sem]; done) | (simp [go_sem, *]; done))
    have g1_2_3 : w1.frozen? ⟨w.heap.size + 1 + 1, 3, none⟩ = false := (b1.frozen (p := ⟨w.heap.size + 1 + 1, 3, none⟩) (by first | (simp; done) | (simp; omega) | omega)).trans (by first | with_reducible assumption | (simp [go_sem]; done) | (simp [go_sem, *]; done))
    go_wp2
    refine bodyPost_ret (v := .tuple #[.agg #[.int .i64 0, .int .i64 0, .int .i64 0, .int .i64 0], .int .i64 (-1)]) (by simp [results, Try.results47, go_sem, *]) rfl ⟨rfl, ?_⟩
    (repeat (first | with_reducible exact Below.refl _ _ | with_reducible refine bl_alloc ?_ _ | with_reducible refine bl_drew ?_ | with_reducible refine bl_set ?_ (by first | (simp; done) | (simp; omega)) _ | with_reducible refine bl_call (by assumption) ?_))
  
  | true =>
    cases q2 : lineB d e f with
    | false =>
      have r4 : MlK a b c d e f = -1 := by simp [MlK, mlB, q1, q2]
      have r0 : MlA a b c d e f = 0 := by simp [MlA, mlOne, mlB, q1, q2]
      have r1 : MlB a b c d e f = 0 := by simp [MlB, mlOne, mlB, q1, q2]
      have r2 : MlC a b c d e f = 0 := by simp [MlC, mlOne, mlB, q1, q2]
      have r3 : MlD a b c d e f = 0 := by simp [MlD, mlOne, mlB, q1, q2]
      rw [r0, r1, r2, r3, r4]
      clear r0 r1 r2 r3 r4
      have K1 : Hid (∀ W : World, Calls Try.prog 93 #[.agg #[.int .i64 a, .int .i64 b, .int .i64 c]] W fun e_ w' => e_ = .returned (.bool true) ∧ Below W.heap.size W w') := Lib.hid fun W => by
        have h := impl_Line_valid (a) (b) (c) W
        rw [q1] at h
        exact h
      have K2 : Hid (∀ W : World, Calls Try.prog 93 #[.agg #[.int .i64 d, .int .i64 e, .int .i64 f]] W fun e_ w' => e_ = .returned (.bool false) ∧ Below W.heap.size W w') := Lib.hid fun W => by
        have h := impl_Line_valid (d) (e) (f) W
        rw [q2] at h
        exact h
      clear q1 q2
      go_enter Try.func47, Try.ntmps47
      go_wp2_with fail
      refine (K1.out _).mono ?_
      rintro e_ w1 ⟨rfl, b1⟩
      have s1 := b1.size
      try simp at s1
      have z1_0 : w.heap.size < w1.heap.size := by omega
      have k1_0_0 : w1.cell? ⟨w.heap.size, 0, none⟩ = some (.int .i64 (a)) := (b1.cell (p := ⟨w.heap.size, 0, none⟩) (by first | (simp; done) | (simp; omega) | omega)).trans (by first | with_reducible assumption | (simp [go_sem]; done) | (simp [go_sem, *]; done))
      have g1_0_0 : w1.frozen? ⟨w.heap.size, 0, none⟩ = false := (b1.frozen (p := ⟨w.heap.size, 0, none⟩) (by first | (simp; done) | (simp; omega) | omega)).trans (by first | with_reducible assumption | (simp [go_sem]; done) | (simp [go_sem, *]; done))
      have k1_0_1 : w1.cell? ⟨w.heap.size, 1, none⟩ = some (.int .i64 (b)) := (b1.cell (p := ⟨w.heap.size, 1, none⟩) (by first | (simp; done) | (simp; omega) | omega)).trans (by first | with_reducible assumption | (simp [go_sem]; done) | (simp [go_sem, *]; done))
      have g1_0_1 : w1.frozen? ⟨w.heap.size, 1, none⟩ = false := (b1.frozen (p := ⟨w.heap.size, 1, none⟩) (by first | (simp; done) | (simp; omega) | omega)).trans (by first | with_reducible assumption | (simp [go_sem]; done) | (simp [go_sem, *]; done))
      have k1_0_2 : w1.cell? ⟨w.heap.size, 2, none⟩ = some (.int .i64 (c)) := (b1.cell (p := ⟨w.heap.size, 2, none⟩) (by first | (simp; done) | (simp; omega) | omega)).trans (by first | with_reducible assumption | (simp [go_sem]; done) | (simp [go_sem, *]; done))
      have g1_0_2 : w1.frozen? ⟨w.heap.size, 2, none⟩ = false := (b1.frozen (p := ⟨w.heap.size, 2, none⟩) (by first | (simp; done) | (simp; omega) | omega)).trans (by first | with_reducible assumption | (simp [go_sem]; done) | (simp [go_sem, *]; done))
      have z1_1 : w.heap.size + 1 < w1.heap.size := by omega
      have k1_1_0 : w1.cell? ⟨w.heap.size + 1, 0, none⟩ = some (.int .i64 (d)) := (b1.cell (p := ⟨w.heap.size + 1, 0, none⟩) (by first | (simp; done) | (simp; omega) | omega)).trans (by first | with_reducible assumption | (simp [go_sem]; done) | (simp [go_sem, *]; done))
      have g1_1_0 : w1.frozen? ⟨w.heap.size + 1, 0, none⟩ = false := (b1.frozen (p := ⟨w.heap.size + 1, 0, none⟩) (by first | (simp; done) | (simp; omega) | omega)).trans (by first | with_reducible assumption | (simp [go_sem]; done) | (simp [go_sem, *]; done))
      have k1_1_1 : w1.cell? ⟨w.heap.size + 1, 1, none⟩ = some (.int .i64 (e)) := (b1.cell (p := ⟨w.heap.size + 1, 1, none⟩) (by first | (simp; done) | (simp; omega) | omega)).trans (by first | with_reducible assumption | (simp [go_sem]; done) | (simp [go_sem, *]; done))
      have g1_1_1 : w1.frozen? ⟨w.heap.size + 1, 1, none⟩ = false := (b1.frozen (p := ⟨w.heap.size + 1, 1, none⟩) (by first | (simp; done) | (simp; omega) | omega)).trans (by first | with_reducible assumption | (simp [go_sem]; done) | (simp [go_sem, *]; done))
      have k1_1_2 : w1.cell? ⟨w.heap.size + 1, 2, none⟩ = some (.int .i64 (f)) := (b1.cell (p := ⟨w.heap.size + 1, 2, none⟩) (by first | (simp; done) | (simp; omega) | omega)).trans (by first | with_reducible assumption | (simp [go_sem]; done) | (simp [go_sem, *]; done))
      have g1_1_2 : w1.frozen? ⟨w.heap.size + 1, 2, none⟩ = false := (b1.frozen (p := ⟨w.heap.size + 1, 2, none⟩) (by first | (simp; done) | (simp; omega) | omega)).trans (by first | with_reducible assumption | (simp [go_sem]; done) | (simp [go_sem, *]; done))
      have z1_2 : w.heap.size + 1 + 1 < w1.heap.size := by omega
      have k1_2_0 : w1.cell? ⟨w.heap.size + 1 + 1, 0, none⟩ = some (.int .i64 (0)) := (b1.cell (p := ⟨w.heap.size + 1 + 1, 0, none⟩) (by first | (simp; done) | (simp; omega) | omega)).trans (by first | with_reducible assumption | (simp [go_sem]; done) | (simp [go_sem, *]; done))
      have g1_2_0 : w1.frozen? ⟨w.heap.size + 1 + 1, 0, none⟩ = false := (b1.frozen (p := ⟨w.heap.size + 1 + 1, 0, none⟩) (by first | (simp; done) | (simp; omega) | omega)).trans (by first | with_reducible assumption | (simp [go_sem]; done) | (simp [go_sem, *]; done))
      have k1_2_1 : w1.cell? ⟨w.heap.size + 1 + 1, 1, none⟩ = some (.int .i64 (0)) := (b1.cell (p := ⟨w.heap.size + 1 + 1, 1, none⟩) (by first | (simp; done) | (simp; omega) | omega)).trans (by first | with_reducible assumption | (simp [go_sem]; done) | (simp [go_sem, *]; done))
      have g1_2_1 : w1.frozen? ⟨w.heap.size + 1 + 1, 1, none⟩ = false := (b1.frozen (p := ⟨w.heap.size + 1 + 1, 1, none⟩) (by first | (simp; done) | (simp; omega) | omega)).trans (by first | with_reducible assumption | (simp [go_sem]; done) | (simp [go_sem, *]; done))
      have k1_2_2 : w1.cell? ⟨w.heap.size + 1 + 1, 2, none⟩ = some (.int .i64 (0)) := (b1.cell (p := ⟨w.heap.size + 1 + 1, 2, none⟩) (by first | (simp; done) | (simp; omega) | omega)).trans (by first | with_reducible assumption | (simp [go_sem]; done) | (simp [go_sem, *]; done))
      have g1_2_2 : w1.frozen? ⟨w.heap.size + 1 + 1, 2, none⟩ = false := (b1.frozen (p := ⟨w.heap.size + 1 + 1, 2, none⟩) (by first | (simp; done) | (simp; omega) | omega)).trans (by first | with_reducible assumption | (simp [go_sem]; done) | (simp [go_sem, *]; done))
      have k1_2_3 : w1.cell? ⟨w.heap.size + 1 + 1, 3, none⟩ = some (.int .i64 (0)) := (b1.cell (p := ⟨w.heap.size + 1 + 1, 3, none⟩) (by first | (simp; done) | (simp; omega) | omega)).trans (by first | with_reducible assumption | (simp [go_sem]; done) | (simp [go_sem, *]; done))
      have g1_2_3 : w1.frozen? ⟨w.heap.size + 1 + 1, 3, none⟩ = false := (b1.frozen (p := ⟨w.heap.size + 1 + 1, 3, none⟩) (by first | (simp; done) | (simp; omega) | omega)).trans (by first | with_reducible assumption | (simp [go_sem]; done) | (simp [go_sem, *]; done))
      go_wp2_with fail
      refine (K2.out _).mono ?_
      rintro e_ w2 ⟨rfl, b2⟩
      have s2 := b2.size
      try simp at s2
      have z2_0 : w.heap.size < w2.heap.size := by omega
      have k2_0_0 : w2.cell? ⟨w.heap.size, 0, none⟩ = some (.int .i64 (a)) := (b2.cell (p := ⟨w.heap.size, 0, none⟩) (by first | (simp; done) | (simp; omega) | omega)).trans (by first | with_reducible assumption | (simp [go_sem]; done) | (simp [go_sem, *]; done))
      have g2_0_0 : w2.frozen? ⟨w.heap.size, 0, none⟩ = false := (b2.frozen (p := ⟨w.heap.size, 0, none⟩) (by first | (simp; done) | (simp; omega) | omega)).trans (by first | with_reducible assumption | (simp [go_sem]; done) | (simp [go_sem, *]; done))
      have k2_0_1 : w2.cell? ⟨w.heap.size, 1, none⟩ = some (.int .i64 (b)) := (b2.cell (p := ⟨w.heap.size, 1, none⟩) (by first | (simp; done) | (simp; omega) | omega)).trans (by first | with_reducible assumption | (simp [go_sem]; done) | (simp [go_sem, *]; done))
      have g2_0_1 : w2.frozen? ⟨w.heap.size, 1, none⟩ = false := (b2.frozen (p := ⟨w.heap.size, 1, none⟩) (by first | (simp; done) | (simp; omega) | omega)).trans (by first | with_reducible assumption | (simp [go_sem]; done) | (simp [go_sem, *]; done))
      have k2_0_2 : w2.cell? ⟨w.heap.size, 2, none⟩ = some (.int .i64 (c)) := (b2.cell (p := ⟨w.heap.size, 2, none⟩) (by first | (simp; done) | (simp; omega) | omega)).trans (by first | with_reducible assumption | (simp [go_sem]; done) | (simp [go_sem, *]; done))
      have g2_0_2 : w2.frozen? ⟨w.heap.size, 2, none⟩ = false := (b2.frozen (p := ⟨w.heap.size, 2, none⟩) (by first | (simp; done) | (simp; omega) | omega)).trans (by first | with_reducible assumption | (simp [go_sem]; done) | (simp [go_sem, *]; done))
      have z2_1 : w.heap.size + 1 < w2.heap.size := by omega
      have k2_1_0 : w2.cell? ⟨w.heap.size + 1, 0, none⟩ = some (.int .i64 (d)) := (b2.cell (p := ⟨w.heap.size + 1, 0, none⟩) (by first | (simp; done) | (simp; omega) | omega)).trans (by first | with_reducible assumption | (simp [go_sem]; done) | (simp [go_sem, *]; done))
      have g2_1_0 : w2.frozen? ⟨w.heap.size + 1, 0, none⟩ = false := (b2.frozen (p := ⟨w.heap.size + 1, 0, none⟩) (by first | (simp; done) | (simp; omega) | omega)).trans (by first | with_reducible assumption | (simp [go_sem]; done) | (simp [go_sem, *]; done))
      have k2_1_1 : w2.cell? ⟨w.heap.size + 1, 1, none⟩ = some (.int .i64 (e)) := (b2.cell (p := ⟨w.heap.size + 1, 1, none⟩) (by first | (simp; done) | (simp; omega) | omega)).trans (by first | with_reducible assumption | (simp [go_sem]; done) | (simp [go_sem, *]; done))
      have g2_1_1 : w2.frozen? ⟨w.heap.size + 1, 1, none⟩ = false := (b2.frozen (p := ⟨w.heap.size + 1, 1, none⟩) (by first | (simp; done) | (simp; omega) | omega)).trans (by first | with_reducible assumption | (simp [go_sem]; done) | (simp [go_sem, *]; done))
      have k2_1_2 : w2.cell? ⟨w.heap.size + 1, 2, none⟩ = some (.int .i64 (f)) := (b2.cell (p := ⟨w.heap.size + 1, 2, none⟩) (by first | (simp; done) | (simp; omega) | omega)).trans (by first | with_reducible assumption | (simp [go_sem]; done) | (simp [go_sem, *]; done))
      have g2_1_2 : w2.frozen? ⟨w.heap.size + 1, 2, none⟩ = false := (b2.frozen (p := ⟨w.heap.size + 1, 2, none⟩) (by first | (simp; done) | (simp; omega) | omega)).trans (by first | with_reducible assumption | (simp [go_sem]; done) | (simp [go_sem, *]; done))
      have z2_2 : w.heap.size + 1 + 1 < w2.heap.size := by omega
      have k2_2_0 : w2.cell? ⟨w.heap.size + 1 + 1, 0, none⟩ = some (.int .i64 (0)) := (b2.cell (p := ⟨w.heap.size + 1 + 1, 0, none⟩) (by first | (simp; done) | (simp; omega) | omega)).trans (by first | with_reducible assumption | (simp [go_sem]; done) | (simp [go_sem, *]; done))
      have g2_2_0 : w2.frozen? ⟨w.heap.size + 1 + 1, 0, none⟩ = false := (b2.frozen (p := ⟨w.heap.size + 1 + 1, 0, none⟩) (by first | (simp; done) | (simp; omega) | omega)).trans (by first | with_reducible assumption | (simp [go_sem]; done) | (simp [go_sem, *]; done))
      have k2_2_1 : w2.cell? ⟨w.heap.size + 1 + 1, 1, none⟩ = some (.int .i64 (0)) := (b2.cell (p := ⟨w.heap.size + 1 + 1, 1, none⟩) (by first | (simp; done) | (simp; omega) | omega)).trans (by first | with_reducible assumption | (simp [go_sem]; done) | (simp [go_sem, *]; done))
      have g2_2_1 : w2.frozen? ⟨w.heap.size + 1 + 1, 1, none⟩ = false := (b2.frozen (p := ⟨w.heap.size + 1 + 1, 1, none⟩) (by first | (simp; done) | (simp; omega) | omega)).trans (by first | with_reducible assumption | (simp [go_sem]; done) | (simp [go_sem, *]; done))
      have k2_2_2 : w2.cell? ⟨w.heap.size + 1 + 1, 2, none⟩ = some (.int .i64 (0)) := (b2.cell (p := ⟨w.heap.size + 1 + 1, 2, none⟩) (by first | (simp; done) | (simp; omega) | omega)).trans (by first | with_reducible assumption | (simp [go_sem]; done) | (simp [go_sem, *]; done))
      have g2_2_2 : w2.frozen? ⟨w.heap.size + 1 + 1, 2, none⟩ = false := (b2.frozen (p := ⟨w.heap.size + 1 + 1, 2, none⟩) (by first | (simp; done) | (simp; omega) | omega)).trans (by first | with_reducible assumption | (simp [go_sem]; done) | (simp [go_sem, *]; done))
      have k2_2_3 : w2.cell? ⟨w.heap.size + 1 + 1, 3, none⟩ = some (.int .i64 (0)) := (b2.cell (p := ⟨w.heap.size + 1 + 1, 3, none⟩) (by first | (simp; done) | (simp; omega) | omega)).trans (by first | with_reducible assumption | (simp [go_sem]; done) | (simp [go_sem, *]; done))
      have g2_2_3 : w2.frozen? ⟨w.heap.size + 1 + 1, 3, none⟩ = false := (b2.frozen (p := ⟨w.heap.size + 1 + 1, 3, none⟩) (by first | (simp; done) | (simp; omega) | omega)).trans (by first | with_reducible assumption | (simp [go_sem]; done) | (simp [go_sem, *]; done))
      clear k1_0_0 g1_0_0 k1_0_1 g1_0_1 k1_0_2 g1_0_2 k1_1_0 g1_1_0 k1_1_1 g1_1_1 k1_1_2 g1_1_2 k1_2_0 g1_2_0 k1_2_1 g1_2_1 k1_2_2 g1_2_2 k1_2_3 g1_2_3
      go_wp2
      refine bodyPost_ret (v := .tuple #[.agg #[.int .i64 0, .int .i64 0, .int .i64 0, .int .i64 0], .int .i64 (-1)]) (by simp [results, Try.results47, go_sem, *]) rfl ⟨rfl, ?_⟩
      (repeat (first | with_reducible exact Below.refl _ _ | with_reducible refine bl_alloc ?_ _ | with_reducible refine bl_drew ?_ | with_reducible refine bl_set ?_ (by first | (simp; done) | (simp; omega)) _ | with_reducible refine bl_call (by assumption) ?_))
  
    | true =>
      obtain ⟨⟨la, ua⟩, ⟨lb, ub⟩, ⟨lc, uc⟩⟩ := lineB_true q1
      obtain ⟨⟨ld, ud⟩, ⟨le, ue⟩, ⟨lf, uf⟩⟩ := lineB_true q2
      obtain ⟨m1l, m1u⟩ := mul_bd a e 2000 2000 (by omega) (by omega) (by omega) (by omega)
      obtain ⟨m2l, m2u⟩ := mul_bd d b 2000 2000 (by omega) (by omega) (by omega) (by omega)
      obtain ⟨m3l, m3u⟩ := mul_bd c e 4000000 2000 (by omega) (by omega) (by omega) (by omega)
      obtain ⟨m4l, m4u⟩ := mul_bd f b 4000000 2000 (by omega) (by omega) (by omega) (by omega)
      obtain ⟨m5l, m5u⟩ := mul_bd a f 2000 4000000 (by omega) (by omega) (by omega) (by omega)
      obtain ⟨m6l, m6u⟩ := mul_bd d c 2000 4000000 (by omega) (by omega) (by omega) (by omega)
      by_cases e1 : a = d
      · by_cases e2 : b = e
        · by_cases e3 : c = f
          · have hs : sameB a b c d e f = true := by simp [sameB, e1, e2, e3]
            have r4 : MlK a b c d e f = 2 := by simp [MlK, mlB, q1, q2, hs]
            have r0 : MlA a b c d e f = 0 := by simp [MlA, mlOne, mlB, q1, q2, hs]
            have r1 : MlB a b c d e f = 0 := by simp [MlB, mlOne, mlB, q1, q2, hs]
            have r2 : MlC a b c d e f = 0 := by simp [MlC, mlOne, mlB, q1, q2, hs]
            have r3 : MlD a b c d e f = 0 := by simp [MlD, mlOne, mlB, q1, q2, hs]
            rw [r0, r1, r2, r3, r4]
            clear r0 r1 r2 r3 r4
            have K1 : Hid (∀ W : World, Calls Try.prog 93 #[.agg #[.int .i64 a, .int .i64 b, .int .i64 c]] W fun e_ w' => e_ = .returned (.bool true) ∧ Below W.heap.size W w') := Lib.hid fun W => by
              have h := impl_Line_valid (a) (b) (c) W
              rw [q1] at h
              exact h
            have K2 : Hid (∀ W : World, Calls Try.prog 93 #[.agg #[.int .i64 d, .int .i64 e, .int .i64 f]] W fun e_ w' => e_ = .returned (.bool true) ∧ Below W.heap.size W w') := Lib.hid fun W => by
              have h := impl_Line_valid (d) (e) (f) W
              rw [q2] at h
              exact h
            have i1 : (a == d) = true := by simp [e1]
            have i2 : (b == e) = true := by simp [e2]
            have i3 : (c == f) = true := by simp [e3]
            clear e1 e2 e3 hs q1 q2
            go_enter Try.func47, Try.ntmps47
            go_wp2_with fail
            refine (K1.out _).mono ?_
            rintro e_ w1 ⟨rfl, b1⟩
            have s1 := b1.size
            try simp at s1
            have z1_0 : w.heap.size < w1.heap.size := by omega
            have k1_0_0 : w1.cell? ⟨w.heap.size, 0, none⟩ = some (.int .i64 (a)) := (b1.cell (p := ⟨w.heap.size, 0, none⟩) (by first | (simp; done) | (simp; omega) | omega)).trans (by first | with_reducible assumption | (simp [go_sem]; done) | (simp [go_sem, *]; done))
            have g1_0_0 : w1.frozen? ⟨w.heap.size, 0, none⟩ = false := (b1.frozen (p := ⟨w.heap.size, 0, none⟩) (by first | (simp; done) | (simp; omega) | omega)).trans (by first | with_reducible assumption | (simp [go_sem]; done) | (simp [go_sem, *]; done))
            have k1_0_1 : w1.cell? ⟨w.heap.size, 1, none⟩ = some (.int .i64 (b)) := (b1.cell (p := ⟨w.heap.size, 1, none⟩) (by first | (simp; done) | (simp; omega) | omega)).trans (by first | with_reducible assumption | (simp [go_sem]; done) | (simp [go_sem, *]; done))
            have g1_0_1 : w1.frozen? ⟨w.heap.size, 1, none⟩ = false := (b1.frozen (p := ⟨w.heap.size, 1, none⟩) (by first | (simp; done) | (simp; omega) | omega)).trans (by first | with_reducible assumption | (simp [go_sem]; done) | (simp [go_sem, *]; done))
            have k1_0_2 : w1.cell? ⟨w.heap.size, 2, none⟩ = some (.int .i64 (c)) := (b1.cell (p := ⟨w.heap.size, 2, none⟩) (by first | (simp; done) | (simp; omega) | omega)).trans (by first | with_reducible assumption | (simp [go_sem]; done) | (simp [go_sem, *]; done))
            have g1_0_2 : w1.frozen? ⟨w.heap.size, 2, none⟩ = false := (b1.frozen (p := ⟨w.heap.size, 2, none⟩) (by first | (simp; done) | (simp; omega) | omega)).trans (by first | with_reducible assumption | (simp [go_sem]; done) | (simp [go_sem, *]; done))
            have z1_1 : w.heap.size + 1 < w1.heap.size := by omega
            have k1_1_0 : w1.cell? ⟨w.heap.size + 1, 0, none⟩ = some (.int .i64 (d)) := (b1.cell (p := ⟨w.heap.size + 1, 0, none⟩) (by first | (simp; done) | (simp; omega) | omega)).trans (by first | with_reducible assumption | (simp [go_sem]; done) | (simp [go_sem, *]; done))
            have g1_1_0 : w1.frozen? ⟨w.heap.size + 1, 0, none⟩ = false := (b1.frozen (p := ⟨w.heap.size + 1, 0, none⟩) (by first | (simp; done) | (simp; omega) | omega)).trans (by first | with_reducible assumption | (simp [go_sem]; done) | (simp [go_sem, *]; done))
            have k1_1_1 : w1.cell? ⟨w.heap.size + 1, 1, none⟩ = some (.int .i64 (e)) := (b1.cell (p := ⟨w.heap.size + 1, 1, none⟩) (by first | (simp; done) | (simp; omega) | omega)).trans (by first | with_reducible assumption | (simp [go_sem]; done) | (simp [go_sem, *]; done))
            have g1_1_1 : w1.frozen? ⟨w.heap.size + 1, 1, none⟩ = false := (b1.frozen (p := ⟨w.heap.size + 1, 1, none⟩) (by first | (simp; done) | (simp; omega) | omega)).trans (by first | with_reducible assumption | (simp [go_sem]; done) | (simp [go_sem, *]; done))
            have k1_1_2 : w1.cell? ⟨w.heap.size + 1, 2, none⟩ = some (.int .i64 (f)) := (b1.cell (p := ⟨w.heap.size + 1, 2, none⟩) (by first | (simp; done) | (simp; omega) | omega)).trans (by first | with_reducible assumption | (simp [go_sem]; done) | (simp [go_sem, *]; done))
            have g1_1_2 : w1.frozen? ⟨w.heap.size + 1, 2, none⟩ = false := (b1.frozen (p := ⟨w.heap.size + 1, 2, none⟩) (by first | (simp; done) | (simp; omega) | omega)).trans (by first | with_reducible assumption | (simp [go_sem]; done) | (simp [go_sem, *]; done))
            have z1_2 : w.heap.size + 1 + 1 < w1.heap.size := by omega
            have k1_2_0 : w1.cell? ⟨w.heap.size + 1 + 1, 0, none⟩ = some (.int .i64 (0)) := (b1.cell (p := ⟨w.heap.size + 1 + 1, 0, none⟩) (by first | (simp; done) | (simp; omega) | omega)).trans (by first | with_reducible assumption | (simp [go_sem]; done) | (simp [go_sem, *]; done))
            have g1_2_0 : w1.frozen? ⟨w.heap.size + 1 + 1, 0, none⟩ = false := (b1.frozen (p := ⟨w.heap.size + 1 + 1, 0, none⟩) (by first | (simp; done) | (simp; omega) | omega)).trans (by first | with_reducible assumption | (simp [go_sem]; done) | (simp [go_sem, *]; done))
            have k1_2_1 : w1.cell? ⟨w.heap.size + 1 + 1, 1, none⟩ = some (.int .i64 (0)) := (b1.cell (p := ⟨w.heap.size + 1 + 1, 1, none⟩) (by first | (simp; done) | (simp; omega) | omega)).trans (by first | with_reducible assumption | (simp [go_sem]; done) | (simp [go_sem, *]; done))
            have g1_2_1 : w1.frozen? ⟨w.heap.size + 1 + 1, 1, none⟩ = false := (b1.frozen (p := ⟨w.heap.size + 1 + 1, 1, none⟩) (by first | (simp; done) | (simp; omega) | omega)).trans (by first | with_reducible assumption | (simp [go_sem]; done) | (simp [go_sem, *]; done))
            have k1_2_2 : w1.cell? ⟨w.heap.size + 1 + 1, 2, none⟩ = some (.int .i64 (0)) := (b1.cell (p := ⟨w.heap.size + 1 + 1, 2, none⟩) (by first | (simp; done) | (simp; omega) | omega)).trans (by first | with_reducible assumption | (simp [go_sem]; done) | (simp [go_sem, *]; done))
            have g1_2_2 : w1.frozen? ⟨w.heap.size + 1 + 1, 2, none⟩ = false := (b1.frozen (p := ⟨w.heap.size + 1 + 1, 2, none⟩) (by first | (simp; done) | (simp; omega) | omega)).trans (by first | with_reducible assumption | (simp [go_sem]; done) | (simp [go_sem, *]; done))
            have k1_2_3 : w1.cell? ⟨w.heap.size + 1 + 1, 3, none⟩ = some (.int .i64 (0)) := (b1.cell (p := ⟨w.heap.size + 1 + 1, 3, none⟩) (by first | (simp; done) | (simp; omega) | omega)).trans (by first | with_reducible assumption | (simp [go_sem]; done) | (simp [go_sem, *]; done))
            have g1_2_3 : w1.frozen? ⟨w.heap.size + 1 + 1, 3, none⟩ = false := (b1.frozen (p := ⟨w.heap.size + 1 + 1, 3, none⟩) (by first | (simp; done) | (simp; omega) | omega)).trans (by first | with_reducible assumption | (simp [go_sem]; done) | (simp [go_sem, *]; done))
            go_wp2_with fail
            refine (K2.out _).mono ?_
            rintro e_ w2 ⟨rfl, b2⟩
            have s2 := b2.size
            try simp at s2
            have z2_0 : w.heap.size < w2.heap.size := by omega
            have k2_0_0 : w2.cell? ⟨w.heap.size, 0, none⟩ = some (.int .i64 (a)) := (b2.cell (p := ⟨w.heap.size, 0, none⟩) (by first | (simp; done) | (simp; omega) | omega)).trans (by first | with_reducible assumption | (simp [go_sem]; done) | (simp [go_sem, *]; done))
            have g2_0_0 : w2.frozen? ⟨w.heap.size, 0, none⟩ = false := (b2.frozen (p := ⟨w.heap.size, 0, none⟩) (by first | (simp; done) | (simp; omega) | omega)).trans (by first | with_reducible assumption | (simp [go_sem]; done) | (simp [go_sem, *]; done))
            have k2_0_1 : w2.cell? ⟨w.heap.size, 1, none⟩ = some (.int .i64 (b)) := (b2.cell (p := ⟨w.heap.size, 1, none⟩) (by first | (simp; done) | (simp; omega) | omega)).trans (by first | with_reducible assumption | (simp [go_sem]; done) | (simp [go_sem, *]; done))
            have g2_0_1 : w2.frozen? ⟨w.heap.size, 1, none⟩ = false := (b2.frozen (p := ⟨w.heap.size, 1, none⟩) (by first | (simp; done) | (simp; omega) | omega)).trans (by first | with_reducible assumption | (simp [go_sem]; done) | (simp [go_sem, *]; done))
            have k2_0_2 : w2.cell? ⟨w.heap.size, 2, none⟩ = some (.int .i64 (c)) := (b2.cell (p := ⟨w.heap.size, 2, none⟩) (by first | (simp; done) | (simp; omega) | omega)).trans (by first | with_reducible assumption | (simp [go_sem]; done) | (simp [go_sem, *]; done))
            have g2_0_2 : w2.frozen? ⟨w.heap.size, 2, none⟩ = false := (b2.frozen (p := ⟨w.heap.size, 2, none⟩) (by first | (simp; done) | (simp; omega) | omega)).trans (by first | with_reducible assumption | (simp [go_sem]; done) | (simp [go_sem, *]; done))
            have z2_1 : w.heap.size + 1 < w2.heap.size := by omega
            have k2_1_0 : w2.cell? ⟨w.heap.size + 1, 0, none⟩ = some (.int .i64 (d)) := (b2.cell (p := ⟨w.heap.size + 1, 0, none⟩) (by first | (simp; done) | (simp; omega) | omega)).trans (by first | with_reducible assumption | (simp [go_sem]; done) | (simp [go_sem, *]; done))
            have g2_1_0 : w2.frozen? ⟨w.heap.size + 1, 0, none⟩ = false := (b2.frozen (p := ⟨w.heap.size + 1, 0, none⟩) (by first | (simp; done) | (simp; omega) | omega)).trans (by first | with_reducible assumption | (simp [go_sem]; done) | (simp [go_sem, *]; done))
            have k2_1_1 : w2.cell? ⟨w.heap.size + 1, 1, none⟩ = some (.int .i64 (e)) := (b2.cell (p := ⟨w.heap.size + 1, 1, none⟩) (by first | (simp; done) | (simp; omega) | omega)).trans (by first | with_reducible assumption | (simp [go_sem]; done) | (simp [go_sem, *]; done))
            have g2_1_1 : w2.frozen? ⟨w.heap.size + 1, 1, none⟩ = false := (b2.frozen (p := ⟨w.heap.size + 1, 1, none⟩) (by first | (simp; done) | (simp; omega) | omega)).trans (by first | with_reducible assumption | (simp [go_sem]; done) | (simp [go_sem, *]; done))
            have k2_1_2 : w2.cell? ⟨w.heap.size + 1, 2, none⟩ = some (.int .i64 (f)) := (b2.cell (p := ⟨w.heap.size + 1, 2, none⟩) (by first | (simp; done) | (simp; omega) | omega)).trans (by first | with_reducible assumption | (simp [go_sem]; done) | (simp [go_sem, *]; done))
            have g2_1_2 : w2.frozen? ⟨w.heap.size + 1, 2, none⟩ = false := (b2.frozen (p := ⟨w.heap.size + 1, 2, none⟩) (by first | (simp; done) | (simp; omega) | omega)).trans (by first | with_reducible assumption | (simp [go_sem]; done) | (simp [go_sem, *]; done))
            have z2_2 : w.heap.size + 1 + 1 < w2.heap.size := by omega
            have k2_2_0 : w2.cell? ⟨w.heap.size + 1 + 1, 0, none⟩ = some (.int .i64 (0)) := (b2.cell (p := ⟨w.heap.size + 1 + 1, 0, none⟩) (by first | (simp; done) | (simp; omega) | omega)).trans (by first | with_reducible assumption | (simp [go_sem]; done) | (simp [go_sem, *]; done))
            have g2_2_0 : w2.frozen? ⟨w.heap.size + 1 + 1, 0, none⟩ = false := (b2.frozen (p := ⟨w.heap.size + 1 + 1, 0, none⟩) (by first | (simp; done) | (simp; omega) | omega)).trans (by first | with_reducible assumption | (simp [go_sem]; done) | (simp [go_sem, *]; done))
            have k2_2_1 : w2.cell? ⟨w.heap.size + 1 + 1, 1, none⟩ = some (.int .i64 (0)) := (b2.cell (p := ⟨w.heap.size + 1 + 1, 1, none⟩) (by first | (simp; done) | (simp; omega) | omega)).trans (by first | with_reducible assumption | (simp [go_sem]; done) | (simp [go_sem, *]; done))
            have g2_2_1 : w2.frozen? ⟨w.heap.size + 1 + 1, 1, none⟩ = false := (b2.frozen (p := ⟨w.heap.size + 1 + 1, 1, none⟩) (by first | (simp; done) | (simp; omega) | omega)).trans (by first | with_reducible assumption | (simp [go_sem]; done) | (simp [go_sem, *]; done))
            have k2_2_2 : w2.cell? ⟨w.heap.size + 1 + 1, 2, none⟩ = some (.int .i64 (0)) := (b2.cell (p := ⟨w.heap.size + 1 + 1, 2, none⟩) (by first | (simp; done) | (simp; omega) | omega)).trans (by first | with_reducible assumption | (simp [go_sem]; done) | (simp [go_sem, *]; done))
            have g2_2_2 : w2.frozen? ⟨w.heap.size + 1 + 1, 2, none⟩ = false := (b2.frozen (p := ⟨w.heap.size + 1 + 1, 2, none⟩) (by first | (simp; done) | (simp; omega) | omega)).trans (by first | with_reducible assumption | (simp [go_sem]; done) | (simp [go_sem, *]; done))
            have k2_2_3 : w2.cell? ⟨w.heap.size + 1 + 1, 3, none⟩ = some (.int .i64 (0)) := (b2.cell (p := ⟨w.heap.size + 1 + 1, 3, none⟩) (by first | (simp; done) | (simp; omega) | omega)).trans (by first | with_reducible assumption | (simp [go_sem]; done) | (simp [go_sem, *]; done))
            have g2_2_3 : w2.frozen? ⟨w.heap.size + 1 + 1, 3, none⟩ = false := (b2.frozen (p := ⟨w.heap.size + 1 + 1, 3, none⟩) (by first | (simp; done) | (simp; omega) | omega)).trans (by first | with_reducible assumption | (simp [go_sem]; done) | (simp [go_sem, *]; done))
            clear k1_0_0 g1_0_0 k1_0_1 g1_0_1 k1_0_2 g1_0_2 k1_1_0 g1_1_0 k1_1_1 g1_1_1 k1_1_2 g1_1_2 k1_2_0 g1_2_0 k1_2_1 g1_2_1 k1_2_2 g1_2_2 k1_2_3 g1_2_3
            go_wp2
            refine bodyPost_ret (v := .tuple #[.agg #[.int .i64 0, .int .i64 0, .int .i64 0, .int .i64 0], .int .i64 2]) (by simp [results, Try.results47, go_sem, *]) rfl ⟨rfl, ?_⟩
            (repeat (first | with_reducible exact Below.refl _ _ | with_reducible refine bl_alloc ?_ _ | with_reducible refine bl_drew ?_ | with_reducible refine bl_set ?_ (by first | (simp; done) | (simp; omega)) _ | with_reducible refine bl_call (by assumption) ?_))
          · have hs : sameB a b c d e f = false := by simp [sameB, e3]
            by_cases hd : a * e - d * b = 0
            · have r4 : MlK a b c d e f = 0 := by simp [MlK, mlB, q1, q2, hs, hd]
              have r0 : MlA a b c d e f = 0 := by simp [MlA, mlOne, mlB, q1, q2, hs, hd]
              have r1 : MlB a b c d e f = 0 := by simp [MlB, mlOne, mlB, q1, q2, hs, hd]
              have r2 : MlC a b c d e f = 0 := by simp [MlC, mlOne, mlB, q1, q2, hs, hd]
              have r3 : MlD a b c d e f = 0 := by simp [MlD, mlOne, mlB, q1, q2, hs, hd]
              rw [r0, r1, r2, r3, r4]
              clear r0 r1 r2 r3 r4
              have K1 : Hid (∀ W : World, Calls Try.prog 93 #[.agg #[.int .i64 a, .int .i64 b, .int .i64 c]] W fun e_ w' => e_ = .returned (.bool true) ∧ Below W.heap.size W w') := Lib.hid fun W => by
                have h := impl_Line_valid (a) (b) (c) W
                rw [q1] at h
                exact h
              have K2 : Hid (∀ W : World, Calls Try.prog 93 #[.agg #[.int .i64 d, .int .i64 e, .int .i64 f]] W fun e_ w' => e_ = .returned (.bool true) ∧ Below W.heap.size W w') := Lib.hid fun W => by
                have h := impl_Line_valid (d) (e) (f) W
                rw [q2] at h
                exact h
              have i1 : (a == d) = true := by simp [e1]
              have i2 : (b == e) = true := by simp [e2]
              have i3 : (c == f) = false := by simp [e3]
              have j0 : (a * e - d * b == 0) = true := by simp [hd]
              clear hd
              clear hs q1 q2 e1 e2 e3
              go_enter Try.func47, Try.ntmps47
              go_wp2_with fail
              refine (K1.out _).mono ?_
              rintro e_ w1 ⟨rfl, b1⟩
              have s1 := b1.size
              try simp at s1
              have z1_0 : w.heap.size < w1.heap.size := by omega
              have k1_0_0 : w1.cell? ⟨w.heap.size, 0, none⟩ = some (.int .i64 (a)) := (b1.cell (p := ⟨w.heap.size, 0, none⟩) (by first | (simp; done) | (simp; omega) | omega)).trans (by first | with_reducible assumption | (simp [go_sem]; done) | (simp [go_sem, *]; done))
              have g1_0_0 : w1.frozen? ⟨w.heap.size, 0, none⟩ = false := (b1.frozen (p := ⟨w.heap.size, 0, none⟩) (by first | (simp; done) | (simp; omega) | omega)).trans (by first | with_reducible assumption | (simp [go_sem]; done) | (simp [go_sem, *]; done))
              have k1_0_1 : w1.cell? ⟨w.heap.size, 1, none⟩ = some (.int .i64 (b)) := (b1.cell (p := ⟨w.heap.size, 1, none⟩) (by first | (simp; done) | (simp; omega) | omega)).trans (by first | with_reducible assumption | (simp [go_sem]; done) | (simp [go_sem, *]; done))
              have g1_0_1 : w1.frozen? ⟨w.heap.size, 1, none⟩ = false := (b1.frozen (p := ⟨w.heap.size, 1, none⟩) (by first | (simp; done) | (simp; omega) | omega)).trans (by first | with_reducible assumption | (simp [go_sem]; done) | (simp [go_sem, *]; done))
              have k1_0_2 : w1.cell? ⟨w.heap.size, 2, none⟩ = some (.int .i64 (c)) := (b1.cell (p := ⟨w.heap.size, 2, none⟩) (by first | (simp; done) | (simp; omega) | omega)).trans (by first | with_reducible assumption | (simp [go_sem]; done) | (simp [go_sem, *]; done))
              have g1_0_2 : w1.frozen? ⟨w.heap.size, 2, none⟩ = false := (b1.frozen (p := ⟨w.heap.size, 2, none⟩) (by first | (simp; done) | (simp; omega) | omega)).trans (by first | with_reducible assumption | (simp [go_sem]; done) | (simp [go_sem, *]; done))
              have z1_1 : w.heap.size + 1 < w1.heap.size := by omega
              have k1_1_0 : w1.cell? ⟨w.heap.size + 1, 0, none⟩ = some (.int .i64 (d)) := (b1.cell (p := ⟨w.heap.size + 1, 0, none⟩) (by first | (simp; done) | (simp; omega) | omega)).trans (by first | with_reducible assumption | (simp [go_sem]; done) | (simp [go_sem, *]; done))
              have g1_1_0 : w1.frozen? ⟨w.heap.size + 1, 0, none⟩ = false := (b1.frozen (p := ⟨w.heap.size + 1, 0, none⟩) (by first | (simp; done) | (simp; omega) | omega)).trans (by first | with_reducible assumption | (simp [go_sem]; done) | (simp [go_sem, *]; done))
              have k1_1_1 : w1.cell? ⟨w.heap.size + 1, 1, none⟩ = some (.int .i64 (e)) := (b1.cell (p := ⟨w.heap.size + 1, 1, none⟩) (by first | (simp; done) | (simp; omega) | omega)).trans (by first | with_reducible assumption | (simp [go_sem]; done) | (simp [go_sem, *]; done))
              have g1_1_1 : w1.frozen? ⟨w.heap.size + 1, 1, none⟩ = false := (b1.frozen (p := ⟨w.heap.size + 1, 1, none⟩) (by first | (simp; done) | (simp; omega) | omega)).trans (by first | with_reducible assumption | (simp [go_sem]; done) | (simp [go_sem, *]; done))
              have k1_1_2 : w1.cell? ⟨w.heap.size + 1, 2, none⟩ = some (.int .i64 (f)) := (b1.cell (p := ⟨w.heap.size + 1, 2, none⟩) (by first | (simp; done) | (simp; omega) | omega)).trans (by first | with_reducible assumption | (simp [go_sem]; done) | (simp [go_sem, *]; done))
              have g1_1_2 : w1.frozen? ⟨w.heap.size + 1, 2, none⟩ = false := (b1.frozen (p := ⟨w.heap.size + 1, 2, none⟩) (by first | (simp; done) | (simp; omega) | omega)).trans (by first | with_reducible assumption | (simp [go_sem]; done) | (simp [go_sem, *]; done))
              have z1_2 : w.heap.size + 1 + 1 < w1.heap.size := by omega
              have k1_2_0 : w1.cell? ⟨w.heap.size + 1 + 1, 0, none⟩ = some (.int .i64 (0)) := (b1.cell (p := ⟨w.heap.size + 1 + 1, 0, none⟩) (by first | (simp; done) | (simp; omega) | omega)).trans (by first | with_reducible assumption | (simp [go_sem]; done) | (simp [go_sem, *]; done))
              have g1_2_0 : w1.frozen? ⟨w.heap.size + 1 + 1, 0, none⟩ = false := (b1.frozen (p := ⟨w.heap.size + 1 + 1, 0, none⟩) (by first | (simp; done) | (simp; omega) | omega)).trans (by first | with_reducible assumption | (simp [go_sem]; done) | (simp [go_sem, *]; done))
              have k1_2_1 : w1.cell? ⟨w.heap.size + 1 + 1, 1, none⟩ = some (.int .i64 (0)) := (b1.cell (p := ⟨w.heap.size + 1 + 1, 1, none⟩) (by first | (simp; done) | (simp; omega) | omega)).trans (by first | with_reducible assumption | (simp [go_sem]; done) | (simp [go_sem, *]; done))
              have g1_2_1 : w1.frozen? ⟨w.heap.size + 1 + 1, 1, none⟩ = false := (b1.frozen (p := ⟨w.heap.size + 1 + 1, 1, none⟩) (by first | (simp; done) | (simp; omega) | omega)).trans (by first | with_reducible assumption | (simp [go_sem]; done) | (simp [go_sem, *]; done))
              have k1_2_2 : w1.cell? ⟨w.heap.size + 1 + 1, 2, none⟩ = some (.int .i64 (0)) := (b1.cell (p := ⟨w.heap.size + 1 + 1, 2, none⟩) (by first | (simp; done) | (simp; omega) | omega)).trans (by first | with_reducible assumption | (simp [go_sem]; done) | (simp [go_sem, *]; done))
              have g1_2_2 : w1.frozen? ⟨w.heap.size + 1 + 1, 2, none⟩ = false := (b1.frozen (p := ⟨w.heap.size + 1 + 1, 2, none⟩) (by first | (simp; done) | (simp; omega) | omega)).trans (by first | with_reducible assumption | (simp [go_sem]; done) | (simp [go_sem, *]; done))
              have k1_2_3 : w1.cell? ⟨w.heap.size + 1 + 1, 3, none⟩ = some (.int .i64 (0)) := (b1.cell (p := ⟨w.heap.size + 1 + 1, 3, none⟩) (by first | (simp; done) | (simp; omega) | omega)).trans (by first | with_reducible assumption | (simp [go_sem]; done) | (simp [go_sem, *]; done))
              have g1_2_3 : w1.frozen? ⟨w.heap.size + 1 + 1, 3, none⟩ = false := (b1.frozen (p := ⟨w.heap.size + 1 + 1, 3, none⟩) (by first | (simp; done) | (simp; omega) | omega)).trans (by first | with_reducible assumption | (simp [go_sem]; done) | (simp [go_sem, *]; done))
              go_wp2_with fail
              refine (K2.out _).mono ?_
              rintro e_ w2 ⟨rfl, b2⟩
              have s2 := b2.size
              try simp at s2
              have z2_0 : w.heap.size < w2.heap.size := by omega
              have k2_0_0 : w2.cell? ⟨w.heap.size, 0, none⟩ = some (.int .i64 (a)) := (b2.cell (p := ⟨w.heap.size, 0, none⟩) (by first | (simp; done) | (simp; omega) | omega)).trans (by first | with_reducible assumption | (simp [go_sem]; done) | (simp [go_sem, *]; done))
              have g2_0_0 : w2.frozen? ⟨w.heap.size, 0, none⟩ = false := (b2.frozen (p := ⟨w.heap.size, 0, none⟩) (by first | (simp; done) | (simp; omega) | omega)).trans (by first | with_reducible assumption | (simp [go_sem]; done) | (simp [go_sem, *]; done))
              have k2_0_1 : w2.cell? ⟨w.heap.size, 1, none⟩ = some (.int .i64 (b)) := (b2.cell (p := ⟨w.heap.size, 1, none⟩) (by first | (simp; done) | (simp; omega) | omega)).trans (by first | with_reducible assumption | (simp [go_sem]; done) | (simp [go_sem, *]; done))
              have g2_0_1 : w2.frozen? ⟨w.heap.size, 1, none⟩ = false := (b2.frozen (p := ⟨w.heap.size, 1, none⟩) (by first | (simp; done) | (simp; omega) | omega)).trans (by first | with_reducible assumption | (simp [go_sem]; done) | (simp [go_sem, *]; done))
              have k2_0_2 : w2.cell? ⟨w.heap.size, 2, none⟩ = some (.int .i64 (c)) := (b2.cell (p := ⟨w.heap.size, 2, none⟩) (by first | (simp; done) | (simp; omega) | omega)).trans (by first | with_reducible assumption | (simp [go_sem]; done) | (simp [go_sem, *]; done))
              have g2_0_2 : w2.frozen? ⟨w.heap.size, 2, none⟩ = false := (b2.frozen (p := ⟨w.heap.size, 2, none⟩) (by first | (simp; done) | (simp; omega) | omega)).trans (by first | with_reducible assumption | (simp [go_sem]; done) | (simp [go_sem, *]; done))
              have z2_1 : w.heap.size + 1 < w2.heap.size := by omega
              have k2_1_0 : w2.cell? ⟨w.heap.size + 1, 0, none⟩ = some (.int .i64 (d)) := (b2.cell (p := ⟨w.heap.size + 1, 0, none⟩) (by first | (simp; done) | (simp; omega) | omega)).trans (by first | with_reducible assumption | (simp [go_sem]; done) | (simp [go_sem, *]; done))
              have g2_1_0 : w2.frozen? ⟨w.heap.size + 1, 0, none⟩ = false := (b2.frozen (p := ⟨w.heap.size + 1, 0, none⟩) (by first | (simp; done) | (simp; omega) | omega)).trans (by first | with_reducible assumption | (simp [go_sem]; done) | (simp [go_sem, *]; done))
              have k2_1_1 : w2.cell? ⟨w.heap.size + 1, 1, none⟩ = some (.int .i64 (e)) := (b2.cell (p := ⟨w.heap.size + 1, 1, none⟩) (by first | (simp; done) | (simp; omega) | omega)).trans (by first | with_reducible assumption | (simp [go_sem]; done) | (simp [go_sem, *]; done))
              have g2_1_1 : w2.frozen? ⟨w.heap.size + 1, 1, none⟩ = false := (b2.frozen (p := ⟨w.heap.size + 1, 1, none⟩) (by first | (simp; done) | (simp; omega) | omega)).trans (by first | with_reducible assumption | (simp [go_sem]; done) | (simp [go_sem, *]; done))
              have k2_1_2 : w2.cell? ⟨w.heap.size + 1, 2, none⟩ = some (.int .i64 (f)) := (b2.cell (p := ⟨w.heap.size + 1, 2, none⟩) (by first | (simp; done) | (simp; omega) | omega)).trans (by first | with_reducible assumption | (simp [go_sem]; done) | (simp [go_sem, *]; done))
              have g2_1_2 : w2.frozen? ⟨w.heap.size + 1, 2, none⟩ = false := (b2.frozen (p := ⟨w.heap.size + 1, 2, none⟩) (by first | (simp; done) | (simp; omega) | omega)).trans (by first | with_reducible assumption | (simp [go_sem]; done) | (simp [go_sem, *]; done))
              have z2_2 : w.heap.size + 1 + 1 < w2.heap.size := by omega
              have k2_2_0 : w2.cell? ⟨w.heap.size + 1 + 1, 0, none⟩ = some (.int .i64 (0)) := (b2.cell (p := ⟨w.heap.size + 1 + 1, 0, none⟩) (by first | (simp; done) | (simp; omega) | omega)).trans (by first | with_reducible assumption | (simp [go_sem]; done) | (simp [go_sem, *]; done))
              have g2_2_0 : w2.frozen? ⟨w.heap.size + 1 + 1, 0, none⟩ = false := (b2.frozen (p := ⟨w.heap.size + 1 + 1, 0, none⟩) (by first | (simp; done) | (simp; omega) | omega)).trans (by first | with_reducible assumption | (simp [go_sem]; done) | (simp [go_sem, *]; done))
              have k2_2_1 : w2.cell? ⟨w.heap.size + 1 + 1, 1, none⟩ = some (.int .i64 (0)) := (b2.cell (p := ⟨w.heap.size + 1 + 1, 1, none⟩) (by first | (simp; done) | (simp; omega) | omega)).trans (by first | with_reducible assumption | (simp [go_sem]; done) | (simp [go_sem, *]; done))
              have g2_2_1 : w2.frozen? ⟨w.heap.size + 1 + 1, 1, none⟩ = false := (b2.frozen (p := ⟨w.heap.size + 1 + 1, 1, none⟩) (by first | (simp; done) | (simp; omega) | omega)).trans (by first | with_reducible assumption | (simp [go_sem]; done) | (simp [go_sem, *]; done))
              have k2_2_2 : w2.cell? ⟨w.heap.size + 1 + 1, 2, none⟩ = some (.int .i64 (0)) := (b2.cell (p := ⟨w.heap.size + 1 + 1, 2, none⟩) (by first | (simp; done) | (simp; omega) | omega)).trans (by first | with_reducible assumption | (simp [go_sem]; done) | (simp [go_sem, *]; done))
              have g2_2_2 : w2.frozen? ⟨w.heap.size + 1 + 1, 2, none⟩ = false := (b2.frozen (p := ⟨w.heap.size + 1 + 1, 2, none⟩) (by first | (simp; done) | (simp; omega) | omega)).trans (by first | with_reducible assumption | (simp [go_sem]; done) | (simp [go_sem, *]; done))
              have k2_2_3 : w2.cell? ⟨w.heap.size + 1 + 1, 3, none⟩ = some (.int .i64 (0)) := (b2.cell (p := ⟨w.heap.size + 1 + 1, 3, none⟩) (by first | (simp; done) | (simp; omega) | omega)).trans (by first | with_reducible assumption | (simp [go_sem]; done) | (simp [go_sem, *]; done))
              have g2_2_3 : w2.frozen? ⟨w.heap.size + 1 + 1, 3, none⟩ = false := (b2.frozen (p := ⟨w.heap.size + 1 + 1, 3, none⟩) (by first | (simp; done) | (simp; omega) | omega)).trans (by first | with_reducible assumption | (simp [go_sem]; done) | (simp [go_sem, *]; done))
              clear k1_0_0 g1_0_0 k1_0_1 g1_0_1 k1_0_2 g1_0_2 k1_1_0 g1_1_0 k1_1_1 g1_1_1 k1_1_2 g1_1_2 k1_2_0 g1_2_0 k1_2_1 g1_2_1 k1_2_2 g1_2_2 k1_2_3 g1_2_3
              go_wp2
              refine bodyPost_ret (v := .tuple #[.agg #[.int .i64 0, .int .i64 0, .int .i64 0, .int .i64 0], .int .i64 0]) (by simp [results, Try.results47, go_sem, *]) rfl ⟨rfl, ?_⟩
              (repeat (first | with_reducible exact Below.refl _ _ | with_reducible refine bl_alloc ?_ _ | with_reducible refine bl_drew ?_ | with_reducible refine bl_set ?_ (by first | (simp; done) | (simp; omega)) _ | with_reducible refine bl_call (by assumption) ?_))
            · have hdet : a * e - d * b ≠ 0 := hd
              have r4 : MlK a b c d e f = 1 := by simp [MlK, mlB, q1, q2, hs, hd]
              have r0 : MlA a b c d e f = redN (c * e - f * b) (a * e - d * b) := by simp [MlA, mlOne, mlB, q1, q2, hs, hd]
              have r1 : MlB a b c d e f = redD (c * e - f * b) (a * e - d * b) := by simp [MlB, mlOne, mlB, q1, q2, hs, hd]
              have r2 : MlC a b c d e f = redN (a * f - d * c) (a * e - d * b) := by simp [MlC, mlOne, mlB, q1, q2, hs, hd]
              have r3 : MlD a b c d e f = redD (a * f - d * c) (a * e - d * b) := by simp [MlD, mlOne, mlB, q1, q2, hs, hd]
              rw [r0, r1, r2, r3, r4]
              clear r0 r1 r2 r3 r4
              have K1 : Hid (∀ W : World, Calls Try.prog 93 #[.agg #[.int .i64 a, .int .i64 b, .int .i64 c]] W fun e_ w' => e_ = .returned (.bool true) ∧ Below W.heap.size W w') := Lib.hid fun W => by
                have h := impl_Line_valid (a) (b) (c) W
                rw [q1] at h
                exact h
              have K2 : Hid (∀ W : World, Calls Try.prog 93 #[.agg #[.int .i64 d, .int .i64 e, .int .i64 f]] W fun e_ w' => e_ = .returned (.bool true) ∧ Below W.heap.size W w') := Lib.hid fun W => by
                have h := impl_Line_valid (d) (e) (f) W
                rw [q2] at h
                exact h
              have K3 : Hid (∀ W : World, Calls Try.prog 58 #[.int .i64 (c * e - f * b), .int .i64 (a * e - d * b)] W fun e_ w' => e_ = .returned (.agg #[.int .i64 (redN (c * e - f * b) (a * e - d * b)), .int .i64 (redD (c * e - f * b) (a * e - d * b))]) ∧ Below W.heap.size W w') := Lib.hid fun W => impl_reduced (c * e - f * b) (a * e - d * b) W (by omega) (by omega) (by omega) (by omega) hdet
              have K4 : Hid (∀ W : World, Calls Try.prog 58 #[.int .i64 (a * f - d * c), .int .i64 (a * e - d * b)] W fun e_ w' => e_ = .returned (.agg #[.int .i64 (redN (a * f - d * c) (a * e - d * b)), .int .i64 (redD (a * f - d * c) (a * e - d * b))]) ∧ Below W.heap.size W w') := Lib.hid fun W => impl_reduced (a * f - d * c) (a * e - d * b) W (by omega) (by omega) (by omega) (by omega) hdet
              generalize redN (c * e - f * b) (a * e - d * b) = R0 at *
              generalize redD (c * e - f * b) (a * e - d * b) = R1 at *
              generalize redN (a * f - d * c) (a * e - d * b) = R2 at *
              generalize redD (a * f - d * c) (a * e - d * b) = R3 at *
              have i1 : (a == d) = true := by simp [e1]
              have i2 : (b == e) = true := by simp [e2]
              have i3 : (c == f) = false := by simp [e3]
              have j0 : (a * e - d * b == 0) = false := by simp [hd]
              clear hd hdet
              clear hs q1 q2 e1 e2 e3
              go_enter Try.func47, Try.ntmps47
              go_wp2_with fail
              refine (K1.out _).mono ?_
              rintro e_ w1 ⟨rfl, b1⟩
              have s1 := b1.size
              try simp at s1
              have z1_0 : w.heap.size < w1.heap.size := by omega
              have k1_0_0 : w1.cell? ⟨w.heap.size, 0, none⟩ = some (.int .i64 (a)) := (b1.cell (p := ⟨w.heap.size, 0, none⟩) (by first | (simp; done) | (simp; omega) | omega)).trans (by first | with_reducible assumption | (simp [go_sem]; done) | (simp [go_sem, *]; done))
              have g1_0_0 : w1.frozen? ⟨w.heap.size, 0, none⟩ = false := (b1.frozen (p := ⟨w.heap.size, 0, none⟩) (by first | (simp; done) | (simp; omega) | omega)).trans (by first | with_reducible assumption | (simp [go_sem]; done) | (simp [go_sem, *]; done))
              have k1_0_1 : w1.cell? ⟨w.heap.size, 1, none⟩ = some (.int .i64 (b)) := (b1.cell (p := ⟨w.heap.size, 1, none⟩) (by first | (simp; done) | (simp; omega) | omega)).trans (by first | with_reducible assumption | (simp [go_sem]; done) | (simp [go_sem, *]; done))
              have g1_0_1 : w1.frozen? ⟨w.heap.size, 1, none⟩ = false := (b1.frozen (p := ⟨w.heap.size, 1, none⟩) (by first | (simp; done) | (simp; omega) | omega)).trans (by first | with_reducible assumption | (simp [go_sem]; done) | (simp [go_sem, *]; done))
              have k1_0_2 : w1.cell? ⟨w.heap.size, 2, none⟩ = some (.int .i64 (c)) := (b1.cell (p := ⟨w.heap.size, 2, none⟩) (by first | (simp; done) | (simp; omega) | omega)).trans (by first | with_reducible assumption | (simp [go_sem]; done) | (simp [go_sem, *]; done))
              have g1_0_2 : w1.frozen? ⟨w.heap.size, 2, none⟩ = false := (b1.frozen (p := ⟨w.heap.size, 2, none⟩) (by first | (simp; done) | (simp; omega) | omega)).trans (by first | with_reducible assumption | (simp [go_sem]; done) | (simp [go_sem, *]; done))
              have z1_1 : w.heap.size + 1 < w1.heap.size := by omega
              have k1_1_0 : w1.cell? ⟨w.heap.size + 1, 0, none⟩ = some (.int .i64 (d)) := (b1.cell (p := ⟨w.heap.size + 1, 0, none⟩) (by first | (simp; done) | (simp; omega) | omega)).trans (by first | with_reducible assumption | (simp [go_sem]; done) | (simp [go_sem, *]; done))
              have g1_1_0 : w1.frozen? ⟨w.heap.size + 1, 0, none⟩ = false := (b1.frozen (p := ⟨w.heap.size + 1, 0, none⟩) (by first | (simp; done) | (simp; omega) | omega)).trans (by first | with_reducible assumption | (simp [go_sem]; done) | (simp [go_sem, *]; done))
              have k1_1_1 : w1.cell? ⟨w.heap.size + 1, 1, none⟩ = some (.int .i64 (e)) := (b1.cell (p := ⟨w.heap.size + 1, 1, none⟩) (by first | (simp; done) | (simp; omega) | omega)).trans (by first | with_reducible assumption | (simp [go_sem]; done) | (simp [go_sem, *]; done))
              have g1_1_1 : w1.frozen? ⟨w.heap.size + 1, 1, none⟩ = false := (b1.frozen (p := ⟨w.heap.size + 1, 1, none⟩) (by first | (simp; done) | (simp; omega) | omega)).trans (by first | with_reducible assumption | (simp [go_sem]; done) | (simp [go_sem, *]; done))
              have k1_1_2 : w1.cell? ⟨w.heap.size + 1, 2, none⟩ = some (.int .i64 (f)) := (b1.cell (p := ⟨w.heap.size + 1, 2, none⟩) (by first | (simp; done) | (simp; omega) | omega)).trans (by first | with_reducible assumption | (simp [go_sem]; done) | (simp [go_sem, *]; done))
              have g1_1_2 : w1.frozen? ⟨w.heap.size + 1, 2, none⟩ = false := (b1.frozen (p := ⟨w.heap.size + 1, 2, none⟩) (by first | (simp; done) | (simp; omega) | omega)).trans (by first | with_reducible assumption | (simp [go_sem]; done) | (simp [go_sem, *]; done))
              have z1_2 : w.heap.size + 1 + 1 < w1.heap.size := by omega
              have k1_2_0 : w1.cell? ⟨w.heap.size + 1 + 1, 0, none⟩ = some (.int .i64 (0)) := (b1.cell (p := ⟨w.heap.size + 1 + 1, 0, none⟩) (by first | (simp; done) | (simp; omega) | omega)).trans (by first | with_reducible assumption | (simp [go_sem]; done) | (simp [go_sem, *]; done))
              have g1_2_0 : w1.frozen? ⟨w.heap.size + 1 + 1, 0, none⟩ = false := (b1.frozen (p := ⟨w.heap.size + 1 + 1, 0, none⟩) (by first | (simp; done) | (simp; omega) | omega)).trans (by first | with_reducible assumption | (simp [go_sem]; done) | (simp [go_sem, *]; done))
              have k1_2_1 : w1.cell? ⟨w.heap.size + 1 + 1, 1, none⟩ = some (.int .i64 (0)) := (b1.cell (p := ⟨w.heap.size + 1 + 1, 1, none⟩) (by first | (simp; done) | (simp; omega) | omega)).trans (by first | with_reducible assumption | (simp [go_sem]; done) | (simp [go_sem, *]; done))
              have g1_2_1 : w1.frozen? ⟨w.heap.size + 1 + 1, 1, none⟩ = false := (b1.frozen (p := ⟨w.heap.size + 1 + 1, 1, none⟩) (by first | (simp; done) | (simp; omega) | omega)).trans (by first | with_reducible assumption | (simp [go_sem]; done) | (simp [go_sem, *]; done))
              have k1_2_2 : w1.cell? ⟨w.heap.size + 1 + 1, 2, none⟩ = some (.int .i64 (0)) := (b1.cell (p := ⟨w.heap.size + 1 + 1, 2, none⟩) (by first | (simp; done) | (simp; omega) | omega)).trans (by first | with_reducible assumption | (simp [go_sem]; done) | (simp [go_sem, *]; done))
              have g1_2_2 : w1.frozen? ⟨w.heap.size + 1 + 1, 2, none⟩ = false := (b1.frozen (p := ⟨w.heap.size + 1 + 1, 2, none⟩) (by first | (simp; done) | (simp; omega) | omega)).trans (by first | with_reducible assumption | (simp [go_sem]; done) | (simp [go_sem, *]; done))
              have k1_2_3 : w1.cell? ⟨w.heap.size + 1 + 1, 3, none⟩ = some (.int .i64 (0)) := (b1.cell (p := ⟨w.heap.size + 1 + 1, 3, none⟩) (by first | (simp; done) | (simp; omega) | omega)).trans (by first | with_reducible assumption | (simp [go_sem]; done) | (simp [go_sem, *]; done))
              have g1_2_3 : w1.frozen? ⟨w.heap.size + 1 + 1, 3, none⟩ = false := (b1.frozen (p := ⟨w.heap.size + 1 + 1, 3, none⟩) (by first | (simp; done) | (simp; omega) | omega)).trans (by first | with_reducible assumption | (simp [go_sem]; done) | (simp [go_sem, *]; done))
              go_wp2_with fail
              refine (K2.out _).mono ?_
              rintro e_ w2 ⟨rfl, b2⟩
              have s2 := b2.size
              try simp at s2
              have z2_0 : w.heap.size < w2.heap.size := by omega
              have k2_0_0 : w2.cell? ⟨w.heap.size, 0, none⟩ = some (.int .i64 (a)) := (b2.cell (p := ⟨w.heap.size, 0, none⟩) (by first | (simp; done) | (simp; omega) | omega)).trans (by first | with_reducible assumption | (simp [go_sem]; done) | (simp [go_sem, *]; done))
              have g2_0_0 : w2.frozen? ⟨w.heap.size, 0, none⟩ = false := (b2.frozen (p := ⟨w.heap.size, 0, none⟩) (by first | (simp; done) | (simp; omega) | omega)).trans (by first | with_reducible assumption | (simp [go_sem]; done) | (simp [go_sem, *]; done))
              have k2_0_1 : w2.cell? ⟨w.heap.size, 1, none⟩ = some (.int .i64 (b)) := (b2.cell (p := ⟨w.heap.size, 1, none⟩) (by first | (simp; done) | (simp; omega) | omega)).trans (by first | with_reducible assumption | (simp [go_sem]; done) | (simp [go_sem, *]; done))
              have g2_0_1 : w2.frozen? ⟨w.heap.size, 1, none⟩ = false := (b2.frozen (p := ⟨w.heap.size, 1, none⟩) (by first | (simp; done) | (simp; omega) | omega)).trans (by first | with_reducible assumption | (simp [go_sem]; done) | (simp [go_sem, *]; done))
              have k2_0_2 : w2.cell? ⟨w.heap.size, 2, none⟩ = some (.int .i64 (c)) := (b2.cell (p := ⟨w.heap.size, 2, none⟩) (by first | (simp; done) | (simp; omega) | omega)).trans (by first | with_reducible assumption | (simp [go_sem]; done) | (simp [go_sem, *]; done))
              have g2_0_2 : w2.frozen? ⟨w.heap.size, 2, none⟩ = false := (b2.frozen (p := ⟨w.heap.size, 2, none⟩) (by first | (simp; done) | (simp; omega) | omega)).trans (by first | with_reducible assumption | (simp [go_sem]; done) | (simp [go_sem, *]; done))
              have z2_1 : w.heap.size + 1 < w2.heap.size := by omega
              have k2_1_0 : w2.cell? ⟨w.heap.size + 1, 0, none⟩ = some (.int .i64 (d)) := (b2.cell (p := ⟨w.heap.size + 1, 0, none⟩) (by first | (simp; done) | (simp; omega) | omega)).trans (by first | with_reducible assumption | (simp [go_sem]; done) | (simp [go_sem, *]; done))
              have g2_1_0 : w2.frozen? ⟨w.heap.size + 1, 0, none⟩ = false := (b2.frozen (p := ⟨w.heap.size + 1, 0, none⟩) (by first | (simp; done) | (simp; omega) | omega)).trans (by first | with_reducible assumption | (simp [go_sem]; done) | (simp [go_sem, *]; done))
              have k2_1_1 : w2.cell? ⟨w.heap.size + 1, 1, none⟩ = some (.int .i64 (e)) := (b2.cell (p := ⟨w.heap.size + 1, 1, none⟩) (by first | (simp; done) | (simp; omega) | omega)).trans (by first | with_reducible assumption | (simp [go_sem]; done) | (simp [go_sem, *]; done))
              have g2_1_1 : w2.frozen? ⟨w.heap.size + 1, 1, none⟩ = false := (b2.frozen (p := ⟨w.heap.size + 1, 1, none⟩) (by first | (simp; done) | (simp; omega) | omega)).trans (by first | with_reducible assumption | (simp [go_sem]; done) | (simp [go_sem, *]; done))
              have k2_1_2 : w2.cell? ⟨w.heap.size + 1, 2, none⟩ = some (.int .i64 (f)) := (b2.cell (p := ⟨w.heap.size + 1, 2, none⟩) (by first | (simp; done) | (simp; omega) | omega)).trans (by first | with_reducible assumption | (simp [go_sem]; done) | (simp [go_sem, *]; done))
              have g2_1_2 : w2.frozen? ⟨w.heap.size + 1, 2, none⟩ = false := (b2.frozen (p := ⟨w.heap.size + 1, 2, none⟩) (by first | (simp; done) | (simp; omega) | omega)).trans (by first | with_reducible assumption | (simp [go_sem]; done) | (simp [go_sem, *]; done))
              have z2_2 : w.heap.size + 1 + 1 < w2.heap.size := by omega
              have k2_2_0 : w2.cell? ⟨w.heap.size + 1 + 1, 0, none⟩ = some (.int .i64 (0)) := (b2.cell (p := ⟨w.heap.size + 1 + 1, 0, none⟩) (by first | (simp; done) | (simp; omega) | omega)).trans (by first | with_reducible assumption | (simp [go_sem]; done) | (simp [go_sem, *]; done))
              have g2_2_0 : w2.frozen? ⟨w.heap.size + 1 + 1, 0, none⟩ = false := (b2.frozen (p := ⟨w.heap.size + 1 + 1, 0, none⟩) (by first | (simp; done) | (simp; omega) | omega)).trans (by first | with_reducible assumption | (simp [go_sem]; done) | (simp [go_sem, *]; done))
              have k2_2_1 : w2.cell? ⟨w.heap.size + 1 + 1, 1, none⟩ = some (.int .i64 (0)) := (b2.cell (p := ⟨w.heap.size + 1 + 1, 1, none⟩) (by first | (simp; done) | (simp; omega) | omega)).trans (by first | with_reducible assumption | (simp [go_sem]; done) | (simp [go_sem, *]; done))
              have g2_2_1 : w2.frozen? ⟨w.heap.size + 1 + 1, 1, none⟩ = false := (b2.frozen (p := ⟨w.heap.size + 1 + 1, 1, none⟩) (by first | (simp; done) | (simp; omega) | omega)).trans (by first | with_reducible assumption | (simp [go_sem]; done) | (simp [go_sem, *]; done))
              have k2_2_2 : w2.cell? ⟨w.heap.size + 1 + 1, 2, none⟩ = some (.int .i64 (0)) := (b2.cell (p := ⟨w.heap.size + 1 + 1, 2, none⟩) (by first | (simp; done) | (simp; omega) | omega)).trans (by first | with_reducible assumption | (simp [go_sem]; done) | (simp [go_sem, *]; done))
              have g2_2_2 : w2.frozen? ⟨w.heap.size + 1 + 1, 2, none⟩ = false := (b2.frozen (p := ⟨w.heap.size + 1 + 1, 2, none⟩) (by first | (simp; done) | (simp; omega) | omega)).trans (by first | with_reducible assumption | (simp [go_sem]; done) | (simp [go_sem, *]; done))
              have k2_2_3 : w2.cell? ⟨w.heap.size + 1 + 1, 3, none⟩ = some (.int .i64 (0)) := (b2.cell (p := ⟨w.heap.size + 1 + 1, 3, none⟩) (by first | (simp; done) | (simp; omega) | omega)).trans (by first | with_reducible assumption | (simp [go_sem]; done) | (simp [go_sem, *]; done))
              have g2_2_3 : w2.frozen? ⟨w.heap.size + 1 + 1, 3, none⟩ = false := (b2.frozen (p := ⟨w.heap.size + 1 + 1, 3, none⟩) (by first | (simp; done) | (simp; omega) | omega)).trans (by first | with_reducible assumption | (simp [go_sem]; done) | (simp [go_sem, *]; done))
              clear k1_0_0 g1_0_0 k1_0_1 g1_0_1 k1_0_2 g1_0_2 k1_1_0 g1_1_0 k1_1_1 g1_1_1 k1_1_2 g1_1_2 k1_2_0 g1_2_0 k1_2_1 g1_2_1 k1_2_2 g1_2_2 k1_2_3 g1_2_3
              go_wp2
              have A0_0 : ∀ w', HldLo (w.heap.size + 1 + 1) w2 w' → w'.cell? ⟨w.heap.size, 0, none⟩ = some (.int .i64 (a)) := fun w' h => h.cell (by omega) (by first | with_reducible assumption | (simp [go_sem]; done) | (simp [go_sem, *]; done))
              have A0_1 : ∀ w', HldLo (w.heap.size + 1 + 1) w2 w' → w'.cell? ⟨w.heap.size, 1, none⟩ = some (.int .i64 (b)) := fun w' h => h.cell (by omega) (by first | with_reducible assumption | (simp [go_sem]; done) | (simp [go_sem, *]; done))
              have A0_2 : ∀ w', HldLo (w.heap.size + 1 + 1) w2 w' → w'.cell? ⟨w.heap.size, 2, none⟩ = some (.int .i64 (c)) := fun w' h => h.cell (by omega) (by first | with_reducible assumption | (simp [go_sem]; done) | (simp [go_sem, *]; done))
              have A1_0 : ∀ w', HldLo (w.heap.size + 1 + 1) w2 w' → w'.cell? ⟨w.heap.size + 1, 0, none⟩ = some (.int .i64 (d)) := fun w' h => h.cell (by omega) (by first | with_reducible assumption | (simp [go_sem]; done) | (simp [go_sem, *]; done))
              have A1_1 : ∀ w', HldLo (w.heap.size + 1 + 1) w2 w' → w'.cell? ⟨w.heap.size + 1, 1, none⟩ = some (.int .i64 (e)) := fun w' h => h.cell (by omega) (by first | with_reducible assumption | (simp [go_sem]; done) | (simp [go_sem, *]; done))
              have A1_2 : ∀ w', HldLo (w.heap.size + 1 + 1) w2 w' → w'.cell? ⟨w.heap.size + 1, 2, none⟩ = some (.int .i64 (f)) := fun w' h => h.cell (by omega) (by first | with_reducible assumption | (simp [go_sem]; done) | (simp [go_sem, *]; done))
              have y0_0 : w2.cell? ⟨w.heap.size + 1 + 1, 0, none⟩ = some (.int .i64 (0)) := by first | with_reducible assumption | (simp [go_sem]; done) | (simp [go_sem, *]; done)
              have x0_0 : w2.frozen? ⟨w.heap.size + 1 + 1, 0, none⟩ = false := by first | with_reducible assumption | (simp [go_sem]; done) | (simp [go_sem, *]; done)
              have y0_1 : w2.cell? ⟨w.heap.size + 1 + 1, 1, none⟩ = some (.int .i64 (0)) := by first | with_reducible assumption | (simp [go_sem]; done) | (simp [go_sem, *]; done)
              have x0_1 : w2.frozen? ⟨w.heap.size + 1 + 1, 1, none⟩ = false := by first | with_reducible assumption | (simp [go_sem]; done) | (simp [go_sem, *]; done)
              have y0_2 : w2.cell? ⟨w.heap.size + 1 + 1, 2, none⟩ = some (.int .i64 (0)) := by first | with_reducible assumption | (simp [go_sem]; done) | (simp [go_sem, *]; done)
              have x0_2 : w2.frozen? ⟨w.heap.size + 1 + 1, 2, none⟩ = false := by first | with_reducible assumption | (simp [go_sem]; done) | (simp [go_sem, *]; done)
              have y0_3 : w2.cell? ⟨w.heap.size + 1 + 1, 3, none⟩ = some (.int .i64 (0)) := by first | with_reducible assumption | (simp [go_sem]; done) | (simp [go_sem, *]; done)
              have x0_3 : w2.frozen? ⟨w.heap.size + 1 + 1, 3, none⟩ = false := by first | with_reducible assumption | (simp [go_sem]; done) | (simp [go_sem, *]; done)
              have hW0 : w.heap.size + 1 + 1 < w2.heap.size := by first | omega | (simp; done) | (simp; omega)
              have wr0 : IntKind.i64.wrap (a * e) = a * e := IntWalk.i64_in _ (by omega)
              have wr1 : IntKind.i64.wrap (d * b) = d * b := IntWalk.i64_in _ (by omega)
              have wr2 : IntKind.i64.wrap (a * e - d * b) = a * e - d * b := IntWalk.i64_in _ (by omega)
              have wr3 : IntKind.i64.wrap (c * e) = c * e := IntWalk.i64_in _ (by omega)
              have wr4 : IntKind.i64.wrap (f * b) = f * b := IntWalk.i64_in _ (by omega)
              have wr5 : IntKind.i64.wrap (c * e - f * b) = c * e - f * b := IntWalk.i64_in _ (by omega)
              have wr6 : IntKind.i64.wrap (a * f) = a * f := IntWalk.i64_in _ (by omega)
              have wr7 : IntKind.i64.wrap (d * c) = d * c := IntWalk.i64_in _ (by omega)
              have wr8 : IntKind.i64.wrap (a * f - d * c) = a * f - d * c := IntWalk.i64_in _ (by omega)
              go_region_held3 (fun w' => HldLo (w.heap.size + 1 + 1) w2 w') ((repeat (first | with_reducible assumption | with_reducible exact HldLo.start _ _ | with_reducible refine HldLo.drew ?_ | with_reducible refine HldLo.set ?_ (by dsimp only; omega) _))) (first | (go_at_call 58; (with_reducible refine (K3.out _).mono ?_); rintro e_ w3 ⟨rfl, b3⟩; have HS3 : HldLo (w.heap.size + 1 + 1) w2 w3 := HldLo.call (by first | with_reducible assumption | with_reducible exact HldLo.start _ _) b3 (by omega); have z3 : w.heap.size + 1 + 1 < w3.heap.size := Nat.lt_of_lt_of_le hW0 (Below.size HS3); have y3_0 := (b3.cell (p := ⟨w.heap.size + 1 + 1, 0, none⟩) hW0).trans y0_0; have x3_0 := (b3.frozen (p := ⟨w.heap.size + 1 + 1, 0, none⟩) hW0).trans x0_0; have y3_1 := (b3.cell (p := ⟨w.heap.size + 1 + 1, 1, none⟩) hW0).trans y0_1; have x3_1 := (b3.frozen (p := ⟨w.heap.size + 1 + 1, 1, none⟩) hW0).trans x0_1; have y3_2 := (b3.cell (p := ⟨w.heap.size + 1 + 1, 2, none⟩) hW0).trans y0_2; have x3_2 := (b3.frozen (p := ⟨w.heap.size + 1 + 1, 2, none⟩) hW0).trans x0_2; have y3_3 := (b3.cell (p := ⟨w.heap.size + 1 + 1, 3, none⟩) hW0).trans y0_3; have x3_3 := (b3.frozen (p := ⟨w.heap.size + 1 + 1, 3, none⟩) hW0).trans x0_3; clear A0_0 A0_1 A0_2 A1_0 A1_1 A1_2) | (go_at_call 58; (with_reducible refine (K4.out _).mono ?_); rintro e_ w4 ⟨rfl, b4⟩; have HS4 : HldLo (w.heap.size + 1 + 1) w2 w4 := HldLo.call (by first | with_reducible assumption | with_reducible exact HldLo.start _ _) b4 (by omega); have z4 : w.heap.size + 1 + 1 < w4.heap.size := Nat.lt_of_lt_of_le hW0 (Below.size HS4); have y4_0 := (b4.cell (p := ⟨w.heap.size + 1 + 1, 0, none⟩) z3).trans y3_0; have x4_0 := (b4.frozen (p := ⟨w.heap.size + 1 + 1, 0, none⟩) z3).trans x3_0; have y4_1 := (b4.cell (p := ⟨w.heap.size + 1 + 1, 1, none⟩) z3).trans y3_1; have x4_1 := (b4.frozen (p := ⟨w.heap.size + 1 + 1, 1, none⟩) z3).trans x3_1; have y4_2 := (b4.cell (p := ⟨w.heap.size + 1 + 1, 2, none⟩) z3).trans y3_2; have x4_2 := (b4.frozen (p := ⟨w.heap.size + 1 + 1, 2, none⟩) z3).trans x3_2; have y4_3 := (b4.cell (p := ⟨w.heap.size + 1 + 1, 3, none⟩) z3).trans y3_3; have x4_3 := (b4.frozen (p := ⟨w.heap.size + 1 + 1, 3, none⟩) z3).trans x3_3))
              all_goals go_wp2
              all_goals (refine bodyPost_ret (v := .tuple #[.agg #[.int .i64 R0, .int .i64 R1, .int .i64 R2, .int .i64 R3], .int .i64 1]) (by simp [results, Try.results47, go_sem, *]) rfl ⟨rfl, ?_⟩)
              all_goals (repeat (first | with_reducible exact Below.refl _ _ | with_reducible refine bl_alloc ?_ _ | with_reducible refine bl_drew ?_ | with_reducible refine bl_set ?_ (by first | (simp; done) | (simp; omega)) _ | with_reducible refine bl_call (by assumption) ?_))
        · have hs : sameB a b c d e f = false := by simp [sameB, e2]
          by_cases hd : a * e - d * b = 0
          · have r4 : MlK a b c d e f = 0 := by simp [MlK, mlB, q1, q2, hs, hd]
            have r0 : MlA a b c d e f = 0 := by simp [MlA, mlOne, mlB, q1, q2, hs, hd]
            have r1 : MlB a b c d e f = 0 := by simp [MlB, mlOne, mlB, q1, q2, hs, hd]
            have r2 : MlC a b c d e f = 0 := by simp [MlC, mlOne, mlB, q1, q2, hs, hd]
            have r3 : MlD a b c d e f = 0 := by simp [MlD, mlOne, mlB, q1, q2, hs, hd]
            rw [r0, r1, r2, r3, r4]
            clear r0 r1 r2 r3 r4
            have K1 : Hid (∀ W : World, Calls Try.prog 93 #[.agg #[.int .i64 a, .int .i64 b, .int .i64 c]] W fun e_ w' => e_ = .returned (.bool true) ∧ Below W.heap.size W w') := Lib.hid fun W => by
              have h := impl_Line_valid (a) (b) (c) W
              rw [q1] at h
              exact h
            have K2 : Hid (∀ W : World, Calls Try.prog 93 #[.agg #[.int .i64 d, .int .i64 e, .int .i64 f]] W fun e_ w' => e_ = .returned (.bool true) ∧ Below W.heap.size W w') := Lib.hid fun W => by
              have h := impl_Line_valid (d) (e) (f) W
              rw [q2] at h
              exact h
            have i1 : (a == d) = true := by simp [e1]
            have i2 : (b == e) = false := by simp [e2]
            have j0 : (a * e - d * b == 0) = true := by simp [hd]
            clear hd
            clear hs q1 q2 e1 e2
            go_enter Try.func47, Try.ntmps47
            go_wp2_with fail
            refine (K1.out _).mono ?_
            rintro e_ w1 ⟨rfl, b1⟩
            have s1 := b1.size
            try simp at s1
            have z1_0 : w.heap.size < w1.heap.size := by omega
            have k1_0_0 : w1.cell? ⟨w.heap.size, 0, none⟩ = some (.int .i64 (a)) := (b1.cell (p := ⟨w.heap.size, 0, none⟩) (by first | (simp; done) | (simp; omega) | omega)).trans (by first | with_reducible assumption | (simp [go_sem]; done) | (simp [go_sem, *]; done))
            have g1_0_0 : w1.frozen? ⟨w.heap.size, 0, none⟩ = false := (b1.frozen (p := ⟨w.heap.size, 0, none⟩) (by first | (simp; done) | (simp; omega) | omega)).trans (by first | with_reducible assumption | (simp [go_sem]; done) | (simp [go_sem, *]; done))
            have k1_0_1 : w1.cell? ⟨w.heap.size, 1, none⟩ = some (.int .i64 (b)) := (b1.cell (p := ⟨w.heap.size, 1, none⟩) (by first | (simp; done) | (simp; omega) | omega)).trans (by first | with_reducible assumption | (simp [go_sem]; done) | (simp [go_sem, *]; done))
            have g1_0_1 : w1.frozen? ⟨w.heap.size, 1, none⟩ = false := (b1.frozen (p := ⟨w.heap.size, 1, none⟩) (by first | (simp; done) | (simp; omega) | omega)).trans (by first | with_reducible assumption | (simp [go_sem]; done) | (simp [go_sem, *]; done))
            have k1_0_2 : w1.cell? ⟨w.heap.size, 2, none⟩ = some (.int .i64 (c)) := (b1.cell (p := ⟨w.heap.size, 2, none⟩) (by first | (simp; done) | (simp; omega) | omega)).trans (by first | with_reducible assumption | (simp [go_sem]; done) | (simp [go_sem, *]; done))
            have g1_0_2 : w1.frozen? ⟨w.heap.size, 2, none⟩ = false := (b1.frozen (p := ⟨w.heap.size, 2, none⟩) (by first | (simp; done) | (simp; omega) | omega)).trans (by first | with_reducible assumption | (simp [go_sem]; done) | (simp [go_sem, *]; done))
            have z1_1 : w.heap.size + 1 < w1.heap.size := by omega
            have k1_1_0 : w1.cell? ⟨w.heap.size + 1, 0, none⟩ = some (.int .i64 (d)) := (b1.cell (p := ⟨w.heap.size + 1, 0, none⟩) (by first | (simp; done) | (simp; omega) | omega)).trans (by first | with_reducible assumption | (simp [go_sem]; done) | (simp [go_sem, *]; done))
            have g1_1_0 : w1.frozen? ⟨w.heap.size + 1, 0, none⟩ = false := (b1.frozen (p := ⟨w.heap.size + 1, 0, none⟩) (by first | (simp; done) | (simp; omega) | omega)).trans (by first | with_reducible assumption | (simp [go_sem]; done) | (simp [go_sem, *]; done))
            have k1_1_1 : w1.cell? ⟨w.heap.size + 1, 1, none⟩ = some (.int .i64 (e)) := (b1.cell (p := ⟨w.heap.size + 1, 1, none⟩) (by first | (simp; done) | (simp; omega) | omega)).trans (by first | with_reducible assumption | (simp [go_sem]; done) | (simp [go_sem, *]; done))
            have g1_1_1 : w1.frozen? ⟨w.heap.size + 1, 1, none⟩ = false := (b1.frozen (p := ⟨w.heap.size + 1, 1, none⟩) (by first | (simp; done) | (simp; omega) | omega)).trans (by first | with_reducible assumption | (simp [go_sem]; done) | (simp [go_sem, *]; done))
            have k1_1_2 : w1.cell? ⟨w.heap.size + 1, 2, none⟩ = some (.int .i64 (f)) := (b1.cell (p := ⟨w.heap.size + 1, 2, none⟩) (by first | (simp; done) | (simp; omega) | omega)).trans (by first | with_reducible assumption | (simp [go_sem]; done) | (simp [go_sem, *]; done))
            have g1_1_2 : w1.frozen? ⟨w.heap.size + 1, 2, none⟩ = false := (b1.frozen (p := ⟨w.heap.size + 1, 2, none⟩) (by first | (simp; done) | (simp; omega) | omega)).trans (by first | with_reducible assumption | (simp [go_sem]; done) | (simp [go_sem, *]; done))
            have z1_2 : w.heap.size + 1 + 1 < w1.heap.size := by omega
            have k1_2_0 : w1.cell? ⟨w.heap.size + 1 + 1, 0, none⟩ = some (.int .i64 (0)) := (b1.cell (p := ⟨w.heap.size + 1 + 1, 0, none⟩) (by first | (simp; done) | (simp; omega) | omega)).trans (by first | with_reducible assumption | (simp [go_sem]; done) | (simp [go_sem, *]; done))
            have g1_2_0 : w1.frozen? ⟨w.heap.size + 1 + 1, 0, none⟩ = false := (b1.frozen (p := ⟨w.heap.size + 1 + 1, 0, none⟩) (by first | (simp; done) | (simp; omega) | omega)).trans (by first | with_reducible assumption | (simp [go_sem]; done) | (simp [go_sem, *]; done))
            have k1_2_1 : w1.cell? ⟨w.heap.size + 1 + 1, 1, none⟩ = some (.int .i64 (0)) := (b1.cell (p := ⟨w.heap.size + 1 + 1, 1, none⟩) (by first | (simp; done) | (simp; omega) | omega)).trans (by first | with_reducible assumption | (simp [go_sem]; done) | (simp [go_sem, *]; done))
            have g1_2_1 : w1.frozen? ⟨w.heap.size + 1 + 1, 1, none⟩ = false := (b1.frozen (p := ⟨w.heap.size + 1 + 1, 1, none⟩) (by first | (simp; done) | (simp; omega) | omega)).trans (by first | with_reducible assumption | (simp [go_sem]; done) | (simp [go_sem, *]; done))
            have k1_2_2 : w1.cell? ⟨w.heap.size + 1 + 1, 2, none⟩ = some (.int .i64 (0)) := (b1.cell (p := ⟨w.heap.size + 1 + 1, 2, none⟩) (by first | (simp; done) | (simp; omega) | omega)).trans (by first | with_reducible assumption | (simp [go_sem]; done) | (simp [go_sem, *]; done))
            have g1_2_2 : w1.frozen? ⟨w.heap.size + 1 + 1, 2, none⟩ = false := (b1.frozen (p := ⟨w.heap.size + 1 + 1, 2, none⟩) (by first | (simp; done) | (simp; omega) | omega)).trans (by first | with_reducible assumption | (simp [go_sem]; done) | (simp [go_sem, *]; done))
            have k1_2_3 : w1.cell? ⟨w.heap.size + 1 + 1, 3, none⟩ = some (.int .i64 (0)) := (b1.cell (p := ⟨w.heap.size + 1 + 1, 3, none⟩) (by first | (simp; done) | (simp; omega) | omega)).trans (by first | with_reducible assumption | (simp [go_sem]; done) | (simp [go_sem, *]; done))
            have g1_2_3 : w1.frozen? ⟨w.heap.size + 1 + 1, 3, none⟩ = false := (b1.frozen (p := ⟨w.heap.size + 1 + 1, 3, none⟩) (by first | (simp; done) | (simp; omega) | omega)).trans (by first | with_reducible assumption | (simp [go_sem]; done) | (simp [go_sem, *]; done))
            go_wp2_with fail
            refine (K2.out _).mono ?_
            rintro e_ w2 ⟨rfl, b2⟩
            have s2 := b2.size
            try simp at s2
            have z2_0 : w.heap.size < w2.heap.size := by omega
            have k2_0_0 : w2.cell? ⟨w.heap.size, 0, none⟩ = some (.int .i64 (a)) := (b2.cell (p := ⟨w.heap.size, 0, none⟩) (by first | (simp; done) | (simp; omega) | omega)).trans (by first | with_reducible assumption | (simp [go_sem]; done) | (simp [go_sem, *]; done))
            have g2_0_0 : w2.frozen? ⟨w.heap.size, 0, none⟩ = false := (b2.frozen (p := ⟨w.heap.size, 0, none⟩) (by first | (simp; done) | (simp; omega) | omega)).trans (by first | with_reducible assumption | (simp [go_sem]; done) | (simp [go_sem, *]; done))
            have k2_0_1 : w2.cell? ⟨w.heap.size, 1, none⟩ = some (.int .i64 (b)) := (b2.cell (p := ⟨w.heap.size, 1, none⟩) (by first | (simp; done) | (simp; omega) | omega)).trans (by first | with_reducible assumption | (simp [go_sem]; done) | (simp [go_sem, *]; done))
            have g2_0_1 : w2.frozen? ⟨w.heap.size, 1, none⟩ = false := (b2.frozen (p := ⟨w.heap.size, 1, none⟩) (by first | (simp; done) | (simp; omega) | omega)).trans (by first | with_reducible assumption | (simp [go_sem]; done) | (simp [go_sem, *]; done))
            have k2_0_2 : w2.cell? ⟨w.heap.size, 2, none⟩ = some (.int .i64 (c)) := (b2.cell (p := ⟨w.heap.size, 2, none⟩) (by first | (simp; done) | (simp; omega) | omega)).trans (by first | with_reducible assumption | (simp [go_sem]; done) | (simp [go_sem, *]; done))
            have g2_0_2 : w2.frozen? ⟨w.heap.size, 2, none⟩ = false := (b2.frozen (p := ⟨w.heap.size, 2, none⟩) (by first | (simp; done) | (simp; omega) | omega)).trans (by first | with_reducible assumption | (simp [go_sem]; done) | (simp [go_sem, *]; done))
            have z2_1 : w.heap.size + 1 < w2.heap.size := by omega
            have k2_1_0 : w2.cell? ⟨w.heap.size + 1, 0, none⟩ = some (.int .i64 (d)) := (b2.cell (p := ⟨w.heap.size + 1, 0, none⟩) (by first | (simp; done) | (simp; omega) | omega)).trans (by first | with_reducible assumption | (simp [go_sem]; done) | (simp [go_sem, *]; done))
            have g2_1_0 : w2.frozen? ⟨w.heap.size + 1, 0, none⟩ = false := (b2.frozen (p := ⟨w.heap.size + 1, 0, none⟩) (by first | (simp; done) | (simp; omega) | omega)).trans (by first | with_reducible assumption | (simp [go_sem]; done) | (simp [go_sem, *]; done))
            have k2_1_1 : w2.cell? ⟨w.heap.size + 1, 1, none⟩ = some (.int .i64 (e)) := (b2.cell (p := ⟨w.heap.size + 1, 1, none⟩) (by first | (simp; done) | (simp; omega) | omega)).trans (by first | with_reducible assumption | (simp [go_sem]; done) | (simp [go_sem, *]; done))
            have g2_1_1 : w2.frozen? ⟨w.heap.size + 1, 1, none⟩ = false := (b2.frozen (p := ⟨w.heap.size + 1, 1, none⟩) (by first | (simp; done) | (simp; omega) | omega)).trans (by first | with_reducible assumption | (simp [go_sem]; done) | (simp [go_sem, *]; done))
            have k2_1_2 : w2.cell? ⟨w.heap.size + 1, 2, none⟩ = some (.int .i64 (f)) := (b2.cell (p := ⟨w.heap.size + 1, 2, none⟩) (by first | (simp; done) | (simp; omega) | omega)).trans (by first | with_reducible assumption | (simp [go_sem]; done) | (simp [go_sem, *]; done))
            have g2_1_2 : w2.frozen? ⟨w.heap.size + 1, 2, none⟩ = false := (b2.frozen (p := ⟨w.heap.size + 1, 2, none⟩) (by first | (simp; done) | (simp; omega) | omega)).trans (by first | with_reducible assumption | (simp [go_sem]; done) | (simp [go_sem, *]; done))
            have z2_2 : w.heap.size + 1 + 1 < w2.heap.size := by omega
            have k2_2_0 : w2.cell? ⟨w.heap.size + 1 + 1, 0, none⟩ = some (.int .i64 (0)) := (b2.cell (p := ⟨w.heap.size + 1 + 1, 0, none⟩) (by first | (simp; done) | (simp; omega) | omega)).trans (by first | with_reducible assumption | (simp [go_sem]; done) | (simp [go_sem, *]; done))
            have g2_2_0 : w2.frozen? ⟨w.heap.size + 1 + 1, 0, none⟩ = false := (b2.frozen (p := ⟨w.heap.size + 1 + 1, 0, none⟩) (by first | (simp; done) | (simp; omega) | omega)).trans (by first | with_reducible assumption | (simp [go_sem]; done) | (simp [go_sem, *]; done))
            have k2_2_1 : w2.cell? ⟨w.heap.size + 1 + 1, 1, none⟩ = some (.int .i64 (0)) := (b2.cell (p := ⟨w.heap.size + 1 + 1, 1, none⟩) (by first | (simp; done) | (simp; omega) | omega)).trans (by first | with_reducible assumption | (simp [go_sem]; done) | (simp [go_sem, *]; done))
            have g2_2_1 : w2.frozen? ⟨w.heap.size + 1 + 1, 1, none⟩ = false := (b2.frozen (p := ⟨w.heap.size + 1 + 1, 1, none⟩) (by first | (simp; done) | (simp; omega) | omega)).trans (by first | with_reducible assumption | (simp [go_sem]; done) | (simp [go_sem, *]; done))
            have k2_2_2 : w2.cell? ⟨w.heap.size + 1 + 1, 2, none⟩ = some (.int .i64 (0)) := (b2.cell (p := ⟨w.heap.size + 1 + 1, 2, none⟩) (by first | (simp; done) | (simp; omega) | omega)).trans (by first | with_reducible assumption | (simp [go_sem]; done) | (simp [go_sem, *]; done))
            have g2_2_2 : w2.frozen? ⟨w.heap.size + 1 + 1, 2, none⟩ = false := (b2.frozen (p := ⟨w.heap.size + 1 + 1, 2, none⟩) (by first | (simp; done) | (simp; omega) | omega)).trans (by first | with_reducible assumption | (simp [go_sem]; done) | (simp [go_sem, *]; done))
            have k2_2_3 : w2.cell? ⟨w.heap.size + 1 + 1, 3, none⟩ = some (.int .i64 (0)) := (b2.cell (p := ⟨w.heap.size + 1 + 1, 3, none⟩) (by first | (simp; done) | (simp; omega) | omega)).trans (by first | with_reducible assumption | (simp [go_sem]; done) | (simp [go_sem, *]; done))
            have g2_2_3 : w2.frozen? ⟨w.heap.size + 1 + 1, 3, none⟩ = false := (b2.frozen (p := ⟨w.heap.size + 1 + 1, 3, none⟩) (by first | (simp; done) | (simp; omega) | omega)).trans (by first | with_reducible assumption | (simp [go_sem]; done) | (simp [go_sem, *]; done))
            clear k1_0_0 g1_0_0 k1_0_1 g1_0_1 k1_0_2 g1_0_2 k1_1_0 g1_1_0 k1_1_1 g1_1_1 k1_1_2 g1_1_2 k1_2_0 g1_2_0 k1_2_1 g1_2_1 k1_2_2 g1_2_2 k1_2_3 g1_2_3
            go_wp2
            refine bodyPost_ret (v := .tuple #[.agg #[.int .i64 0, .int .i64 0, .int .i64 0, .int .i64 0], .int .i64 0]) (by simp [results, Try.results47, go_sem, *]) rfl ⟨rfl, ?_⟩
            (repeat (first | with_reducible exact Below.refl _ _ | with_reducible refine bl_alloc ?_ _ | with_reducible refine bl_drew ?_ | with_reducible refine bl_set ?_ (by first | (simp; done) | (simp; omega)) _ | with_reducible refine bl_call (by assumption) ?_))
          · have hdet : a * e - d * b ≠ 0 := hd
            have r4 : MlK a b c d e f = 1 := by simp [MlK, mlB, q1, q2, hs, hd]
            have r0 : MlA a b c d e f = redN (c * e - f * b) (a * e - d * b) := by simp [MlA, mlOne, mlB, q1, q2, hs, hd]
            have r1 : MlB a b c d e f = redD (c * e - f * b) (a * e - d * b) := by simp [MlB, mlOne, mlB, q1, q2, hs, hd]
            have r2 : MlC a b c d e f = redN (a * f - d * c) (a * e - d * b) := by simp [MlC, mlOne, mlB, q1, q2, hs, hd]
            have r3 : MlD a b c d e f = redD (a * f - d * c) (a * e - d * b) := by simp [MlD, mlOne, mlB, q1, q2, hs, hd]
            rw [r0, r1, r2, r3, r4]
            clear r0 r1 r2 r3 r4
            have K1 : Hid (∀ W : World, Calls Try.prog 93 #[.agg #[.int .i64 a, .int .i64 b, .int .i64 c]] W fun e_ w' => e_ = .returned (.bool true) ∧ Below W.heap.size W w') := Lib.hid fun W => by
              have h := impl_Line_valid (a) (b) (c) W
              rw [q1] at h
              exact h
            have K2 : Hid (∀ W : World, Calls Try.prog 93 #[.agg #[.int .i64 d, .int .i64 e, .int .i64 f]] W fun e_ w' => e_ = .returned (.bool true) ∧ Below W.heap.size W w') := Lib.hid fun W => by
              have h := impl_Line_valid (d) (e) (f) W
              rw [q2] at h
              exact h
            have K3 : Hid (∀ W : World, Calls Try.prog 58 #[.int .i64 (c * e - f * b), .int .i64 (a * e - d * b)] W fun e_ w' => e_ = .returned (.agg #[.int .i64 (redN (c * e - f * b) (a * e - d * b)), .int .i64 (redD (c * e - f * b) (a * e - d * b))]) ∧ Below W.heap.size W w') := Lib.hid fun W => impl_reduced (c * e - f * b) (a * e - d * b) W (by omega) (by omega) (by omega) (by omega) hdet
            have K4 : Hid (∀ W : World, Calls Try.prog 58 #[.int .i64 (a * f - d * c), .int .i64 (a * e - d * b)] W fun e_ w' => e_ = .returned (.agg #[.int .i64 (redN (a * f - d * c) (a * e - d * b)), .int .i64 (redD (a * f - d * c) (a * e - d * b))]) ∧ Below W.heap.size W w') := Lib.hid fun W => impl_reduced (a * f - d * c) (a * e - d * b) W (by omega) (by omega) (by omega) (by omega) hdet
            generalize redN (c * e - f * b) (a * e - d * b) = R0 at *
            generalize redD (c * e - f * b) (a * e - d * b) = R1 at *
            generalize redN (a * f - d * c) (a * e - d * b) = R2 at *
            generalize redD (a * f - d * c) (a * e - d * b) = R3 at *
            have i1 : (a == d) = true := by simp [e1]
            have i2 : (b == e) = false := by simp [e2]
            have j0 : (a * e - d * b == 0) = false := by simp [hd]
            clear hd hdet
            clear hs q1 q2 e1 e2
            go_enter Try.func47, Try.ntmps47
            go_wp2_with fail
            refine (K1.out _).mono ?_
            rintro e_ w1 ⟨rfl, b1⟩
            have s1 := b1.size
            try simp at s1
            have z1_0 : w.heap.size < w1.heap.size := by omega
            have k1_0_0 : w1.cell? ⟨w.heap.size, 0, none⟩ = some (.int .i64 (a)) := (b1.cell (p := ⟨w.heap.size, 0, none⟩) (by first | (simp; done) | (simp; omega) | omega)).trans (by first | with_reducible assumption | (simp [go_sem]; done) | (simp [go_sem, *]; done))
            have g1_0_0 : w1.frozen? ⟨w.heap.size, 0, none⟩ = false := (b1.frozen (p := ⟨w.heap.size, 0, none⟩) (by first | (simp; done) | (simp; omega) | omega)).trans (by first | with_reducible assumption | (simp [go_sem]; done) | (simp [go_sem, *]; done))
            have k1_0_1 : w1.cell? ⟨w.heap.size, 1, none⟩ = some (.int .i64 (b)) := (b1.cell (p := ⟨w.heap.size, 1, none⟩) (by first | (simp; done) | (simp; omega) | omega)).trans (by first | with_reducible assumption | (simp [go_sem]; done) | (simp [go_sem, *]; done))
            have g1_0_1 : w1.frozen? ⟨w.heap.size, 1, none⟩ = false := (b1.frozen (p := ⟨w.heap.size, 1, none⟩) (by first | (simp; done) | (simp; omega) | omega)).trans (by first | with_reducible assumption | (simp [go_sem]; done) | (simp [go_sem, *]; done))
            have k1_0_2 : w1.cell? ⟨w.heap.size, 2, none⟩ = some (.int .i64 (c)) := (b1.cell (p := ⟨w.heap.size, 2, none⟩) (by first | (simp; done) | (simp; omega) | omega)).trans (by first | with_reducible assumption | (simp [go_sem]; done) | (simp [go_sem, *]; done))
            have g1_0_2 : w1.frozen? ⟨w.heap.size, 2, none⟩ = false := (b1.frozen (p := ⟨w.heap.size, 2, none⟩) (by first | (simp; done) | (simp; omega) | omega)).trans (by first | with_reducible assumption | (simp [go_sem]; done) | (simp [go_sem, *]; done))
            have z1_1 : w.heap.size + 1 < w1.heap.size := by omega
            have k1_1_0 : w1.cell? ⟨w.heap.size + 1, 0, none⟩ = some (.int .i64 (d)) := (b1.cell (p := ⟨w.heap.size + 1, 0, none⟩) (by first | (simp; done) | (simp; omega) | omega)).trans (by first | with_reducible assumption | (simp [go_sem]; done) | (simp [go_sem, *]; done))
            have g1_1_0 : w1.frozen? ⟨w.heap.size + 1, 0, none⟩ = false := (b1.frozen (p := ⟨w.heap.size + 1, 0, none⟩) (by first | (simp; done) | (simp; omega) | omega)).trans (by first | with_reducible assumption | (simp [go_sem]; done) | (simp [go_sem, *]; done))
            have k1_1_1 : w1.cell? ⟨w.heap.size + 1, 1, none⟩ = some (.int .i64 (e)) := (b1.cell (p := ⟨w.heap.size + 1, 1, none⟩) (by first | (simp; done) | (simp; omega) | omega)).trans (by first | with_reducible assumption | (simp [go_sem]; done) | (simp [go_sem, *]; done))
            have g1_1_1 : w1.frozen? ⟨w.heap.size + 1, 1, none⟩ = false := (b1.frozen (p := ⟨w.heap.size + 1, 1, none⟩) (by first | (simp; done) | (simp; omega) | omega)).trans (by first | with_reducible assumption | (simp [go_sem]; done) | (simp [go_sem, *]; done))
            have k1_1_2 : w1.cell? ⟨w.heap.size + 1, 2, none⟩ = some (.int .i64 (f)) := (b1.cell (p := ⟨w.heap.size + 1, 2, none⟩) (by first | (simp; done) | (simp; omega) | omega)).trans (by first | with_reducible assumption | (simp [go_sem]; done) | (simp [go_sem, *]; done))
            have g1_1_2 : w1.frozen? ⟨w.heap.size + 1, 2, none⟩ = false := (b1.frozen (p := ⟨w.heap.size + 1, 2, none⟩) (by first | (simp; done) | (simp; omega) | omega)).trans (by first | with_reducible assumption | (simp [go_sem]; done) | (simp [go_sem, *]; done))
            have z1_2 : w.heap.size + 1 + 1 < w1.heap.size := by omega
            have k1_2_0 : w1.cell? ⟨w.heap.size + 1 + 1, 0, none⟩ = some (.int .i64 (0)) := (b1.cell (p := ⟨w.heap.size + 1 + 1, 0, none⟩) (by first | (simp; done) | (simp; omega) | omega)).trans (by first | with_reducible assumption | (simp [go_sem]; done) | (simp [go_sem, *]; done))
            have g1_2_0 : w1.frozen? ⟨w.heap.size + 1 + 1, 0, none⟩ = false := (b1.frozen (p := ⟨w.heap.size + 1 + 1, 0, none⟩) (by first | (simp; done) | (simp; omega) | omega)).trans (by first | with_reducible assumption | (simp [go_sem]; done) | (simp [go_sem, *]; done))
            have k1_2_1 : w1.cell? ⟨w.heap.size + 1 + 1, 1, none⟩ = some (.int .i64 (0)) := (b1.cell (p := ⟨w.heap.size + 1 + 1, 1, none⟩) (by first | (simp; done) | (simp; omega) | omega)).trans (by first | with_reducible assumption | (simp [go_sem]; done) | (simp [go_sem, *]; done))
            have g1_2_1 : w1.frozen? ⟨w.heap.size + 1 + 1, 1, none⟩ = false := (b1.frozen (p := ⟨w.heap.size + 1 + 1, 1, none⟩) (by first | (simp; done) | (simp; omega) | omega)).trans (by first | with_reducible assumption | (simp [go_sem]; done) | (simp [go_sem, *]; done))
            have k1_2_2 : w1.cell? ⟨w.heap.size + 1 + 1, 2, none⟩ = some (.int .i64 (0)) := (b1.cell (p := ⟨w.heap.size + 1 + 1, 2, none⟩) (by first | (simp; done) | (simp; omega) | omega)).trans (by first | with_reducible assumption | (simp [go_sem]; done) | (simp [go_sem, *]; done))
            have g1_2_2 : w1.frozen? ⟨w.heap.size + 1 + 1, 2, none⟩ = false := (b1.frozen (p := ⟨w.heap.size + 1 + 1, 2, none⟩) (by first | (simp; done) | (simp; omega) | omega)).trans (by first | with_reducible assumption | (simp [go_sem]; done) | (simp [go_sem, *]; done))
            have k1_2_3 : w1.cell? ⟨w.heap.size + 1 + 1, 3, none⟩ = some (.int .i64 (0)) := (b1.cell (p := ⟨w.heap.size + 1 + 1, 3, none⟩) (by first | (simp; done) | (simp; omega) | omega)).trans (by first | with_reducible assumption | (simp [go_sem]; done) | (simp [go_sem, *]; done))
            have g1_2_3 : w1.frozen? ⟨w.heap.size + 1 + 1, 3, none⟩ = false := (b1.frozen (p := ⟨w.heap.size + 1 + 1, 3, none⟩) (by first | (simp; done) | (simp; omega) | omega)).trans (by first | with_reducible assumption | (simp [go_sem]; done) | (simp [go_sem, *]; done))
            go_wp2_with fail
            refine (K2.out _).mono ?_
            rintro e_ w2 ⟨rfl, b2⟩
            have s2 := b2.size
            try simp at s2
            have z2_0 : w.heap.size < w2.heap.size := by omega
            have k2_0_0 : w2.cell? ⟨w.heap.size, 0, none⟩ = some (.int .i64 (a)) := (b2.cell (p := ⟨w.heap.size, 0, none⟩) (by first | (simp; done) | (simp; omega) | omega)).trans (by first | with_reducible assumption | (simp [go_sem]; done) | (simp [go_sem, *]; done))
            have g2_0_0 : w2.frozen? ⟨w.heap.size, 0, none⟩ = false := (b2.frozen (p := ⟨w.heap.size, 0, none⟩) (by first | (simp; done) | (simp; omega) | omega)).trans (by first | with_reducible assumption | (simp [go_sem]; done) | (simp [go_sem, *]; done))
            have k2_0_1 : w2.cell? ⟨w.heap.size, 1, none⟩ = some (.int .i64 (b)) := (b2.cell (p := ⟨w.heap.size, 1, none⟩) (by first | (simp; done) | (simp; omega) | omega)).trans (by first | with_reducible assumption | (simp [go_sem]; done) | (simp [go_sem, *]; done))
            have g2_0_1 : w2.frozen? ⟨w.heap.size, 1, none⟩ = false := (b2.frozen (p := ⟨w.heap.size, 1, none⟩) (by first | (simp; done) | (simp; omega) | omega)).trans (by first | with_reducible assumption | (simp [go_sem]; done) | (simp [go_sem, *]; done))
            have k2_0_2 : w2.cell? ⟨w.heap.size, 2, none⟩ = some (.int .i64 (c)) := (b2.cell (p := ⟨w.heap.size, 2, none⟩) (by first | (simp; done) | (simp; omega) | omega)).trans (by first | with_reducible assumption | (simp [go_sem]; done) | (simp [go_sem, *]; done))
            have g2_0_2 : w2.frozen? ⟨w.heap.size, 2, none⟩ = false := (b2.frozen (p := ⟨w.heap.size, 2, none⟩) (by first | (simp; done) | (simp; omega) | omega)).trans (by first | with_reducible assumption | (simp [go_sem]; done) | (simp [go_sem, *]; done))
            have z2_1 : w.heap.size + 1 < w2.heap.size := by omega
            have k2_1_0 : w2.cell? ⟨w.heap.size + 1, 0, none⟩ = some (.int .i64 (d)) := (b2.cell (p := ⟨w.heap.size + 1, 0, none⟩) (by first | (simp; done) | (simp; omega) | omega)).trans (by first | with_reducible assumption | (simp [go_sem]; done) | (simp [go_sem, *]; done))
            have g2_1_0 : w2.frozen? ⟨w.heap.size + 1, 0, none⟩ = false := (b2.frozen (p := ⟨w.heap.size + 1, 0, none⟩) (by first | (simp; done) | (simp; omega) | omega)).trans (by first | with_reducible assumption | (simp [go_sem]; done) | (simp [go_sem, *]; done))
            have k2_1_1 : w2.cell? ⟨w.heap.size + 1, 1, none⟩ = some (.int .i64 (e)) := (b2.cell (p := ⟨w.heap.size + 1, 1, none⟩) (by first | (simp; done) | (simp; omega) | omega)).trans (by first | with_reducible assumption | (simp [go_sem]; done) | (simp [go_sem, *]; done))
            have g2_1_1 : w2.frozen? ⟨w.heap.size + 1, 1, none⟩ = false := (b2.frozen (p := ⟨w.heap.size + 1, 1, none⟩) (by first | (simp; done) | (simp; omega) | omega)).trans (by first | with_reducible assumption | (simp [go_sem]; done) | (simp [go_sem, *]; done))
            have k2_1_2 : w2.cell? ⟨w.heap.size + 1, 2, none⟩ = some (.int .i64 (f)) := (b2.cell (p := ⟨w.heap.size + 1, 2, none⟩) (by first | (simp; done) | (simp; omega) | omega)).trans (by first | with_reducible assumption | (simp [go_sem]; done) | (simp [go_sem, *]; done))
            have g2_1_2 : w2.frozen? ⟨w.heap.size + 1, 2, none⟩ = false := (b2.frozen (p := ⟨w.heap.size + 1, 2, none⟩) (by first | (simp; done) | (simp; omega) | omega)).trans (by first | with_reducible assumption | (simp [go_sem]; done) | (simp [go_sem, *]; done))
            have z2_2 : w.heap.size + 1 + 1 < w2.heap.size := by omega
            have k2_2_0 : w2.cell? ⟨w.heap.size + 1 + 1, 0, none⟩ = some (.int .i64 (0)) := (b2.cell (p := ⟨w.heap.size + 1 + 1, 0, none⟩) (by first | (simp; done) | (simp; omega) | omega)).trans (by first | with_reducible assumption | (simp [go_sem]; done) | (simp [go_sem, *]; done))
            have g2_2_0 : w2.frozen? ⟨w.heap.size + 1 + 1, 0, none⟩ = false := (b2.frozen (p := ⟨w.heap.size + 1 + 1, 0, none⟩) (by first | (simp; done) | (simp; omega) | omega)).trans (by first | with_reducible assumption | (simp [go_sem]; done) | (simp [go_sem, *]; done))
            have k2_2_1 : w2.cell? ⟨w.heap.size + 1 + 1, 1, none⟩ = some (.int .i64 (0)) := (b2.cell (p := ⟨w.heap.size + 1 + 1, 1, none⟩) (by first | (simp; done) | (simp; omega) | omega)).trans (by first | with_reducible assumption | (simp [go_sem]; done) | (simp [go_sem, *]; done))
            have g2_2_1 : w2.frozen? ⟨w.heap.size + 1 + 1, 1, none⟩ = false := (b2.frozen (p := ⟨w.heap.size + 1 + 1, 1, none⟩) (by first | (simp; done) | (simp; omega) | omega)).trans (by first | with_reducible assumption | (simp [go_sem]; done) | (simp [go_sem, *]; done))
            have k2_2_2 : w2.cell? ⟨w.heap.size + 1 + 1, 2, none⟩ = some (.int .i64 (0)) := (b2.cell (p := ⟨w.heap.size + 1 + 1, 2, none⟩) (by first | (simp; done) | (simp; omega) | omega)).trans (by first | with_reducible assumption | (simp [go_sem]; done) | (simp [go_sem, *]; done))
            have g2_2_2 : w2.frozen? ⟨w.heap.size + 1 + 1, 2, none⟩ = false := (b2.frozen (p := ⟨w.heap.size + 1 + 1, 2, none⟩) (by first | (simp; done) | (simp; omega) | omega)).trans (by first | with_reducible assumption | (simp [go_sem]; done) | (simp [go_sem, *]; done))
            have k2_2_3 : w2.cell? ⟨w.heap.size + 1 + 1, 3, none⟩ = some (.int .i64 (0)) := (b2.cell (p := ⟨w.heap.size + 1 + 1, 3, none⟩) (by first | (simp; done) | (simp; omega) | omega)).trans (by first | with_reducible assumption | (simp [go_sem]; done) | (simp [go_sem, *]; done))
            have g2_2_3 : w2.frozen? ⟨w.heap.size + 1 + 1, 3, none⟩ = false := (b2.frozen (p := ⟨w.heap.size + 1 + 1, 3, none⟩) (by first | (simp; done) | (simp; omega) | omega)).trans (by first | with_reducible assumption | (simp [go_sem]; done) | (simp [go_sem, *]; done))
            clear k1_0_0 g1_0_0 k1_0_1 g1_0_1 k1_0_2 g1_0_2 k1_1_0 g1_1_0 k1_1_1 g1_1_1 k1_1_2 g1_1_2 k1_2_0 g1_2_0 k1_2_1 g1_2_1 k1_2_2 g1_2_2 k1_2_3 g1_2_3
            go_wp2
            have A0_0 : ∀ w', HldLo (w.heap.size + 1 + 1) w2 w' → w'.cell? ⟨w.heap.size, 0, none⟩ = some (.int .i64 (a)) := fun w' h => h.cell (by omega) (by first | with_reducible assumption | (simp [go_sem]; done) | (simp [go_sem, *]; done))
            have A0_1 : ∀ w', HldLo (w.heap.size + 1 + 1) w2 w' → w'.cell? ⟨w.heap.size, 1, none⟩ = some (.int .i64 (b)) := fun w' h => h.cell (by omega) (by first | with_reducible assumption | (simp [go_sem]; done) | (simp [go_sem, *]; done))
            have A0_2 : ∀ w', HldLo (w.heap.size + 1 + 1) w2 w' → w'.cell? ⟨w.heap.size, 2, none⟩ = some (.int .i64 (c)) := fun w' h => h.cell (by omega) (by first | with_reducible assumption | (simp [go_sem]; done) | (simp [go_sem, *]; done))
            have A1_0 : ∀ w', HldLo (w.heap.size + 1 + 1) w2 w' → w'.cell? ⟨w.heap.size + 1, 0, none⟩ = some (.int .i64 (d)) := fun w' h => h.cell (by omega) (by first | with_reducible assumption | (simp [go_sem]; done) | (simp [go_sem, *]; done))
            have A1_1 : ∀ w', HldLo (w.heap.size + 1 + 1) w2 w' → w'.cell? ⟨w.heap.size + 1, 1, none⟩ = some (.int .i64 (e)) := fun w' h => h.cell (by omega) (by first | with_reducible assumption | (simp [go_sem]; done) | (simp [go_sem, *]; done))
            have A1_2 : ∀ w', HldLo (w.heap.size + 1 + 1) w2 w' → w'.cell? ⟨w.heap.size + 1, 2, none⟩ = some (.int .i64 (f)) := fun w' h => h.cell (by omega) (by first | with_reducible assumption | (simp [go_sem]; done) | (simp [go_sem, *]; done))
            have y0_0 : w2.cell? ⟨w.heap.size + 1 + 1, 0, none⟩ = some (.int .i64 (0)) := by first | with_reducible assumption | (simp [go_sem]; done) | (simp [go_sem, *]; done)
            have x0_0 : w2.frozen? ⟨w.heap.size + 1 + 1, 0, none⟩ = false := by first | with_reducible assumption | (simp [go_sem]; done) | (simp [go_sem, *]; done)
            have y0_1 : w2.cell? ⟨w.heap.size + 1 + 1, 1, none⟩ = some (.int .i64 (0)) := by first | with_reducible assumption | (simp [go_sem]; done) | (simp [go_sem, *]; done)
            have x0_1 : w2.frozen? ⟨w.heap.size + 1 + 1, 1, none⟩ = false := by first | with_reducible assumption | (simp [go_sem]; done) | (simp [go_sem, *]; done)
            have y0_2 : w2.cell? ⟨w.heap.size + 1 + 1, 2, none⟩ = some (.int .i64 (0)) := by first | with_reducible assumption | (simp [go_sem]; done) | (simp [go_sem, *]; done)
            have x0_2 : w2.frozen? ⟨w.heap.size + 1 + 1, 2, none⟩ = false := by first | with_reducible assumption | (simp [go_sem]; done) | (simp [go_sem, *]; done)
            have y0_3 : w2.cell? ⟨w.heap.size + 1 + 1, 3, none⟩ = some (.int .i64 (0)) := by first | with_reducible assumption | (simp [go_sem]; done) | (simp [go_sem, *]; done)
            have x0_3 : w2.frozen? ⟨w.heap.size + 1 + 1, 3, none⟩ = false := by first | with_reducible assumption | (simp [go_sem]; done) | (simp [go_sem, *]; done)
            have hW0 : w.heap.size + 1 + 1 < w2.heap.size := by first | omega | (simp; done) | (simp; omega)
            have wr0 : IntKind.i64.wrap (a * e) = a * e := IntWalk.i64_in _ (by omega)
            have wr1 : IntKind.i64.wrap (d * b) = d * b := IntWalk.i64_in _ (by omega)
            have wr2 : IntKind.i64.wrap (a * e - d * b) = a * e - d * b := IntWalk.i64_in _ (by omega)
            have wr3 : IntKind.i64.wrap (c * e) = c * e := IntWalk.i64_in _ (by omega)
            have wr4 : IntKind.i64.wrap (f * b) = f * b := IntWalk.i64_in _ (by omega)
            have wr5 : IntKind.i64.wrap (c * e - f * b) = c * e - f * b := IntWalk.i64_in _ (by omega)
            have wr6 : IntKind.i64.wrap (a * f) = a * f := IntWalk.i64_in _ (by omega)
            have wr7 : IntKind.i64.wrap (d * c) = d * c := IntWalk.i64_in _ (by omega)
            have wr8 : IntKind.i64.wrap (a * f - d * c) = a * f - d * c := IntWalk.i64_in _ (by omega)
            go_region_held3 (fun w' => HldLo (w.heap.size + 1 + 1) w2 w') ((repeat (first | with_reducible assumption | with_reducible exact HldLo.start _ _ | with_reducible refine HldLo.drew ?_ | with_reducible refine HldLo.set ?_ (by dsimp only; omega) _))) (first | (go_at_call 58; (with_reducible refine (K3.out _).mono ?_); rintro e_ w3 ⟨rfl, b3⟩; have HS3 : HldLo (w.heap.size + 1 + 1) w2 w3 := HldLo.call (by first | with_reducible assumption | with_reducible exact HldLo.start _ _) b3 (by omega); have z3 : w.heap.size + 1 + 1 < w3.heap.size := Nat.lt_of_lt_of_le hW0 (Below.size HS3); have y3_0 := (b3.cell (p := ⟨w.heap.size + 1 + 1, 0, none⟩) hW0).trans y0_0; have x3_0 := (b3.frozen (p := ⟨w.heap.size + 1 + 1, 0, none⟩) hW0).trans x0_0; have y3_1 := (b3.cell (p := ⟨w.heap.size + 1 + 1, 1, none⟩) hW0).trans y0_1; have x3_1 := (b3.frozen (p := ⟨w.heap.size + 1 + 1, 1, none⟩) hW0).trans x0_1; have y3_2 := (b3.cell (p := ⟨w.heap.size + 1 + 1, 2, none⟩) hW0).trans y0_2; have x3_2 := (b3.frozen (p := ⟨w.heap.size + 1 + 1, 2, none⟩) hW0).trans x0_2; have y3_3 := (b3.cell (p := ⟨w.heap.size + 1 + 1, 3, none⟩) hW0).trans y0_3; have x3_3 := (b3.frozen (p := ⟨w.heap.size + 1 + 1, 3, none⟩) hW0).trans x0_3; clear A0_0 A0_1 A0_2 A1_0 A1_1 A1_2) | (go_at_call 58; (with_reducible refine (K4.out _).mono ?_); rintro e_ w4 ⟨rfl, b4⟩; have HS4 : HldLo (w.heap.size + 1 + 1) w2 w4 := HldLo.call (by first | with_reducible assumption | with_reducible exact HldLo.start _ _) b4 (by omega); have z4 : w.heap.size + 1 + 1 < w4.heap.size := Nat.lt_of_lt_of_le hW0 (Below.size HS4); have y4_0 := (b4.cell (p := ⟨w.heap.size + 1 + 1, 0, none⟩) z3).trans y3_0; have x4_0 := (b4.frozen (p := ⟨w.heap.size + 1 + 1, 0, none⟩) z3).trans x3_0; have y4_1 := (b4.cell (p := ⟨w.heap.size + 1 + 1, 1, none⟩) z3).trans y3_1; have x4_1 := (b4.frozen (p := ⟨w.heap.size + 1 + 1, 1, none⟩) z3).trans x3_1; have y4_2 := (b4.cell (p := ⟨w.heap.size + 1 + 1, 2, none⟩) z3).trans y3_2; have x4_2 := (b4.frozen (p := ⟨w.heap.size + 1 + 1, 2, none⟩) z3).trans x3_2; have y4_3 := (b4.cell (p := ⟨w.heap.size + 1 + 1, 3, none⟩) z3).trans y3_3; have x4_3 := (b4.frozen (p := ⟨w.heap.size + 1 + 1, 3, none⟩) z3).trans x3_3))
            all_goals go_wp2
            all_goals (refine bodyPost_ret (v := .tuple #[.agg #[.int .i64 R0, .int .i64 R1, .int .i64 R2, .int .i64 R3], .int .i64 1]) (by simp [results, Try.results47, go_sem, *]) rfl ⟨rfl, ?_⟩)
            all_goals (repeat (first | with_reducible exact Below.refl _ _ | with_reducible refine bl_alloc ?_ _ | with_reducible refine bl_drew ?_ | with_reducible refine bl_set ?_ (by first | (simp; done) | (simp; omega)) _ | with_reducible refine bl_call (by assumption) ?_))
      · have hs : sameB a b c d e f = false := by simp [sameB, e1]
        by_cases hd : a * e - d * b = 0
        · have r4 : MlK a b c d e f = 0 := by simp [MlK, mlB, q1, q2, hs, hd]
          have r0 : MlA a b c d e f = 0 := by simp [MlA, mlOne, mlB, q1, q2, hs, hd]
          have r1 : MlB a b c d e f = 0 := by simp [MlB, mlOne, mlB, q1, q2, hs, hd]
          have r2 : MlC a b c d e f = 0 := by simp [MlC, mlOne, mlB, q1, q2, hs, hd]
          have r3 : MlD a b c d e f = 0 := by simp [MlD, mlOne, mlB, q1, q2, hs, hd]
          rw [r0, r1, r2, r3, r4]
          clear r0 r1 r2 r3 r4
          have K1 : Hid (∀ W : World, Calls Try.prog 93 #[.agg #[.int .i64 a, .int .i64 b, .int .i64 c]] W fun e_ w' => e_ = .returned (.bool true) ∧ Below W.heap.size W w') := Lib.hid fun W => by
            have h := impl_Line_valid (a) (b) (c) W
            rw [q1] at h
            exact h
          have K2 : Hid (∀ W : World, Calls Try.prog 93 #[.agg #[.int .i64 d, .int .i64 e, .int .i64 f]] W fun e_ w' => e_ = .returned (.bool true) ∧ Below W.heap.size W w') := Lib.hid fun W => by
            have h := impl_Line_valid (d) (e) (f) W
            rw [q2] at h
            exact h
          have i1 : (a == d) = false := by simp [e1]
          have j0 : (a * e - d * b == 0) = true := by simp [hd]
          clear hd
          clear hs q1 q2 e1
          go_enter Try.func47, Try.ntmps47
          go_wp2_with fail
          refine (K1.out _).mono ?_
          rintro e_ w1 ⟨rfl, b1⟩
          have s1 := b1.size
          try simp at s1
          have z1_0 : w.heap.size < w1.heap.size := by omega
          have k1_0_0 : w1.cell? ⟨w.heap.size, 0, none⟩ = some (.int .i64 (a)) := (b1.cell (p := ⟨w.heap.size, 0, none⟩) (by first | (simp; done) | (simp; omega) | omega)).trans (by first | with_reducible assumption | (simp [go_sem]; done) | (simp [go_sem, *]; done))
          have g1_0_0 : w1.frozen? ⟨w.heap.size, 0, none⟩ = false := (b1.frozen (p := ⟨w.heap.size, 0, none⟩) (by first | (simp; done) | (simp; omega) | omega)).trans (by first | with_reducible assumption | (simp [go_sem]; done) | (simp [go_sem, *]; done))
          have k1_0_1 : w1.cell? ⟨w.heap.size, 1, none⟩ = some (.int .i64 (b)) := (b1.cell (p := ⟨w.heap.size, 1, none⟩) (by first | (simp; done) | (simp; omega) | omega)).trans (by first | with_reducible assumption | (simp [go_sem]; done) | (simp [go_sem, *]; done))
          have g1_0_1 : w1.frozen? ⟨w.heap.size, 1, none⟩ = false := (b1.frozen (p := ⟨w.heap.size, 1, none⟩) (by first | (simp; done) | (simp; omega) | omega)).trans (by first | with_reducible assumption | (simp [go_sem]; done) | (simp [go_sem, *]; done))
          have k1_0_2 : w1.cell? ⟨w.heap.size, 2, none⟩ = some (.int .i64 (c)) := (b1.cell (p := ⟨w.heap.size, 2, none⟩) (by first | (simp; done) | (simp; omega) | omega)).trans (by first | with_reducible assumption | (simp [go_sem]; done) | (simp [go_sem, *]; done))
          have g1_0_2 : w1.frozen? ⟨w.heap.size, 2, none⟩ = false := (b1.frozen (p := ⟨w.heap.size, 2, none⟩) (by first | (simp; done) | (simp; omega) | omega)).trans (by first | with_reducible assumption | (simp [go_sem]; done) | (simp [go_sem, *]; done))
          have z1_1 : w.heap.size + 1 < w1.heap.size := by omega
          have k1_1_0 : w1.cell? ⟨w.heap.size + 1, 0, none⟩ = some (.int .i64 (d)) := (b1.cell (p := ⟨w.heap.size + 1, 0, none⟩) (by first | (simp; done) | (simp; omega) | omega)).trans (by first | with_reducible assumption | (simp [go_sem]; done) | (simp [go_sem, *]; done))
          have g1_1_0 : w1.frozen? ⟨w.heap.size + 1, 0, none⟩ = false := (b1.frozen (p := ⟨w.heap.size + 1, 0, none⟩) (by first | (simp; done) | (simp; omega) | omega)).trans (by first | with_reducible assumption | (simp [go_sem]; done) | (simp [go_sem, *]; done))
          have k1_1_1 : w1.cell? ⟨w.heap.size + 1, 1, none⟩ = some (.int .i64 (e)) := (b1.cell (p := ⟨w.heap.size + 1, 1, none⟩) (by first | (simp; done) | (simp; omega) | omega)).trans (by first | with_reducible assumption | (simp [go_sem]; done) | (simp [go_sem, *]; done))
          have g1_1_1 : w1.frozen? ⟨w.heap.size + 1, 1, none⟩ = false := (b1.frozen (p := ⟨w.heap.size + 1, 1, none⟩) (by first | (simp; done) | (simp; omega) | omega)).trans (by first | with_reducible assumption | (simp [go_sem]; done) | (simp [go_sem, *]; done))
          have k1_1_2 : w1.cell? ⟨w.heap.size + 1, 2, none⟩ = some (.int .i64 (f)) := (b1.cell (p := ⟨w.heap.size + 1, 2, none⟩) (by first | (simp; done) | (simp; omega) | omega)).trans (by first | with_reducible assumption | (simp [go_sem]; done) | (simp [go_sem, *]; done))
          have g1_1_2 : w1.frozen? ⟨w.heap.size + 1, 2, none⟩ = false := (b1.frozen (p := ⟨w.heap.size + 1, 2, none⟩) (by first | (simp; done) | (simp; omega) | omega)).trans (by first | with_reducible assumption | (simp [go_sem]; done) | (simp [go_sem, *]; done))
          have z1_2 : w.heap.size + 1 + 1 < w1.heap.size := by omega
          have k1_2_0 : w1.cell? ⟨w.heap.size + 1 + 1, 0, none⟩ = some (.int .i64 (0)) := (b1.cell (p := ⟨w.heap.size + 1 + 1, 0, none⟩) (by first | (simp; done) | (simp; omega) | omega)).trans (by first | with_reducible assumption | (simp [go_sem]; done) | (simp [go_sem, *]; done))
          have g1_2_0 : w1.frozen? ⟨w.heap.size + 1 + 1, 0, none⟩ = false := (b1.frozen (p := ⟨w.heap.size + 1 + 1, 0, none⟩) (by first | (simp; done) | (simp; omega) | omega)).trans (by first | with_reducible assumption | (simp [go_sem]; done) | (simp [go_sem, *]; done))
          have k1_2_1 : w1.cell? ⟨w.heap.size + 1 + 1, 1, none⟩ = some (.int .i64 (0)) := (b1.cell (p := ⟨w.heap.size + 1 + 1, 1, none⟩) (by first | (simp; done) | (simp; omega) | omega)).trans (by first | with_reducible assumption | (simp [go_sem]; done) | (simp [go_sem, *]; done))
          have g1_2_1 : w1.frozen? ⟨w.heap.size + 1 + 1, 1, none⟩ = false := (b1.frozen (p := ⟨w.heap.size + 1 + 1, 1, none⟩) (by first | (simp; done) | (simp; omega) | omega)).trans (by first | with_reducible assumption | (simp [go_sem]; done) | (simp [go_sem, *]; done))
          have k1_2_2 : w1.cell? ⟨w.heap.size + 1 + 1, 2, none⟩ = some (.int .i64 (0)) := (b1.cell (p := ⟨w.heap.size + 1 + 1, 2, none⟩) (by first | (simp; done) | (simp; omega) | omega)).trans (by first | with_reducible assumption | (simp [go_sem]; done) | (simp [go_sem, *]; done))
          have g1_2_2 : w1.frozen? ⟨w.heap.size + 1 + 1, 2, none⟩ = false := (b1.frozen (p := ⟨w.heap.size + 1 + 1, 2, none⟩) (by first | (simp; done) | (simp; omega) | omega)).trans (by first | with_reducible assumption | (simp [go_sem]; done) | (simp [go_sem, *]; done))
          have k1_2_3 : w1.cell? ⟨w.heap.size + 1 + 1, 3, none⟩ = some (.int .i64 (0)) := (b1.cell (p := ⟨w.heap.size + 1 + 1, 3, none⟩) (by first | (simp; done) | (simp; omega) | omega)).trans (by first | with_reducible assumption | (simp [go_sem]; done) | (simp [go_sem, *]; done))
          have g1_2_3 : w1.frozen? ⟨w.heap.size + 1 + 1, 3, none⟩ = false := (b1.frozen (p := ⟨w.heap.size + 1 + 1, 3, none⟩) (by first | (simp; done) | (simp; omega) | omega)).trans (by first | with_reducible assumption | (simp [go_sem]; done) | (simp [go_sem, *]; done))
          go_wp2_with fail
          refine (K2.out _).mono ?_
          rintro e_ w2 ⟨rfl, b2⟩
          have s2 := b2.size
          try simp at s2
          have z2_0 : w.heap.size < w2.heap.size := by omega
          have k2_0_0 : w2.cell? ⟨w.heap.size, 0, none⟩ = some (.int .i64 (a)) := (b2.cell (p := ⟨w.heap.size, 0, none⟩) (by first | (simp; done) | (simp; omega) | omega)).trans (by first | with_reducible assumption | (simp [go_sem]; done) | (simp [go_sem, *]; done))
          have g2_0_0 : w2.frozen? ⟨w.heap.size, 0, none⟩ = false := (b2.frozen (p := ⟨w.heap.size, 0, none⟩) (by first | (simp; done) | (simp; omega) | omega)).trans (by first | with_reducible assumption | (simp [go_sem]; done) | (simp [go_sem, *]; done))
          have k2_0_1 : w2.cell? ⟨w.heap.size, 1, none⟩ = some (.int .i64 (b)) := (b2.cell (p := ⟨w.heap.size, 1, none⟩) (by first | (simp; done) | (simp; omega) | omega)).trans (by first | with_reducible assumption | (simp [go_sem]; done) | (simp [go_sem, *]; done))
          have g2_0_1 : w2.frozen? ⟨w.heap.size, 1, none⟩ = false := (b2.frozen (p := ⟨w.heap.size, 1, none⟩) (by first | (simp; done) | (simp; omega) | omega)).trans (by first | with_reducible assumption | (simp [go_sem]; done) | (simp [go_sem, *]; done))
          have k2_0_2 : w2.cell? ⟨w.heap.size, 2, none⟩ = some (.int .i64 (c)) := (b2.cell (p := ⟨w.heap.size, 2, none⟩) (by first | (simp; done) | (simp; omega) | omega)).trans (by first | with_reducible assumption | (simp [go_sem]; done) | (simp [go_sem, *]; done))
          have g2_0_2 : w2.frozen? ⟨w.heap.size, 2, none⟩ = false := (b2.frozen (p := ⟨w.heap.size, 2, none⟩) (by first | (simp; done) | (simp; omega) | omega)).trans (by first | with_reducible assumption | (simp [go_sem]; done) | (simp [go_sem, *]; done))
          have z2_1 : w.heap.size + 1 < w2.heap.size := by omega
          have k2_1_0 : w2.cell? ⟨w.heap.size + 1, 0, none⟩ = some (.int .i64 (d)) := (b2.cell (p := ⟨w.heap.size + 1, 0, none⟩) (by first | (simp; done) | (simp; omega) | omega)).trans (by first | with_reducible assumption | (simp [go_sem]; done) | (simp [go_sem, *]; done))
          have g2_1_0 : w2.frozen? ⟨w.heap.size + 1, 0, none⟩ = false := (b2.frozen (p := ⟨w.heap.size + 1, 0, none⟩) (by first | (simp; done) | (simp; omega) | omega)).trans (by first | with_reducible assumption | (simp [go_sem]; done) | (simp [go_sem, *]; done))
          have k2_1_1 : w2.cell? ⟨w.heap.size + 1, 1, none⟩ = some (.int .i64 (e)) := (b2.cell (p := ⟨w.heap.size + 1, 1, none⟩) (by first | (simp; done) | (simp; omega) | omega)).trans (by first | with_reducible assumption | (simp [go_sem]; done) | (simp [go_sem, *]; done))
          have g2_1_1 : w2.frozen? ⟨w.heap.size + 1, 1, none⟩ = false := (b2.frozen (p := ⟨w.heap.size + 1, 1, none⟩) (by first | (simp; done) | (simp; omega) | omega)).trans (by first | with_reducible assumption | (simp [go_sem]; done) | (simp [go_sem, *]; done))
          have k2_1_2 : w2.cell? ⟨w.heap.size + 1, 2, none⟩ = some (.int .i64 (f)) := (b2.cell (p := ⟨w.heap.size + 1, 2, none⟩) (by first | (simp; done) | (simp; omega) | omega)).trans (by first | with_reducible assumption | (simp [go_sem]; done) | (simp [go_sem, *]; done))
          have g2_1_2 : w2.frozen? ⟨w.heap.size + 1, 2, none⟩ = false := (b2.frozen (p := ⟨w.heap.size + 1, 2, none⟩) (by first | (simp; done) | (simp; omega) | omega)).trans (by first | with_reducible assumption | (simp [go_sem]; done) | (simp [go_sem, *]; done))
          have z2_2 : w.heap.size + 1 + 1 < w2.heap.size := by omega
          have k2_2_0 : w2.cell? ⟨w.heap.size + 1 + 1, 0, none⟩ = some (.int .i64 (0)) := (b2.cell (p := ⟨w.heap.size + 1 + 1, 0, none⟩) (by first | (simp; done) | (simp; omega) | omega)).trans (by first | with_reducible assumption | (simp [go_sem]; done) | (simp [go_sem, *]; done))
          have g2_2_0 : w2.frozen? ⟨w.heap.size + 1 + 1, 0, none⟩ = false := (b2.frozen (p := ⟨w.heap.size + 1 + 1, 0, none⟩) (by first | (simp; done) | (simp; omega) | omega)).trans (by first | with_reducible assumption | (simp [go_sem]; done) | (simp [go_sem, *]; done))
          have k2_2_1 : w2.cell? ⟨w.heap.size + 1 + 1, 1, none⟩ = some (.int .i64 (0)) := (b2.cell (p := ⟨w.heap.size + 1 + 1, 1, none⟩) (by first | (simp; done) | (simp; omega) | omega)).trans (by first | with_reducible assumption | (simp [go_sem]; done) | (simp [go_sem, *]; done))
          have g2_2_1 : w2.frozen? ⟨w.heap.size + 1 + 1, 1, none⟩ = false := (b2.frozen (p := ⟨w.heap.size + 1 + 1, 1, none⟩) (by first | (simp; done) | (simp; omega) | omega)).trans (by first | with_reducible assumption | (simp [go_sem]; done) | (simp [go_sem, *]; done))
          have k2_2_2 : w2.cell? ⟨w.heap.size + 1 + 1, 2, none⟩ = some (.int .i64 (0)) := (b2.cell (p := ⟨w.heap.size + 1 + 1, 2, none⟩) (by first | (simp; done) | (simp; omega) | omega)).trans (by first | with_reducible assumption | (simp [go_sem]; done) | (simp [go_sem, *]; done))
          have g2_2_2 : w2.frozen? ⟨w.heap.size + 1 + 1, 2, none⟩ = false := (b2.frozen (p := ⟨w.heap.size + 1 + 1, 2, none⟩) (by first | (simp; done) | (simp; omega) | omega)).trans (by first | with_reducible assumption | (simp [go_sem]; done) | (simp [go_sem, *]; done))
          have k2_2_3 : w2.cell? ⟨w.heap.size + 1 + 1, 3, none⟩ = some (.int .i64 (0)) := (b2.cell (p := ⟨w.heap.size + 1 + 1, 3, none⟩) (by first | (simp; done) | (simp; omega) | omega)).trans (by first | with_reducible assumption | (simp [go_sem]; done) | (simp [go_sem, *]; done))
          have g2_2_3 : w2.frozen? ⟨w.heap.size + 1 + 1, 3, none⟩ = false := (b2.frozen (p := ⟨w.heap.size + 1 + 1, 3, none⟩) (by first | (simp; done) | (simp; omega) | omega)).trans (by first | with_reducible assumption | (simp [go_sem]; done) | (simp [go_sem, *]; done))
          clear k1_0_0 g1_0_0 k1_0_1 g1_0_1 k1_0_2 g1_0_2 k1_1_0 g1_1_0 k1_1_1 g1_1_1 k1_1_2 g1_1_2 k1_2_0 g1_2_0 k1_2_1 g1_2_1 k1_2_2 g1_2_2 k1_2_3 g1_2_3
          go_wp2
          refine bodyPost_ret (v := .tuple #[.agg #[.int .i64 0, .int .i64 0, .int .i64 0, .int .i64 0], .int .i64 0]) (by simp [results, Try.results47, go_sem, *]) rfl ⟨rfl, ?_⟩
          (repeat (first | with_reducible exact Below.refl _ _ | with_reducible refine bl_alloc ?_ _ | with_reducible refine bl_drew ?_ | with_reducible refine bl_set ?_ (by first | (simp; done) | (simp; omega)) _ | with_reducible refine bl_call (by assumption) ?_))
        · have hdet : a * e - d * b ≠ 0 := hd
          have r4 : MlK a b c d e f = 1 := by simp [MlK, mlB, q1, q2, hs, hd]
          have r0 : MlA a b c d e f = redN (c * e - f * b) (a * e - d * b) := by simp [MlA, mlOne, mlB, q1, q2, hs, hd]
          have r1 : MlB a b c d e f = redD (c * e - f * b) (a * e - d * b) := by simp [MlB, mlOne, mlB, q1, q2, hs, hd]
          have r2 : MlC a b c d e f = redN (a * f - d * c) (a * e - d * b) := by simp [MlC, mlOne, mlB, q1, q2, hs, hd]
          have r3 : MlD a b c d e f = redD (a * f - d * c) (a * e - d * b) := by simp [MlD, mlOne, mlB, q1, q2, hs, hd]
          rw [r0, r1, r2, r3, r4]
          clear r0 r1 r2 r3 r4
          have K1 : Hid (∀ W : World, Calls Try.prog 93 #[.agg #[.int .i64 a, .int .i64 b, .int .i64 c]] W fun e_ w' => e_ = .returned (.bool true) ∧ Below W.heap.size W w') := Lib.hid fun W => by
            have h := impl_Line_valid (a) (b) (c) W
            rw [q1] at h
            exact h
          have K2 : Hid (∀ W : World, Calls Try.prog 93 #[.agg #[.int .i64 d, .int .i64 e, .int .i64 f]] W fun e_ w' => e_ = .returned (.bool true) ∧ Below W.heap.size W w') := Lib.hid fun W => by
            have h := impl_Line_valid (d) (e) (f) W
            rw [q2] at h
            exact h
          have K3 : Hid (∀ W : World, Calls Try.prog 58 #[.int .i64 (c * e - f * b), .int .i64 (a * e - d * b)] W fun e_ w' => e_ = .returned (.agg #[.int .i64 (redN (c * e - f * b) (a * e - d * b)), .int .i64 (redD (c * e - f * b) (a * e - d * b))]) ∧ Below W.heap.size W w') := Lib.hid fun W => impl_reduced (c * e - f * b) (a * e - d * b) W (by omega) (by omega) (by omega) (by omega) hdet
          have K4 : Hid (∀ W : World, Calls Try.prog 58 #[.int .i64 (a * f - d * c), .int .i64 (a * e - d * b)] W fun e_ w' => e_ = .returned (.agg #[.int .i64 (redN (a * f - d * c) (a * e - d * b)), .int .i64 (redD (a * f - d * c) (a * e - d * b))]) ∧ Below W.heap.size W w') := Lib.hid fun W => impl_reduced (a * f - d * c) (a * e - d * b) W (by omega) (by omega) (by omega) (by omega) hdet
          generalize redN (c * e - f * b) (a * e - d * b) = R0 at *
          generalize redD (c * e - f * b) (a * e - d * b) = R1 at *
          generalize redN (a * f - d * c) (a * e - d * b) = R2 at *
          generalize redD (a * f - d * c) (a * e - d * b) = R3 at *
          have i1 : (a == d) = false := by simp [e1]
          have j0 : (a * e - d * b == 0) = false := by simp [hd]
          clear hd hdet
          clear hs q1 q2 e1
          go_enter Try.func47, Try.ntmps47
          go_wp2_with fail
          refine (K1.out _).mono ?_
          rintro e_ w1 ⟨rfl, b1⟩
          have s1 := b1.size
          try simp at s1
          have z1_0 : w.heap.size < w1.heap.size := by omega
          have k1_0_0 : w1.cell? ⟨w.heap.size, 0, none⟩ = some (.int .i64 (a)) := (b1.cell (p := ⟨w.heap.size, 0, none⟩) (by first | (simp; done) | (simp; omega) | omega)).trans (by first | with_reducible assumption | (simp [go_sem]; done) | (simp [go_sem, *]; done))
          have g1_0_0 : w1.frozen? ⟨w.heap.size, 0, none⟩ = false := (b1.frozen (p := ⟨w.heap.size, 0, none⟩) (by first | (simp; done) | (simp; omega) | omega)).trans (by first | with_reducible assumption | (simp [go_sem]; done) | (simp [go_sem, *]; done))
          have k1_0_1 : w1.cell? ⟨w.heap.size, 1, none⟩ = some (.int .i64 (b)) := (b1.cell (p := ⟨w.heap.size, 1, none⟩) (by first | (simp; done) | (simp; omega) | omega)).trans (by first | with_reducible assumption | (simp [go_sem]; done) | (simp [go_sem, *]; done))
          have g1_0_1 : w1.frozen? ⟨w.heap.size, 1, none⟩ = false := (b1.frozen (p := ⟨w.heap.size, 1, none⟩) (by first | (simp; done) | (simp; omega) | omega)).trans (by first | with_reducible assumption | (simp [go_sem]; done) | (simp [go_sem, *]; done))
          have k1_0_2 : w1.cell? ⟨w.heap.size, 2, none⟩ = some (.int .i64 (c)) := (b1.cell (p := ⟨w.heap.size, 2, none⟩) (by first | (simp; done) | (simp; omega) | omega)).trans (by first | with_reducible assumption | (simp [go_sem]; done) | (simp [go_sem, *]; done))
          have g1_0_2 : w1.frozen? ⟨w.heap.size, 2, none⟩ = false := (b1.frozen (p := ⟨w.heap.size, 2, none⟩) (by first | (simp; done) | (simp; omega) | omega)).trans (by first | with_reducible assumption | (simp [go_sem]; done) | (simp [go_sem, *]; done))
          have z1_1 : w.heap.size + 1 < w1.heap.size := by omega
          have k1_1_0 : w1.cell? ⟨w.heap.size + 1, 0, none⟩ = some (.int .i64 (d)) := (b1.cell (p := ⟨w.heap.size + 1, 0, none⟩) (by first | (simp; done) | (simp; omega) | omega)).trans (by first | with_reducible assumption | (simp [go_sem]; done) | (simp [go_sem, *]; done))
          have g1_1_0 : w1.frozen? ⟨w.heap.size + 1, 0, none⟩ = false := (b1.frozen (p := ⟨w.heap.size + 1, 0, none⟩) (by first | (simp; done) | (simp; omega) | omega)).trans (by first | with_reducible assumption | (simp [go_sem]; done) | (simp [go_sem, *]; done))
          have k1_1_1 : w1.cell? ⟨w.heap.size + 1, 1, none⟩ = some (.int .i64 (e)) := (b1.cell (p := ⟨w.heap.size + 1, 1, none⟩) (by first | (simp; done) | (simp; omega) | omega)).trans (by first | with_reducible assumption | (simp [go_sem]; done) | (simp [go_sem, *]; done))
          have g1_1_1 : w1.frozen? ⟨w.heap.size + 1, 1, none⟩ = false := (b1.frozen (p := ⟨w.heap.size + 1, 1, none⟩) (by first | (simp; done) | (simp; omega) | omega)).trans (by first | with_reducible assumption | (simp [go_sem]; done) | (simp [go_sem, *]; done))
          have k1_1_2 : w1.cell? ⟨w.heap.size + 1, 2, none⟩ = some (.int .i64 (f)) := (b1.cell (p := ⟨w.heap.size + 1, 2, none⟩) (by first | (simp; done) | (simp; omega) | omega)).trans (by first | with_reducible assumption | (simp [go_sem]; done) | (simp [go_sem, *]; done))
          have g1_1_2 : w1.frozen? ⟨w.heap.size + 1, 2, none⟩ = false := (b1.frozen (p := ⟨w.heap.size + 1, 2, none⟩) (by first | (simp; done) | (simp; omega) | omega)).trans (by first | with_reducible assumption | (simp [go_sem]; done) | (simp [go_sem, *]; done))
          have z1_2 : w.heap.size + 1 + 1 < w1.heap.size := by omega
          have k1_2_0 : w1.cell? ⟨w.heap.size + 1 + 1, 0, none⟩ = some (.int .i64 (0)) := (b1.cell (p := ⟨w.heap.size + 1 + 1, 0, none⟩) (by first | (simp; done) | (simp; omega) | omega)).trans (by first | with_reducible assumption | (simp [go_sem]; done) | (simp [go_sem, *]; done))
          have g1_2_0 : w1.frozen? ⟨w.heap.size + 1 + 1, 0, none⟩ = false := (b1.frozen (p := ⟨w.heap.size + 1 + 1, 0, none⟩) (by first | (simp; done) | (simp; omega) | omega)).trans (by first | with_reducible assumption | (simp [go_sem]; done) | (simp [go_sem, *]; done))
          have k1_2_1 : w1.cell? ⟨w.heap.size + 1 + 1, 1, none⟩ = some (.int .i64 (0)) := (b1.cell (p := ⟨w.heap.size + 1 + 1, 1, none⟩) (by first | (simp; done) | (simp; omega) | omega)).trans (by first | with_reducible assumption | (simp [go_sem]; done) | (simp [go_sem, *]; done))
          have g1_2_1 : w1.frozen? ⟨w.heap.size + 1 + 1, 1, none⟩ = false := (b1.frozen (p := ⟨w.heap.size + 1 + 1, 1, none⟩) (by first | (simp; done) | (simp; omega) | omega)).trans (by first | with_reducible assumption | (simp [go_sem]; done) | (simp [go_sem, *]; done))
          have k1_2_2 : w1.cell? ⟨w.heap.size + 1 + 1, 2, none⟩ = some (.int .i64 (0)) := (b1.cell (p := ⟨w.heap.size + 1 + 1, 2, none⟩) (by first | (simp; done) | (simp; omega) | omega)).trans (by first | with_reducible assumption | (simp [go_sem]; done) | (simp [go_sem, *]; done))
          have g1_2_2 : w1.frozen? ⟨w.heap.size + 1 + 1, 2, none⟩ = false := (b1.frozen (p := ⟨w.heap.size + 1 + 1, 2, none⟩) (by first | (simp; done) | (simp; omega) | omega)).trans (by first | with_reducible assumption | (simp [go_sem]; done) | (simp [go_sem, *]; done))
          have k1_2_3 : w1.cell? ⟨w.heap.size + 1 + 1, 3, none⟩ = some (.int .i64 (0)) := (b1.cell (p := ⟨w.heap.size + 1 + 1, 3, none⟩) (by first | (simp; done) | (simp; omega) | omega)).trans (by first | with_reducible assumption | (simp [go_sem]; done) | (simp [go_sem, *]; done))
          have g1_2_3 : w1.frozen? ⟨w.heap.size + 1 + 1, 3, none⟩ = false := (b1.frozen (p := ⟨w.heap.size + 1 + 1, 3, none⟩) (by first | (simp; done) | (simp; omega) | omega)).trans (by first | with_reducible assumption | (simp [go_sem]; done) | (simp [go_sem, *]; done))
          go_wp2_with fail
          refine (K2.out _).mono ?_
          rintro e_ w2 ⟨rfl, b2⟩
          have s2 := b2.size
          try simp at s2
          have z2_0 : w.heap.size < w2.heap.size := by omega
          have k2_0_0 : w2.cell? ⟨w.heap.size, 0, none⟩ = some (.int .i64 (a)) := (b2.cell (p := ⟨w.heap.size, 0, none⟩) (by first | (simp; done) | (simp; omega) | omega)).trans (by first | with_reducible assumption | (simp [go_sem]; done) | (simp [go_sem, *]; done))
          have g2_0_0 : w2.frozen? ⟨w.heap.size, 0, none⟩ = false := (b2.frozen (p := ⟨w.heap.size, 0, none⟩) (by first | (simp; done) | (simp; omega) | omega)).trans (by first | with_reducible assumption | (simp [go_sem]; done) | (simp [go_sem, *]; done))
          have k2_0_1 : w2.cell? ⟨w.heap.size, 1, none⟩ = some (.int .i64 (b)) := (b2.cell (p := ⟨w.heap.size, 1, none⟩) (by first | (simp; done) | (simp; omega) | omega)).trans (by first | with_reducible assumption | (simp [go_sem]; done) | (simp [go_sem, *]; done))
          have g2_0_1 : w2.frozen? ⟨w.heap.size, 1, none⟩ = false := (b2.frozen (p := ⟨w.heap.size, 1, none⟩) (by first | (simp; done) | (simp; omega) | omega)).trans (by first | with_reducible assumption | (simp [go_sem]; done) | (simp [go_sem, *]; done))
          have k2_0_2 : w2.cell? ⟨w.heap.size, 2, none⟩ = some (.int .i64 (c)) := (b2.cell (p := ⟨w.heap.size, 2, none⟩) (by first | (simp; done) | (simp; omega) | omega)).trans (by first | with_reducible assumption | (simp [go_sem]; done) | (simp [go_sem, *]; done))
          have g2_0_2 : w2.frozen? ⟨w.heap.size, 2, none⟩ = false := (b2.frozen (p := ⟨w.heap.size, 2, none⟩) (by first | (simp; done) | (simp; omega) | omega)).trans (by first | with_reducible assumption | (simp [go_sem]; done) | (simp [go_sem, *]; done))
          have z2_1 : w.heap.size + 1 < w2.heap.size := by omega
          have k2_1_0 : w2.cell? ⟨w.heap.size + 1, 0, none⟩ = some (.int .i64 (d)) := (b2.cell (p := ⟨w.heap.size + 1, 0, none⟩) (by first | (simp; done) | (simp; omega) | omega)).trans (by first | with_reducible assumption | (simp [go_sem]; done) | (simp [go_sem, *]; done))
          have g2_1_0 : w2.frozen? ⟨w.heap.size + 1, 0, none⟩ = false := (b2.frozen (p := ⟨w.heap.size + 1, 0, none⟩) (by first | (simp; done) | (simp; omega) | omega)).trans (by first | with_reducible assumption | (simp [go_sem]; done) | (simp [go_sem, *]; done))
          have k2_1_1 : w2.cell? ⟨w.heap.size + 1, 1, none⟩ = some (.int .i64 (e)) := (b2.cell (p := ⟨w.heap.size + 1, 1, none⟩) (by first | (simp; done) | (simp; omega) | omega)).trans (by first | with_reducible assumption | (simp [go_sem]; done) | (simp [go_sem, *]; done))
          have g2_1_1 : w2.frozen? ⟨w.heap.size + 1, 1, none⟩ = false := (b2.frozen (p := ⟨w.heap.size + 1, 1, none⟩) (by first | (simp; done) | (simp; omega) | omega)).trans (by first | with_reducible assumption | (simp [go_sem]; done) | (simp [go_sem, *]; done))
          have k2_1_2 : w2.cell? ⟨w.heap.size + 1, 2, none⟩ = some (.int .i64 (f)) := (b2.cell (p := ⟨w.heap.size + 1, 2, none⟩) (by first | (simp; done) | (simp; omega) | omega)).trans (by first | with_reducible assumption | (simp [go_sem]; done) | (simp [go_sem, *]; done))
          have g2_1_2 : w2.frozen? ⟨w.heap.size + 1, 2, none⟩ = false := (b2.frozen (p := ⟨w.heap.size + 1, 2, none⟩) (by first | (simp; done) | (simp; omega) | omega)).trans (by first | with_reducible assumption | (simp [go_sem]; done) | (simp [go_sem, *]; done))
          have z2_2 : w.heap.size + 1 + 1 < w2.heap.size := by omega
          have k2_2_0 : w2.cell? ⟨w.heap.size + 1 + 1, 0, none⟩ = some (.int .i64 (0)) := (b2.cell (p := ⟨w.heap.size + 1 + 1, 0, none⟩) (by first | (simp; done) | (simp; omega) | omega)).trans (by first | with_reducible assumption | (simp [go_sem]; done) | (simp [go_sem, *]; done))
          have g2_2_0 : w2.frozen? ⟨w.heap.size + 1 + 1, 0, none⟩ = false := (b2.frozen (p := ⟨w.heap.size + 1 + 1, 0, none⟩) (by first | (simp; done) | (simp; omega) | omega)).trans (by first | with_reducible assumption | (simp [go_sem]; done) | (simp [go_sem, *]; done))
          have k2_2_1 : w2.cell? ⟨w.heap.size + 1 + 1, 1, none⟩ = some (.int .i64 (0)) := (b2.cell (p := ⟨w.heap.size + 1 + 1, 1, none⟩) (by first | (simp; done) | (simp; omega) | omega)).trans (by first | with_reducible assumption | (simp [go_sem]; done) | (simp [go_sem, *]; done))
          have g2_2_1 : w2.frozen? ⟨w.heap.size + 1 + 1, 1, none⟩ = false := (b2.frozen (p := ⟨w.heap.size + 1 + 1, 1, none⟩) (by first | (simp; done) | (simp; omega) | omega)).trans (by first | with_reducible assumption | (simp [go_sem]; done) | (simp [go_sem, *]; done))
          have k2_2_2 : w2.cell? ⟨w.heap.size + 1 + 1, 2, none⟩ = some (.int .i64 (0)) := (b2.cell (p := ⟨w.heap.size + 1 + 1, 2, none⟩) (by first | (simp; done) | (simp; omega) | omega)).trans (by first | with_reducible assumption | (simp [go_sem]; done) | (simp [go_sem, *]; done))
          have g2_2_2 : w2.frozen? ⟨w.heap.size + 1 + 1, 2, none⟩ = false := (b2.frozen (p := ⟨w.heap.size + 1 + 1, 2, none⟩) (by first | (simp; done) | (simp; omega) | omega)).trans (by first | with_reducible assumption | (simp [go_sem]; done) | (simp [go_sem, *]; done))
          have k2_2_3 : w2.cell? ⟨w.heap.size + 1 + 1, 3, none⟩ = some (.int .i64 (0)) := (b2.cell (p := ⟨w.heap.size + 1 + 1, 3, none⟩) (by first | (simp; done) | (simp; omega) | omega)).trans (by first | with_reducible assumption | (simp [go_sem]; done) | (simp [go_sem, *]; done))
          have g2_2_3 : w2.frozen? ⟨w.heap.size + 1 + 1, 3, none⟩ = false := (b2.frozen (p := ⟨w.heap.size + 1 + 1, 3, none⟩) (by first | (simp; done) | (simp; omega) | omega)).trans (by first | with_reducible assumption | (simp [go_sem]; done) | (simp [go_sem, *]; done))
          clear k1_0_0 g1_0_0 k1_0_1 g1_0_1 k1_0_2 g1_0_2 k1_1_0 g1_1_0 k1_1_1 g1_1_1 k1_1_2 g1_1_2 k1_2_0 g1_2_0 k1_2_1 g1_2_1 k1_2_2 g1_2_2 k1_2_3 g1_2_3
          go_wp2
          have A0_0 : ∀ w', HldLo (w.heap.size + 1 + 1) w2 w' → w'.cell? ⟨w.heap.size, 0, none⟩ = some (.int .i64 (a)) := fun w' h => h.cell (by omega) (by first | with_reducible assumption | (simp [go_sem]; done) | (simp [go_sem, *]; done))
          have A0_1 : ∀ w', HldLo (w.heap.size + 1 + 1) w2 w' → w'.cell? ⟨w.heap.size, 1, none⟩ = some (.int .i64 (b)) := fun w' h => h.cell (by omega) (by first | with_reducible assumption | (simp [go_sem]; done) | (simp [go_sem, *]; done))
          have A0_2 : ∀ w', HldLo (w.heap.size + 1 + 1) w2 w' → w'.cell? ⟨w.heap.size, 2, none⟩ = some (.int .i64 (c)) := fun w' h => h.cell (by omega) (by first | with_reducible assumption | (simp [go_sem]; done) | (simp [go_sem, *]; done))
          have A1_0 : ∀ w', HldLo (w.heap.size + 1 + 1) w2 w' → w'.cell? ⟨w.heap.size + 1, 0, none⟩ = some (.int .i64 (d)) := fun w' h => h.cell (by omega) (by first | with_reducible assumption | (simp [go_sem]; done) | (simp [go_sem, *]; done))
          have A1_1 : ∀ w', HldLo (w.heap.size + 1 + 1) w2 w' → w'.cell? ⟨w.heap.size + 1, 1, none⟩ = some (.int .i64 (e)) := fun w' h => h.cell (by omega) (by first | with_reducible assumption | (simp [go_sem]; done) | (simp [go_sem, *]; done))
          have A1_2 : ∀ w', HldLo (w.heap.size + 1 + 1) w2 w' → w'.cell? ⟨w.heap.size + 1, 2, none⟩ = some (.int .i64 (f)) := fun w' h => h.cell (by omega) (by first | with_reducible assumption | (simp [go_sem]; done) | (simp [go_sem, *]; done))
          have y0_0 : w2.cell? ⟨w.heap.size + 1 + 1, 0, none⟩ = some (.int .i64 (0)) := by first | with_reducible assumption | (simp [go_sem]; done) | (simp [go_sem, *]; done)
          have x0_0 : w2.frozen? ⟨w.heap.size + 1 + 1, 0, none⟩ = false := by first | with_reducible assumption | (simp [go_sem]; done) | (simp [go_sem, *]; done)
          have y0_1 : w2.cell? ⟨w.heap.size + 1 + 1, 1, none⟩ = some (.int .i64 (0)) := by first | with_reducible assumption | (simp [go_sem]; done) | (simp [go_sem, *]; done)
          have x0_1 : w2.frozen? ⟨w.heap.size + 1 + 1, 1, none⟩ = false := by first | with_reducible assumption | (simp [go_sem]; done) | (simp [go_sem, *]; done)
          have y0_2 : w2.cell? ⟨w.heap.size + 1 + 1, 2, none⟩ = some (.int .i64 (0)) := by first | with_reducible assumption | (simp [go_sem]; done) | (simp [go_sem, *]; done)
          have x0_2 : w2.frozen? ⟨w.heap.size + 1 + 1, 2, none⟩ = false := by first | with_reducible assumption | (simp [go_sem]; done) | (simp [go_sem, *]; done)
          have y0_3 : w2.cell? ⟨w.heap.size + 1 + 1, 3, none⟩ = some (.int .i64 (0)) := by first | with_reducible assumption | (simp [go_sem]; done) | (simp [go_sem, *]; done)
          have x0_3 : w2.frozen? ⟨w.heap.size + 1 + 1, 3, none⟩ = false := by first | with_reducible assumption | (simp [go_sem]; done) | (simp [go_sem, *]; done)
          have hW0 : w.heap.size + 1 + 1 < w2.heap.size := by first | omega | (simp; done) | (simp; omega)
          have wr0 : IntKind.i64.wrap (a * e) = a * e := IntWalk.i64_in _ (by omega)
          have wr1 : IntKind.i64.wrap (d * b) = d * b := IntWalk.i64_in _ (by omega)
          have wr2 : IntKind.i64.wrap (a * e - d * b) = a * e - d * b := IntWalk.i64_in _ (by omega)
          have wr3 : IntKind.i64.wrap (c * e) = c * e := IntWalk.i64_in _ (by omega)
          have wr4 : IntKind.i64.wrap (f * b) = f * b := IntWalk.i64_in _ (by omega)
          have wr5 : IntKind.i64.wrap (c * e - f * b) = c * e - f * b := IntWalk.i64_in _ (by omega)
          have wr6 : IntKind.i64.wrap (a * f) = a * f := IntWalk.i64_in _ (by omega)
          have wr7 : IntKind.i64.wrap (d * c) = d * c := IntWalk.i64_in _ (by omega)
          have wr8 : IntKind.i64.wrap (a * f - d * c) = a * f - d * c := IntWalk.i64_in _ (by omega)
          go_region_held3 (fun w' => HldLo (w.heap.size + 1 + 1) w2 w') ((repeat (first | with_reducible assumption | with_reducible exact HldLo.start _ _ | with_reducible refine HldLo.drew ?_ | with_reducible refine HldLo.set ?_ (by dsimp only; omega) _))) (first | (go_at_call 58; (with_reducible refine (K3.out _).mono ?_); rintro e_ w3 ⟨rfl, b3⟩; have HS3 : HldLo (w.heap.size + 1 + 1) w2 w3 := HldLo.call (by first | with_reducible assumption | with_reducible exact HldLo.start _ _) b3 (by omega); have z3 : w.heap.size + 1 + 1 < w3.heap.size := Nat.lt_of_lt_of_le hW0 (Below.size HS3); have y3_0 := (b3.cell (p := ⟨w.heap.size + 1 + 1, 0, none⟩) hW0).trans y0_0; have x3_0 := (b3.frozen (p := ⟨w.heap.size + 1 + 1, 0, none⟩) hW0).trans x0_0; have y3_1 := (b3.cell (p := ⟨w.heap.size + 1 + 1, 1, none⟩) hW0).trans y0_1; have x3_1 := (b3.frozen (p := ⟨w.heap.size + 1 + 1, 1, none⟩) hW0).trans x0_1; have y3_2 := (b3.cell (p := ⟨w.heap.size + 1 + 1, 2, none⟩) hW0).trans y0_2; have x3_2 := (b3.frozen (p := ⟨w.heap.size + 1 + 1, 2, none⟩) hW0).trans x0_2; have y3_3 := (b3.cell (p := ⟨w.heap.size + 1 + 1, 3, none⟩) hW0).trans y0_3; have x3_3 := (b3.frozen (p := ⟨w.heap.size + 1 + 1, 3, none⟩) hW0).trans x0_3; clear A0_0 A0_1 A0_2 A1_0 A1_1 A1_2) | (go_at_call 58; (with_reducible refine (K4.out _).mono ?_); rintro e_ w4 ⟨rfl, b4⟩; have HS4 : HldLo (w.heap.size + 1 + 1) w2 w4 := HldLo.call (by first | with_reducible assumption | with_reducible exact HldLo.start _ _) b4 (by omega); have z4 : w.heap.size + 1 + 1 < w4.heap.size := Nat.lt_of_lt_of_le hW0 (Below.size HS4); have y4_0 := (b4.cell (p := ⟨w.heap.size + 1 + 1, 0, none⟩) z3).trans y3_0; have x4_0 := (b4.frozen (p := ⟨w.heap.size + 1 + 1, 0, none⟩) z3).trans x3_0; have y4_1 := (b4.cell (p := ⟨w.heap.size + 1 + 1, 1, none⟩) z3).trans y3_1; have x4_1 := (b4.frozen (p := ⟨w.heap.size + 1 + 1, 1, none⟩) z3).trans x3_1; have y4_2 := (b4.cell (p := ⟨w.heap.size + 1 + 1, 2, none⟩) z3).trans y3_2; have x4_2 := (b4.frozen (p := ⟨w.heap.size + 1 + 1, 2, none⟩) z3).trans x3_2; have y4_3 := (b4.cell (p := ⟨w.heap.size + 1 + 1, 3, none⟩) z3).trans y3_3; have x4_3 := (b4.frozen (p := ⟨w.heap.size + 1 + 1, 3, none⟩) z3).trans x3_3))
          all_goals go_wp2
          all_goals (refine bodyPost_ret (v := .tuple #[.agg #[.int .i64 R0, .int .i64 R1, .int .i64 R2, .int .i64 R3], .int .i64 1]) (by simp [results, Try.results47, go_sem, *]) rfl ⟨rfl, ?_⟩)
          all_goals (repeat (first | with_reducible exact Below.refl _ _ | with_reducible refine bl_alloc ?_ _ | with_reducible refine bl_drew ?_ | with_reducible refine bl_set ?_ (by first | (simp; done) | (simp; omega)) _ | with_reducible refine bl_call (by assumption) ?_))

end Go.Proofs.Ytbhcodmpcknllaa
