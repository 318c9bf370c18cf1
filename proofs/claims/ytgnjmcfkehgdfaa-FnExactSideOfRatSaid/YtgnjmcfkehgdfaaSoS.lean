/- Contracts of functions that this seat's statements reach: each is shown to compute a plain Lean function, and to leave what was there as it was. No conditions but those in each theorem. -/
import Derived.Test.YtgnjmcfkehgdfaaRat
import Derived.Test.YtgnjmcfkehgdfaaLn
import Derived.Test.YtgnjmcfkehgdfaaB1
import Derived.Test.YtgnjmcfkehgdfaaPlainO
import Derived.Test.YtgnjmcfkehgdfaaGn
namespace Go.Proofs.Ytgnjmcfkehgdfaa
open Go.RowKit
set_option linter.unusedVariables false

open Go.Sort

set_option maxHeartbeats 8000000 in
theorem spec_validSolution (n : Int) (d : Int) (m : Int) (k : Int) (w : World) :
    Calls Try.prog 71 #[.agg #[.int .i64 n, .int .i64 d, .int .i64 m, .int .i64 k]] w fun e w' => e = .returned (.bool (soOk n d m k)) ∧ Below w.heap.size w w' := by
  cases q1 : ratB n d with
  | false =>
    have hr : soOk n d m k = false := by simp [soOk, q1]
    rw [hr]
    clear hr
    have K1 : Hid (∀ W : World, Calls Try.prog 93 #[.agg #[.int .i64 n, .int .i64 d]] W fun e w' => e = .returned (.bool false) ∧ Below W.heap.size W w') := Lib.hid fun W => by
      have h := spec_validRat (n) (d) W
      rw [q1] at h
      exact h
    clear q1
    go_enter Try.func71, Try.ntmps71
    go_wp2_with fail
    refine (K1.out _).mono ?_
    rintro e w1 ⟨rfl, b1⟩
    have s1 := b1.size
    try simp at s1
    have z1_0 : w.heap.size < w1.heap.size := by omega
    have k1_0_0 : w1.cell? ⟨w.heap.size, 0, none⟩ = some (.int .i64 (n)) := (b1.cell (p := ⟨w.heap.size, 0, none⟩) (by first | (simp; done) | (simp; omega) | omega)).trans (by first | with_reducible assumption | (simp [go_sem]; done) | (simp [go_sem, *]; done))
    have g1_0_0 : w1.frozen? ⟨w.heap.size, 0, none⟩ = false := (b1.frozen (p := ⟨w.heap.size, 0, none⟩) (by first | (simp; done) | (simp; omega) | omega)).trans (by first | with_reducible assumption | (simp [go_sem]; done) | (simp [go_sem, *]; done))
    have k1_0_1 : w1.cell? ⟨w.heap.size, 1, none⟩ = some (.int .i64 (d)) := (b1.cell (p := ⟨w.heap.size, 1, none⟩) (by first | (simp; done) | (simp; omega) | omega)).trans (by first | with_reducible assumption | (simp [go_sem]; done) | (simp [go_sem, *]; done))
    have g1_0_1 : w1.frozen? ⟨w.heap.size, 1, none⟩ = false := (b1.frozen (p := ⟨w.heap.size, 1, none⟩) (by first | (simp; done) | (simp; omega) | omega)).trans (by first | with_reducible assumption | (simp [go_sem]; done) | (simp [go_sem, *]; done))
    have k1_0_2 : w1.cell? ⟨w.heap.size, 2, none⟩ = some (.int .i64 (m)) := (b1.cell (p := ⟨w.heap.size, 2, none⟩) (by first | (simp; done) | (simp; omega) | omega)).trans (by first | with_reducible assumption | (simp [go_sem]; done) | (simp [go_sem, *]; done))
    have g1_0_2 : w1.frozen? ⟨w.heap.size, 2, none⟩ = false := (b1.frozen (p := ⟨w.heap.size, 2, none⟩) (by first | (simp; done) | (simp; omega) | omega)).trans (by first | with_reducible assumption | (simp [go_sem]; done) | (simp [go_sem, *]; done))
    have k1_0_3 : w1.cell? ⟨w.heap.size, 3, none⟩ = some (.int .i64 (k)) := (b1.cell (p := ⟨w.heap.size, 3, none⟩) (by first | (simp; done) | (simp; omega) | omega)).trans (by first | with_reducible assumption | (simp [go_sem]; done) | (simp [go_sem, *]; done))
    have g1_0_3 : w1.frozen? ⟨w.heap.size, 3, none⟩ = false := (b1.frozen (p := ⟨w.heap.size, 3, none⟩) (by first | (simp; done) | (simp; omega) | omega)).trans (by first | with_reducible assumption | (simp [go_sem]; done) | (simp [go_sem, *]; done))
    go_wp2
    go_ret
    exact ⟨rfl, (by (repeat (first | with_reducible exact Below.refl _ _ | with_reducible refine bl_alloc ?_ _ | with_reducible refine bl_drew ?_ | with_reducible refine bl_set ?_ (by first | (simp; done) | (simp; omega)) _ | with_reducible refine bl_call (by assumption) ?_)))⟩
  
  | true =>
    cases q2 : ratB m k with
    | false =>
      have hr : soOk n d m k = false := by simp [soOk, q1, q2]
      rw [hr]
      clear hr
      have K1 : Hid (∀ W : World, Calls Try.prog 93 #[.agg #[.int .i64 n, .int .i64 d]] W fun e w' => e = .returned (.bool true) ∧ Below W.heap.size W w') := Lib.hid fun W => by
        have h := spec_validRat (n) (d) W
        rw [q1] at h
        exact h
      have K2 : Hid (∀ W : World, Calls Try.prog 93 #[.agg #[.int .i64 m, .int .i64 k]] W fun e w' => e = .returned (.bool false) ∧ Below W.heap.size W w') := Lib.hid fun W => by
        have h := spec_validRat (m) (k) W
        rw [q2] at h
        exact h
      clear q1 q2
      go_enter Try.func71, Try.ntmps71
      go_wp2_with fail
      refine (K1.out _).mono ?_
      rintro e w1 ⟨rfl, b1⟩
      have s1 := b1.size
      try simp at s1
      have z1_0 : w.heap.size < w1.heap.size := by omega
      have k1_0_0 : w1.cell? ⟨w.heap.size, 0, none⟩ = some (.int .i64 (n)) := (b1.cell (p := ⟨w.heap.size, 0, none⟩) (by first | (simp; done) | (simp; omega) | omega)).trans (by first | with_reducible assumption | (simp [go_sem]; done) | (simp [go_sem, *]; done))
      have g1_0_0 : w1.frozen? ⟨w.heap.size, 0, none⟩ = false := (b1.frozen (p := ⟨w.heap.size, 0, none⟩) (by first | (simp; done) | (simp; omega) | omega)).trans (by first | with_reducible assumption | (simp [go_sem]; done) | (simp [go_sem, *]; done))
      have k1_0_1 : w1.cell? ⟨w.heap.size, 1, none⟩ = some (.int .i64 (d)) := (b1.cell (p := ⟨w.heap.size, 1, none⟩) (by first | (simp; done) | (simp; omega) | omega)).trans (by first | with_reducible assumption | (simp [go_sem]; done) | (simp [go_sem, *]; done))
      have g1_0_1 : w1.frozen? ⟨w.heap.size, 1, none⟩ = false := (b1.frozen (p := ⟨w.heap.size, 1, none⟩) (by first | (simp; done) | (simp; omega) | omega)).trans (by first | with_reducible assumption | (simp [go_sem]; done) | (simp [go_sem, *]; done))
      have k1_0_2 : w1.cell? ⟨w.heap.size, 2, none⟩ = some (.int .i64 (m)) := (b1.cell (p := ⟨w.heap.size, 2, none⟩) (by first | (simp; done) | (simp; omega) | omega)).trans (by first | with_reducible assumption | (simp [go_sem]; done) | (simp [go_sem, *]; done))
      have g1_0_2 : w1.frozen? ⟨w.heap.size, 2, none⟩ = false := (b1.frozen (p := ⟨w.heap.size, 2, none⟩) (by first | (simp; done) | (simp; omega) | omega)).trans (by first | with_reducible assumption | (simp [go_sem]; done) | (simp [go_sem, *]; done))
      have k1_0_3 : w1.cell? ⟨w.heap.size, 3, none⟩ = some (.int .i64 (k)) := (b1.cell (p := ⟨w.heap.size, 3, none⟩) (by first | (simp; done) | (simp; omega) | omega)).trans (by first | with_reducible assumption | (simp [go_sem]; done) | (simp [go_sem, *]; done))
      have g1_0_3 : w1.frozen? ⟨w.heap.size, 3, none⟩ = false := (b1.frozen (p := ⟨w.heap.size, 3, none⟩) (by first | (simp; done) | (simp; omega) | omega)).trans (by first | with_reducible assumption | (simp [go_sem]; done) | (simp [go_sem, *]; done))
      go_wp2_with fail
      refine (K2.out _).mono ?_
      rintro e w2 ⟨rfl, b2⟩
      have s2 := b2.size
      try simp at s2
      have z2_0 : w.heap.size < w2.heap.size := by omega
      have k2_0_0 : w2.cell? ⟨w.heap.size, 0, none⟩ = some (.int .i64 (n)) := (b2.cell (p := ⟨w.heap.size, 0, none⟩) (by first | (simp; done) | (simp; omega) | omega)).trans (by first | with_reducible assumption | (simp [go_sem]; done) | (simp [go_sem, *]; done))
      have g2_0_0 : w2.frozen? ⟨w.heap.size, 0, none⟩ = false := (b2.frozen (p := ⟨w.heap.size, 0, none⟩) (by first | (simp; done) | (simp; omega) | omega)).trans (by first | with_reducible assumption | (simp [go_sem]; done) | (simp [go_sem, *]; done))
      have k2_0_1 : w2.cell? ⟨w.heap.size, 1, none⟩ = some (.int .i64 (d)) := (b2.cell (p := ⟨w.heap.size, 1, none⟩) (by first | (simp; done) | (simp; omega) | omega)).trans (by first | with_reducible assumption | (simp [go_sem]; done) | (simp [go_sem, *]; done))
      have g2_0_1 : w2.frozen? ⟨w.heap.size, 1, none⟩ = false := (b2.frozen (p := ⟨w.heap.size, 1, none⟩) (by first | (simp; done) | (simp; omega) | omega)).trans (by first | with_reducible assumption | (simp [go_sem]; done) | (simp [go_sem, *]; done))
      have k2_0_2 : w2.cell? ⟨w.heap.size, 2, none⟩ = some (.int .i64 (m)) := (b2.cell (p := ⟨w.heap.size, 2, none⟩) (by first | (simp; done) | (simp; omega) | omega)).trans (by first | with_reducible assumption | (simp [go_sem]; done) | (simp [go_sem, *]; done))
      have g2_0_2 : w2.frozen? ⟨w.heap.size, 2, none⟩ = false := (b2.frozen (p := ⟨w.heap.size, 2, none⟩) (by first | (simp; done) | (simp; omega) | omega)).trans (by first | with_reducible assumption | (simp [go_sem]; done) | (simp [go_sem, *]; done))
      have k2_0_3 : w2.cell? ⟨w.heap.size, 3, none⟩ = some (.int .i64 (k)) := (b2.cell (p := ⟨w.heap.size, 3, none⟩) (by first | (simp; done) | (simp; omega) | omega)).trans (by first | with_reducible assumption | (simp [go_sem]; done) | (simp [go_sem, *]; done))
      have g2_0_3 : w2.frozen? ⟨w.heap.size, 3, none⟩ = false := (b2.frozen (p := ⟨w.heap.size, 3, none⟩) (by first | (simp; done) | (simp; omega) | omega)).trans (by first | with_reducible assumption | (simp [go_sem]; done) | (simp [go_sem, *]; done))
      clear k1_0_0 g1_0_0 k1_0_1 g1_0_1 k1_0_2 g1_0_2 k1_0_3 g1_0_3
      go_wp2
      go_ret
      exact ⟨rfl, (by (repeat (first | with_reducible exact Below.refl _ _ | with_reducible refine bl_alloc ?_ _ | with_reducible refine bl_drew ?_ | with_reducible refine bl_set ?_ (by first | (simp; done) | (simp; omega)) _ | with_reducible refine bl_call (by assumption) ?_)))⟩
  
    | true =>
      by_cases q3 : soD d k * k ≤ 20000000
      · by_cases q4 : iabs n ≤ 10000 * d
        · by_cases q5 : iabs m ≤ 10000 * k
          · have hr : soOk n d m k = true := by simp [soOk, q1, q2, q3, q4, q5]
            rw [hr]
            clear hr
            obtain ⟨⟨ln, un⟩, ⟨ld, ud⟩⟩ := ratB_true q1
            obtain ⟨⟨lm, um⟩, ⟨lk, uk⟩⟩ := ratB_true q2
            obtain ⟨g1, gl, e1, e2, ⟨p1, p2⟩, ⟨r1, r2⟩, e3⟩ := so_div d k ld lk
            have pg1 : d / gcdI d k = soD d k := rfl
            have pg2 : k / gcdI d k = soK d k := rfl
            have K1 : Hid (∀ W : World, Calls Try.prog 93 #[.agg #[.int .i64 n, .int .i64 d]] W fun e w' => e = .returned (.bool true) ∧ Below W.heap.size W w') := Lib.hid fun W => by
              have h := spec_validRat (n) (d) W
              rw [q1] at h
              exact h
            have K2 : Hid (∀ W : World, Calls Try.prog 93 #[.agg #[.int .i64 m, .int .i64 k]] W fun e w' => e = .returned (.bool true) ∧ Below W.heap.size W w') := Lib.hid fun W => by
              have h := spec_validRat (m) (k) W
              rw [q2] at h
              exact h
            have K3 : Hid (∀ W : World, Calls Try.prog 79 #[.int .i64 d, .int .i64 k] W fun e w' => e = .returned (.int .i64 (gcdI d k)) ∧ W = w') := Lib.hid fun W => by
              have h := spec_gcd (d) (k) W (by omega) (by omega) (by omega) (by omega)
              exact h
            have in0 : 0 ≤ iabs n := by unfold iabs; omega
            have in1 : iabs n ≤ 100000000000 := by unfold iabs; omega
            have im0 : 0 ≤ iabs m := by unfold iabs; omega
            have im1 : iabs m ≤ 100000000000 := by unfold iabs; omega
            obtain ⟨m1, m2⟩ := mul_bd (soD d k) k 20000000 20000000 (by omega) (by omega) (by omega) (by omega)
            have K4 : Hid (∀ W : World, Calls Try.prog 80 #[.int .i64 n] W fun e w' => e = .returned (.int .i64 (iabs n)) ∧ W = w') := Lib.hid fun W => by
              have h := spec_abs (n) W (by omega) (by omega)
              exact h
            have K5 : Hid (∀ W : World, Calls Try.prog 80 #[.int .i64 m] W fun e w' => e = .returned (.int .i64 (iabs m)) ∧ W = w') := Lib.hid fun W => by
              have h := spec_abs (m) W (by omega) (by omega)
              exact h
            clear q1 q2
            generalize gcdI d k = G at *
            generalize iabs n = N at *
            generalize iabs m = M at *
            generalize soD d k = D1 at *
            generalize soK d k = KQ at *
            have wr0 : IntKind.i64.wrap (D1) = D1 := IntWalk.i64_in _ (by omega)
            have wr1 : IntKind.i64.wrap (D1 * k) = D1 * k := IntWalk.i64_in _ (by omega)
            have wr2 : IntKind.i64.wrap (10000 * d) = 10000 * d := IntWalk.i64_in _ (by omega)
            have wr3 : IntKind.i64.wrap (10000 * k) = 10000 * k := IntWalk.i64_in _ (by omega)
            have v0 : D1 * k ≤ 20000000 := by omega
            have v1 : N ≤ 10000 * d := by omega
            have v2 : M ≤ 10000 * k := by omega
            have gz : ¬ G = 0 := by omega
            clear e3
            go_enter Try.func71, Try.ntmps71
            go_wp2_with fail
            refine (K1.out _).mono ?_
            rintro e w1 ⟨rfl, b1⟩
            have s1 := b1.size
            try simp at s1
            have z1_0 : w.heap.size < w1.heap.size := by omega
            have k1_0_0 : w1.cell? ⟨w.heap.size, 0, none⟩ = some (.int .i64 (n)) := (b1.cell (p := ⟨w.heap.size, 0, none⟩) (by first | (simp; done) | (simp; omega) | omega)).trans (by first | with_reducible assumption | (simp [go_sem]; done) | (simp [go_sem, *]; done))
            have g1_0_0 : w1.frozen? ⟨w.heap.size, 0, none⟩ = false := (b1.frozen (p := ⟨w.heap.size, 0, none⟩) (by first | (simp; done) | (simp; omega) | omega)).trans (by first | with_reducible assumption | (simp [go_sem]; done) | (simp [go_sem, *]; done))
            have k1_0_1 : w1.cell? ⟨w.heap.size, 1, none⟩ = some (.int .i64 (d)) := (b1.cell (p := ⟨w.heap.size, 1, none⟩) (by first | (simp; done) | (simp; omega) | omega)).trans (by first | with_reducible assumption | (simp [go_sem]; done) | (simp [go_sem, *]; done))
            have g1_0_1 : w1.frozen? ⟨w.heap.size, 1, none⟩ = false := (b1.frozen (p := ⟨w.heap.size, 1, none⟩) (by first | (simp; done) | (simp; omega) | omega)).trans (by first | with_reducible assumption | (simp [go_sem]; done) | (simp [go_sem, *]; done))
            have k1_0_2 : w1.cell? ⟨w.heap.size, 2, none⟩ = some (.int .i64 (m)) := (b1.cell (p := ⟨w.heap.size, 2, none⟩) (by first | (simp; done) | (simp; omega) | omega)).trans (by first | with_reducible assumption | (simp [go_sem]; done) | (simp [go_sem, *]; done))
            have g1_0_2 : w1.frozen? ⟨w.heap.size, 2, none⟩ = false := (b1.frozen (p := ⟨w.heap.size, 2, none⟩) (by first | (simp; done) | (simp; omega) | omega)).trans (by first | with_reducible assumption | (simp [go_sem]; done) | (simp [go_sem, *]; done))
            have k1_0_3 : w1.cell? ⟨w.heap.size, 3, none⟩ = some (.int .i64 (k)) := (b1.cell (p := ⟨w.heap.size, 3, none⟩) (by first | (simp; done) | (simp; omega) | omega)).trans (by first | with_reducible assumption | (simp [go_sem]; done) | (simp [go_sem, *]; done))
            have g1_0_3 : w1.frozen? ⟨w.heap.size, 3, none⟩ = false := (b1.frozen (p := ⟨w.heap.size, 3, none⟩) (by first | (simp; done) | (simp; omega) | omega)).trans (by first | with_reducible assumption | (simp [go_sem]; done) | (simp [go_sem, *]; done))
            go_wp2_with fail
            refine (K2.out _).mono ?_
            rintro e w2 ⟨rfl, b2⟩
            have s2 := b2.size
            try simp at s2
            have z2_0 : w.heap.size < w2.heap.size := by omega
            have k2_0_0 : w2.cell? ⟨w.heap.size, 0, none⟩ = some (.int .i64 (n)) := (b2.cell (p := ⟨w.heap.size, 0, none⟩) (by first | (simp; done) | (simp; omega) | omega)).trans (by first | with_reducible assumption | (simp [go_sem]; done) | (simp [go_sem, *]; done))
            have g2_0_0 : w2.frozen? ⟨w.heap.size, 0, none⟩ = false := (b2.frozen (p := ⟨w.heap.size, 0, none⟩) (by first | (simp; done) | (simp; omega) | omega)).trans (by first | with_reducible assumption | (simp [go_sem]; done) | (simp [go_sem, *]; done))
            have k2_0_1 : w2.cell? ⟨w.heap.size, 1, none⟩ = some (.int .i64 (d)) := (b2.cell (p := ⟨w.heap.size, 1, none⟩) (by first | (simp; done) | (simp; omega) | omega)).trans (by first | with_reducible assumption | (simp [go_sem]; done) | (simp [go_sem, *]; done))
            have g2_0_1 : w2.frozen? ⟨w.heap.size, 1, none⟩ = false := (b2.frozen (p := ⟨w.heap.size, 1, none⟩) (by first | (simp; done) | (simp; omega) | omega)).trans (by first | with_reducible assumption | (simp [go_sem]; done) | (simp [go_sem, *]; done))
            have k2_0_2 : w2.cell? ⟨w.heap.size, 2, none⟩ = some (.int .i64 (m)) := (b2.cell (p := ⟨w.heap.size, 2, none⟩) (by first | (simp; done) | (simp; omega) | omega)).trans (by first | with_reducible assumption | (simp [go_sem]; done) | (simp [go_sem, *]; done))
            have g2_0_2 : w2.frozen? ⟨w.heap.size, 2, none⟩ = false := (b2.frozen (p := ⟨w.heap.size, 2, none⟩) (by first | (simp; done) | (simp; omega) | omega)).trans (by first | with_reducible assumption | (simp [go_sem]; done) | (simp [go_sem, *]; done))
            have k2_0_3 : w2.cell? ⟨w.heap.size, 3, none⟩ = some (.int .i64 (k)) := (b2.cell (p := ⟨w.heap.size, 3, none⟩) (by first | (simp; done) | (simp; omega) | omega)).trans (by first | with_reducible assumption | (simp [go_sem]; done) | (simp [go_sem, *]; done))
            have g2_0_3 : w2.frozen? ⟨w.heap.size, 3, none⟩ = false := (b2.frozen (p := ⟨w.heap.size, 3, none⟩) (by first | (simp; done) | (simp; omega) | omega)).trans (by first | with_reducible assumption | (simp [go_sem]; done) | (simp [go_sem, *]; done))
            clear k1_0_0 g1_0_0 k1_0_1 g1_0_1 k1_0_2 g1_0_2 k1_0_3 g1_0_3
            go_wp2
            have kc0 := cell_regrown (w := w2) (a := ⟨w.heap.size, 0, none⟩) (v := .int .i64 (n)) (by first | ((repeat (first | with_reducible assumption | with_reducible refine calloc ?_ _)); done) | (simp [go_sem]; done) | (simp [go_sem, *]; done))
            have kc1 := cell_regrown (w := w2) (a := ⟨w.heap.size, 1, none⟩) (v := .int .i64 (d)) (by first | ((repeat (first | with_reducible assumption | with_reducible refine calloc ?_ _)); done) | (simp [go_sem]; done) | (simp [go_sem, *]; done))
            have kc2 := cell_regrown (w := w2) (a := ⟨w.heap.size, 2, none⟩) (v := .int .i64 (m)) (by first | ((repeat (first | with_reducible assumption | with_reducible refine calloc ?_ _)); done) | (simp [go_sem]; done) | (simp [go_sem, *]; done))
            have kc3 := cell_regrown (w := w2) (a := ⟨w.heap.size, 3, none⟩) (v := .int .i64 (k)) (by first | ((repeat (first | with_reducible assumption | with_reducible refine calloc ?_ _)); done) | (simp [go_sem]; done) | (simp [go_sem, *]; done))
            refine wp_region_quiet_below (by kernel_rfl) (by kernel_rfl) ?_
            repeat (go_big_quiet_step ((first | (go_at_call 79; exact Calls.regrown_of (qb_same (K3.out _))) | (go_at_call 80; with_reducible exact Calls.regrown_of (qb_same (K4.out _))) | (go_at_call 80; with_reducible exact Calls.regrown_of (qb_same (K5.out _))))))
            refine wpQuiet_nil ?_
            intro w3 hw'
            have b3 : Below w2.heap.size w2 w3 := by
              obtain ⟨pp, rfl⟩ := hw'
              exact below_regrown _ _ _
            clear hw' kc0 kc1 kc2 kc3
            have s3 := b3.size
            try simp at s3
            have z3_0 : w.heap.size < w3.heap.size := by omega
            have k3_0_0 : w3.cell? ⟨w.heap.size, 0, none⟩ = some (.int .i64 (n)) := (b3.cell (p := ⟨w.heap.size, 0, none⟩) (by first | (simp; done) | (simp; omega) | omega)).trans (by first | with_reducible assumption | (simp [go_sem]; done) | (simp [go_sem, *]; done))
            have g3_0_0 : w3.frozen? ⟨w.heap.size, 0, none⟩ = false := (b3.frozen (p := ⟨w.heap.size, 0, none⟩) (by first | (simp; done) | (simp; omega) | omega)).trans (by first | with_reducible assumption | (simp [go_sem]; done) | (simp [go_sem, *]; done))
            have k3_0_1 : w3.cell? ⟨w.heap.size, 1, none⟩ = some (.int .i64 (d)) := (b3.cell (p := ⟨w.heap.size, 1, none⟩) (by first | (simp; done) | (simp; omega) | omega)).trans (by first | with_reducible assumption | (simp [go_sem]; done) | (simp [go_sem, *]; done))
            have g3_0_1 : w3.frozen? ⟨w.heap.size, 1, none⟩ = false := (b3.frozen (p := ⟨w.heap.size, 1, none⟩) (by first | (simp; done) | (simp; omega) | omega)).trans (by first | with_reducible assumption | (simp [go_sem]; done) | (simp [go_sem, *]; done))
            have k3_0_2 : w3.cell? ⟨w.heap.size, 2, none⟩ = some (.int .i64 (m)) := (b3.cell (p := ⟨w.heap.size, 2, none⟩) (by first | (simp; done) | (simp; omega) | omega)).trans (by first | with_reducible assumption | (simp [go_sem]; done) | (simp [go_sem, *]; done))
            have g3_0_2 : w3.frozen? ⟨w.heap.size, 2, none⟩ = false := (b3.frozen (p := ⟨w.heap.size, 2, none⟩) (by first | (simp; done) | (simp; omega) | omega)).trans (by first | with_reducible assumption | (simp [go_sem]; done) | (simp [go_sem, *]; done))
            have k3_0_3 : w3.cell? ⟨w.heap.size, 3, none⟩ = some (.int .i64 (k)) := (b3.cell (p := ⟨w.heap.size, 3, none⟩) (by first | (simp; done) | (simp; omega) | omega)).trans (by first | with_reducible assumption | (simp [go_sem]; done) | (simp [go_sem, *]; done))
            have g3_0_3 : w3.frozen? ⟨w.heap.size, 3, none⟩ = false := (b3.frozen (p := ⟨w.heap.size, 3, none⟩) (by first | (simp; done) | (simp; omega) | omega)).trans (by first | with_reducible assumption | (simp [go_sem]; done) | (simp [go_sem, *]; done))
            clear k2_0_0 g2_0_0 k2_0_1 g2_0_1 k2_0_2 g2_0_2 k2_0_3 g2_0_3
            go_wp2
            go_ret
            exact ⟨rfl, (by (repeat (first | with_reducible exact Below.refl _ _ | with_reducible refine bl_alloc ?_ _ | with_reducible refine bl_drew ?_ | with_reducible refine bl_set ?_ (by first | (simp; done) | (simp; omega)) _ | with_reducible refine bl_call (by assumption) ?_)))⟩
          · have hr : soOk n d m k = false := by simp [soOk, q1, q2, q3, q4, q5]
            rw [hr]
            clear hr
            obtain ⟨⟨ln, un⟩, ⟨ld, ud⟩⟩ := ratB_true q1
            obtain ⟨⟨lm, um⟩, ⟨lk, uk⟩⟩ := ratB_true q2
            obtain ⟨g1, gl, e1, e2, ⟨p1, p2⟩, ⟨r1, r2⟩, e3⟩ := so_div d k ld lk
            have pg1 : d / gcdI d k = soD d k := rfl
            have pg2 : k / gcdI d k = soK d k := rfl
            have K1 : Hid (∀ W : World, Calls Try.prog 93 #[.agg #[.int .i64 n, .int .i64 d]] W fun e w' => e = .returned (.bool true) ∧ Below W.heap.size W w') := Lib.hid fun W => by
              have h := spec_validRat (n) (d) W
              rw [q1] at h
              exact h
            have K2 : Hid (∀ W : World, Calls Try.prog 93 #[.agg #[.int .i64 m, .int .i64 k]] W fun e w' => e = .returned (.bool true) ∧ Below W.heap.size W w') := Lib.hid fun W => by
              have h := spec_validRat (m) (k) W
              rw [q2] at h
              exact h
            have K3 : Hid (∀ W : World, Calls Try.prog 79 #[.int .i64 d, .int .i64 k] W fun e w' => e = .returned (.int .i64 (gcdI d k)) ∧ W = w') := Lib.hid fun W => by
              have h := spec_gcd (d) (k) W (by omega) (by omega) (by omega) (by omega)
              exact h
            have in0 : 0 ≤ iabs n := by unfold iabs; omega
            have in1 : iabs n ≤ 100000000000 := by unfold iabs; omega
            have im0 : 0 ≤ iabs m := by unfold iabs; omega
            have im1 : iabs m ≤ 100000000000 := by unfold iabs; omega
            obtain ⟨m1, m2⟩ := mul_bd (soD d k) k 20000000 20000000 (by omega) (by omega) (by omega) (by omega)
            have K4 : Hid (∀ W : World, Calls Try.prog 80 #[.int .i64 n] W fun e w' => e = .returned (.int .i64 (iabs n)) ∧ W = w') := Lib.hid fun W => by
              have h := spec_abs (n) W (by omega) (by omega)
              exact h
            have K5 : Hid (∀ W : World, Calls Try.prog 80 #[.int .i64 m] W fun e w' => e = .returned (.int .i64 (iabs m)) ∧ W = w') := Lib.hid fun W => by
              have h := spec_abs (m) W (by omega) (by omega)
              exact h
            clear q1 q2
            generalize gcdI d k = G at *
            generalize iabs n = N at *
            generalize iabs m = M at *
            generalize soD d k = D1 at *
            generalize soK d k = KQ at *
            have wr0 : IntKind.i64.wrap (D1) = D1 := IntWalk.i64_in _ (by omega)
            have wr1 : IntKind.i64.wrap (D1 * k) = D1 * k := IntWalk.i64_in _ (by omega)
            have wr2 : IntKind.i64.wrap (10000 * d) = 10000 * d := IntWalk.i64_in _ (by omega)
            have wr3 : IntKind.i64.wrap (10000 * k) = 10000 * k := IntWalk.i64_in _ (by omega)
            have v0 : D1 * k ≤ 20000000 := by omega
            have v1 : N ≤ 10000 * d := by omega
            have v2 : ¬ (M ≤ 10000 * k) := by omega
            have vb : decide (M ≤ 10000 * k) = false := decide_eq_false v2
            have gz : ¬ G = 0 := by omega
            clear e3
            go_enter Try.func71, Try.ntmps71
            go_wp2_with fail
            refine (K1.out _).mono ?_
            rintro e w1 ⟨rfl, b1⟩
            have s1 := b1.size
            try simp at s1
            have z1_0 : w.heap.size < w1.heap.size := by omega
            have k1_0_0 : w1.cell? ⟨w.heap.size, 0, none⟩ = some (.int .i64 (n)) := (b1.cell (p := ⟨w.heap.size, 0, none⟩) (by first | (simp; done) | (simp; omega) | omega)).trans (by first | with_reducible assumption | (simp [go_sem]; done) | (simp [go_sem, *]; done))
            have g1_0_0 : w1.frozen? ⟨w.heap.size, 0, none⟩ = false := (b1.frozen (p := ⟨w.heap.size, 0, none⟩) (by first | (simp; done) | (simp; omega) | omega)).trans (by first | with_reducible assumption | (simp [go_sem]; done) | (simp [go_sem, *]; done))
            have k1_0_1 : w1.cell? ⟨w.heap.size, 1, none⟩ = some (.int .i64 (d)) := (b1.cell (p := ⟨w.heap.size, 1, none⟩) (by first | (simp; done) | (simp; omega) | omega)).trans (by first | with_reducible assumption | (simp [go_sem]; done) | (simp [go_sem, *]; done))
            have g1_0_1 : w1.frozen? ⟨w.heap.size, 1, none⟩ = false := (b1.frozen (p := ⟨w.heap.size, 1, none⟩) (by first | (simp; done) | (simp; omega) | omega)).trans (by first | with_reducible assumption | (simp [go_sem]; done) | (simp [go_sem, *]; done))
            have k1_0_2 : w1.cell? ⟨w.heap.size, 2, none⟩ = some (.int .i64 (m)) := (b1.cell (p := ⟨w.heap.size, 2, none⟩) (by first | (simp; done) | (simp; omega) | omega)).trans (by first | with_reducible assumption | (simp [go_sem]; done) | (simp [go_sem, *]; done))
            have g1_0_2 : w1.frozen? ⟨w.heap.size, 2, none⟩ = false := (b1.frozen (p := ⟨w.heap.size, 2, none⟩) (by first | (simp; done) | (simp; omega) | omega)).trans (by first | with_reducible assumption | (simp [go_sem]; done) | (simp [go_sem, *]; done))
            have k1_0_3 : w1.cell? ⟨w.heap.size, 3, none⟩ = some (.int .i64 (k)) := (b1.cell (p := ⟨w.heap.size, 3, none⟩) (by first | (simp; done) | (simp; omega) | omega)).trans (by first | with_reducible assumption | (simp [go_sem]; done) | (simp [go_sem, *]; done))
            have g1_0_3 : w1.frozen? ⟨w.heap.size, 3, none⟩ = false := (b1.frozen (p := ⟨w.heap.size, 3, none⟩) (by first | (simp; done) | (simp; omega) | omega)).trans (by first | with_reducible assumption | (simp [go_sem]; done) | (simp [go_sem, *]; done))
            go_wp2_with fail
            refine (K2.out _).mono ?_
            rintro e w2 ⟨rfl, b2⟩
            have s2 := b2.size
            try simp at s2
            have z2_0 : w.heap.size < w2.heap.size := by omega
            have k2_0_0 : w2.cell? ⟨w.heap.size, 0, none⟩ = some (.int .i64 (n)) := (b2.cell (p := ⟨w.heap.size, 0, none⟩) (by first | (simp; done) | (simp; omega) | omega)).trans (by first | with_reducible assumption | (simp [go_sem]; done) | (simp [go_sem, *]; done))
            have g2_0_0 : w2.frozen? ⟨w.heap.size, 0, none⟩ = false := (b2.frozen (p := ⟨w.heap.size, 0, none⟩) (by first | (simp; done) | (simp; omega) | omega)).trans (by first | with_reducible assumption | (simp [go_sem]; done) | (simp [go_sem, *]; done))
            have k2_0_1 : w2.cell? ⟨w.heap.size, 1, none⟩ = some (.int .i64 (d)) := (b2.cell (p := ⟨w.heap.size, 1, none⟩) (by first | (simp; done) | (simp; omega) | omega)).trans (by first | with_reducible assumption | (simp [go_sem]; done) | (simp [go_sem, *]; done))
            have g2_0_1 : w2.frozen? ⟨w.heap.size, 1, none⟩ = false := (b2.frozen (p := ⟨w.heap.size, 1, none⟩) (by first | (simp; done) | (simp; omega) | omega)).trans (by first | with_reducible assumption | (simp [go_sem]; done) | (simp [go_sem, *]; done))
            have k2_0_2 : w2.cell? ⟨w.heap.size, 2, none⟩ = some (.int .i64 (m)) := (b2.cell (p := ⟨w.heap.size, 2, none⟩) (by first | (simp; done) | (simp; omega) | omega)).trans (by first | with_reducible assumption | (simp [go_sem]; done) | (simp [go_sem, *]; done))
            have g2_0_2 : w2.frozen? ⟨w.heap.size, 2, none⟩ = false := (b2.frozen (p := ⟨w.heap.size, 2, none⟩) (by first | (simp; done) | (simp; omega) | omega)).trans (by first | with_reducible assumption | (simp [go_sem]; done) | (simp [go_sem, *]; done))
            have k2_0_3 : w2.cell? ⟨w.heap.size, 3, none⟩ = some (.int .i64 (k)) := (b2.cell (p := ⟨w.heap.size, 3, none⟩) (by first | (simp; done) | (simp; omega) | omega)).trans (by first | with_reducible assumption | (simp [go_sem]; done) | (simp [go_sem, *]; done))
            have g2_0_3 : w2.frozen? ⟨w.heap.size, 3, none⟩ = false := (b2.frozen (p := ⟨w.heap.size, 3, none⟩) (by first | (simp; done) | (simp; omega) | omega)).trans (by first | with_reducible assumption | (simp [go_sem]; done) | (simp [go_sem, *]; done))
            clear k1_0_0 g1_0_0 k1_0_1 g1_0_1 k1_0_2 g1_0_2 k1_0_3 g1_0_3
            go_wp2
            have kc0 := cell_regrown (w := w2) (a := ⟨w.heap.size, 0, none⟩) (v := .int .i64 (n)) (by first | ((repeat (first | with_reducible assumption | with_reducible refine calloc ?_ _)); done) | (simp [go_sem]; done) | (simp [go_sem, *]; done))
            have kc1 := cell_regrown (w := w2) (a := ⟨w.heap.size, 1, none⟩) (v := .int .i64 (d)) (by first | ((repeat (first | with_reducible assumption | with_reducible refine calloc ?_ _)); done) | (simp [go_sem]; done) | (simp [go_sem, *]; done))
            have kc2 := cell_regrown (w := w2) (a := ⟨w.heap.size, 2, none⟩) (v := .int .i64 (m)) (by first | ((repeat (first | with_reducible assumption | with_reducible refine calloc ?_ _)); done) | (simp [go_sem]; done) | (simp [go_sem, *]; done))
            have kc3 := cell_regrown (w := w2) (a := ⟨w.heap.size, 3, none⟩) (v := .int .i64 (k)) (by first | ((repeat (first | with_reducible assumption | with_reducible refine calloc ?_ _)); done) | (simp [go_sem]; done) | (simp [go_sem, *]; done))
            refine wp_region_quiet_below (by kernel_rfl) (by kernel_rfl) ?_
            repeat (go_big_quiet_step ((first | (go_at_call 79; exact Calls.regrown_of (qb_same (K3.out _))) | (go_at_call 80; with_reducible exact Calls.regrown_of (qb_same (K4.out _))) | (go_at_call 80; with_reducible exact Calls.regrown_of (qb_same (K5.out _))))))
            refine wpQuiet_nil ?_
            intro w3 hw'
            have b3 : Below w2.heap.size w2 w3 := by
              obtain ⟨pp, rfl⟩ := hw'
              exact below_regrown _ _ _
            clear hw' kc0 kc1 kc2 kc3
            have s3 := b3.size
            try simp at s3
            have z3_0 : w.heap.size < w3.heap.size := by omega
            have k3_0_0 : w3.cell? ⟨w.heap.size, 0, none⟩ = some (.int .i64 (n)) := (b3.cell (p := ⟨w.heap.size, 0, none⟩) (by first | (simp; done) | (simp; omega) | omega)).trans (by first | with_reducible assumption | (simp [go_sem]; done) | (simp [go_sem, *]; done))
            have g3_0_0 : w3.frozen? ⟨w.heap.size, 0, none⟩ = false := (b3.frozen (p := ⟨w.heap.size, 0, none⟩) (by first | (simp; done) | (simp; omega) | omega)).trans (by first | with_reducible assumption | (simp [go_sem]; done) | (simp [go_sem, *]; done))
            have k3_0_1 : w3.cell? ⟨w.heap.size, 1, none⟩ = some (.int .i64 (d)) := (b3.cell (p := ⟨w.heap.size, 1, none⟩) (by first | (simp; done) | (simp; omega) | omega)).trans (by first | with_reducible assumption | (simp [go_sem]; done) | (simp [go_sem, *]; done))
            have g3_0_1 : w3.frozen? ⟨w.heap.size, 1, none⟩ = false := (b3.frozen (p := ⟨w.heap.size, 1, none⟩) (by first | (simp; done) | (simp; omega) | omega)).trans (by first | with_reducible assumption | (simp [go_sem]; done) | (simp [go_sem, *]; done))
            have k3_0_2 : w3.cell? ⟨w.heap.size, 2, none⟩ = some (.int .i64 (m)) := (b3.cell (p := ⟨w.heap.size, 2, none⟩) (by first | (simp; done) | (simp; omega) | omega)).trans (by first | with_reducible assumption | (simp [go_sem]; done) | (simp [go_sem, *]; done))
            have g3_0_2 : w3.frozen? ⟨w.heap.size, 2, none⟩ = false := (b3.frozen (p := ⟨w.heap.size, 2, none⟩) (by first | (simp; done) | (simp; omega) | omega)).trans (by first | with_reducible assumption | (simp [go_sem]; done) | (simp [go_sem, *]; done))
            have k3_0_3 : w3.cell? ⟨w.heap.size, 3, none⟩ = some (.int .i64 (k)) := (b3.cell (p := ⟨w.heap.size, 3, none⟩) (by first | (simp; done) | (simp; omega) | omega)).trans (by first | with_reducible assumption | (simp [go_sem]; done) | (simp [go_sem, *]; done))
            have g3_0_3 : w3.frozen? ⟨w.heap.size, 3, none⟩ = false := (b3.frozen (p := ⟨w.heap.size, 3, none⟩) (by first | (simp; done) | (simp; omega) | omega)).trans (by first | with_reducible assumption | (simp [go_sem]; done) | (simp [go_sem, *]; done))
            clear k2_0_0 g2_0_0 k2_0_1 g2_0_1 k2_0_2 g2_0_2 k2_0_3 g2_0_3
            go_wp2
            go_ret
            exact ⟨rfl, (by (repeat (first | with_reducible exact Below.refl _ _ | with_reducible refine bl_alloc ?_ _ | with_reducible refine bl_drew ?_ | with_reducible refine bl_set ?_ (by first | (simp; done) | (simp; omega)) _ | with_reducible refine bl_call (by assumption) ?_)))⟩
        · have hr : soOk n d m k = false := by simp [soOk, q1, q2, q3, q4]
          rw [hr]
          clear hr
          obtain ⟨⟨ln, un⟩, ⟨ld, ud⟩⟩ := ratB_true q1
          obtain ⟨⟨lm, um⟩, ⟨lk, uk⟩⟩ := ratB_true q2
          obtain ⟨g1, gl, e1, e2, ⟨p1, p2⟩, ⟨r1, r2⟩, e3⟩ := so_div d k ld lk
          have pg1 : d / gcdI d k = soD d k := rfl
          have pg2 : k / gcdI d k = soK d k := rfl
          have K1 : Hid (∀ W : World, Calls Try.prog 93 #[.agg #[.int .i64 n, .int .i64 d]] W fun e w' => e = .returned (.bool true) ∧ Below W.heap.size W w') := Lib.hid fun W => by
            have h := spec_validRat (n) (d) W
            rw [q1] at h
            exact h
          have K2 : Hid (∀ W : World, Calls Try.prog 93 #[.agg #[.int .i64 m, .int .i64 k]] W fun e w' => e = .returned (.bool true) ∧ Below W.heap.size W w') := Lib.hid fun W => by
            have h := spec_validRat (m) (k) W
            rw [q2] at h
            exact h
          have K3 : Hid (∀ W : World, Calls Try.prog 79 #[.int .i64 d, .int .i64 k] W fun e w' => e = .returned (.int .i64 (gcdI d k)) ∧ W = w') := Lib.hid fun W => by
            have h := spec_gcd (d) (k) W (by omega) (by omega) (by omega) (by omega)
            exact h
          have in0 : 0 ≤ iabs n := by unfold iabs; omega
          have in1 : iabs n ≤ 100000000000 := by unfold iabs; omega
          have im0 : 0 ≤ iabs m := by unfold iabs; omega
          have im1 : iabs m ≤ 100000000000 := by unfold iabs; omega
          obtain ⟨m1, m2⟩ := mul_bd (soD d k) k 20000000 20000000 (by omega) (by omega) (by omega) (by omega)
          have K4 : Hid (∀ W : World, Calls Try.prog 80 #[.int .i64 n] W fun e w' => e = .returned (.int .i64 (iabs n)) ∧ W = w') := Lib.hid fun W => by
            have h := spec_abs (n) W (by omega) (by omega)
            exact h
          clear q1 q2
          generalize gcdI d k = G at *
          generalize iabs n = N at *
          generalize iabs m = M at *
          generalize soD d k = D1 at *
          generalize soK d k = KQ at *
          have wr0 : IntKind.i64.wrap (D1) = D1 := IntWalk.i64_in _ (by omega)
          have wr1 : IntKind.i64.wrap (D1 * k) = D1 * k := IntWalk.i64_in _ (by omega)
          have wr2 : IntKind.i64.wrap (10000 * d) = 10000 * d := IntWalk.i64_in _ (by omega)
          have wr3 : IntKind.i64.wrap (10000 * k) = 10000 * k := IntWalk.i64_in _ (by omega)
          have v0 : D1 * k ≤ 20000000 := by omega
          have v1 : ¬ (N ≤ 10000 * d) := by omega
          have vb : decide (N ≤ 10000 * d) = false := decide_eq_false v1
          have gz : ¬ G = 0 := by omega
          clear e3
          go_enter Try.func71, Try.ntmps71
          go_wp2_with fail
          refine (K1.out _).mono ?_
          rintro e w1 ⟨rfl, b1⟩
          have s1 := b1.size
          try simp at s1
          have z1_0 : w.heap.size < w1.heap.size := by omega
          have k1_0_0 : w1.cell? ⟨w.heap.size, 0, none⟩ = some (.int .i64 (n)) := (b1.cell (p := ⟨w.heap.size, 0, none⟩) (by first | (simp; done) | (simp; omega) | omega)).trans (by first | with_reducible assumption | (simp [go_sem]; done) | (simp [go_sem, *]; done))
          have g1_0_0 : w1.frozen? ⟨w.heap.size, 0, none⟩ = false := (b1.frozen (p := ⟨w.heap.size, 0, none⟩) (by first | (simp; done) | (simp; omega) | omega)).trans (by first | with_reducible assumption | (simp [go_sem]; done) | (simp [go_sem, *]; done))
          have k1_0_1 : w1.cell? ⟨w.heap.size, 1, none⟩ = some (.int .i64 (d)) := (b1.cell (p := ⟨w.heap.size, 1, none⟩) (by first | (simp; done) | (simp; omega) | omega)).trans (by first | with_reducible assumption | (simp [go_sem]; done) | (simp [go_sem, *]; done))
          have g1_0_1 : w1.frozen? ⟨w.heap.size, 1, none⟩ = false := (b1.frozen (p := ⟨w.heap.size, 1, none⟩) (by first | (simp; done) | (simp; omega) | omega)).trans (by first | with_reducible assumption | (simp [go_sem]; done) | (simp [go_sem, *]; done))
          have k1_0_2 : w1.cell? ⟨w.heap.size, 2, none⟩ = some (.int .i64 (m)) := (b1.cell (p := ⟨w.heap.size, 2, none⟩) (by first | (simp; done) | (simp; omega) | omega)).trans (by first | with_reducible assumption | (simp [go_sem]; done) | (simp [go_sem, *]; done))
          have g1_0_2 : w1.frozen? ⟨w.heap.size, 2, none⟩ = false := (b1.frozen (p := ⟨w.heap.size, 2, none⟩) (by first | (simp; done) | (simp; omega) | omega)).trans (by first | with_reducible assumption | (simp [go_sem]; done) | (simp [go_sem, *]; done))
          have k1_0_3 : w1.cell? ⟨w.heap.size, 3, none⟩ = some (.int .i64 (k)) := (b1.cell (p := ⟨w.heap.size, 3, none⟩) (by first | (simp; done) | (simp; omega) | omega)).trans (by first | with_reducible assumption | (simp [go_sem]; done) | (simp [go_sem, *]; done))
          have g1_0_3 : w1.frozen? ⟨w.heap.size, 3, none⟩ = false := (b1.frozen (p := ⟨w.heap.size, 3, none⟩) (by first | (simp; done) | (simp; omega) | omega)).trans (by first | with_reducible assumption | (simp [go_sem]; done) | (simp [go_sem, *]; done))
          go_wp2_with fail
          refine (K2.out _).mono ?_
          rintro e w2 ⟨rfl, b2⟩
          have s2 := b2.size
          try simp at s2
          have z2_0 : w.heap.size < w2.heap.size := by omega
          have k2_0_0 : w2.cell? ⟨w.heap.size, 0, none⟩ = some (.int .i64 (n)) := (b2.cell (p := ⟨w.heap.size, 0, none⟩) (by first | (simp; done) | (simp; omega) | omega)).trans (by first | with_reducible assumption | (simp [go_sem]; done) | (simp [go_sem, *]; done))
          have g2_0_0 : w2.frozen? ⟨w.heap.size, 0, none⟩ = false := (b2.frozen (p := ⟨w.heap.size, 0, none⟩) (by first | (simp; done) | (simp; omega) | omega)).trans (by first | with_reducible assumption | (simp [go_sem]; done) | (simp [go_sem, *]; done))
          have k2_0_1 : w2.cell? ⟨w.heap.size, 1, none⟩ = some (.int .i64 (d)) := (b2.cell (p := ⟨w.heap.size, 1, none⟩) (by first | (simp; done) | (simp; omega) | omega)).trans (by first | with_reducible assumption | (simp [go_sem]; done) | (simp [go_sem, *]; done))
          have g2_0_1 : w2.frozen? ⟨w.heap.size, 1, none⟩ = false := (b2.frozen (p := ⟨w.heap.size, 1, none⟩) (by first | (simp; done) | (simp; omega) | omega)).trans (by first | with_reducible assumption | (simp [go_sem]; done) | (simp [go_sem, *]; done))
          have k2_0_2 : w2.cell? ⟨w.heap.size, 2, none⟩ = some (.int .i64 (m)) := (b2.cell (p := ⟨w.heap.size, 2, none⟩) (by first | (simp; done) | (simp; omega) | omega)).trans (by first | with_reducible assumption | (simp [go_sem]; done) | (simp [go_sem, *]; done))
          have g2_0_2 : w2.frozen? ⟨w.heap.size, 2, none⟩ = false := (b2.frozen (p := ⟨w.heap.size, 2, none⟩) (by first | (simp; done) | (simp; omega) | omega)).trans (by first | with_reducible assumption | (simp [go_sem]; done) | (simp [go_sem, *]; done))
          have k2_0_3 : w2.cell? ⟨w.heap.size, 3, none⟩ = some (.int .i64 (k)) := (b2.cell (p := ⟨w.heap.size, 3, none⟩) (by first | (simp; done) | (simp; omega) | omega)).trans (by first | with_reducible assumption | (simp [go_sem]; done) | (simp [go_sem, *]; done))
          have g2_0_3 : w2.frozen? ⟨w.heap.size, 3, none⟩ = false := (b2.frozen (p := ⟨w.heap.size, 3, none⟩) (by first | (simp; done) | (simp; omega) | omega)).trans (by first | with_reducible assumption | (simp [go_sem]; done) | (simp [go_sem, *]; done))
          clear k1_0_0 g1_0_0 k1_0_1 g1_0_1 k1_0_2 g1_0_2 k1_0_3 g1_0_3
          go_wp2
          have kc0 := cell_regrown (w := w2) (a := ⟨w.heap.size, 0, none⟩) (v := .int .i64 (n)) (by first | ((repeat (first | with_reducible assumption | with_reducible refine calloc ?_ _)); done) | (simp [go_sem]; done) | (simp [go_sem, *]; done))
          have kc1 := cell_regrown (w := w2) (a := ⟨w.heap.size, 1, none⟩) (v := .int .i64 (d)) (by first | ((repeat (first | with_reducible assumption | with_reducible refine calloc ?_ _)); done) | (simp [go_sem]; done) | (simp [go_sem, *]; done))
          have kc2 := cell_regrown (w := w2) (a := ⟨w.heap.size, 2, none⟩) (v := .int .i64 (m)) (by first | ((repeat (first | with_reducible assumption | with_reducible refine calloc ?_ _)); done) | (simp [go_sem]; done) | (simp [go_sem, *]; done))
          have kc3 := cell_regrown (w := w2) (a := ⟨w.heap.size, 3, none⟩) (v := .int .i64 (k)) (by first | ((repeat (first | with_reducible assumption | with_reducible refine calloc ?_ _)); done) | (simp [go_sem]; done) | (simp [go_sem, *]; done))
          refine wp_region_quiet_below (by kernel_rfl) (by kernel_rfl) ?_
          repeat (go_big_quiet_step ((first | (go_at_call 79; exact Calls.regrown_of (qb_same (K3.out _))) | (go_at_call 80; exact Calls.regrown_of (qb_same (K4.out _))))))
          refine wpQuiet_nil ?_
          intro w3 hw'
          have b3 : Below w2.heap.size w2 w3 := by
            obtain ⟨pp, rfl⟩ := hw'
            exact below_regrown _ _ _
          clear hw' kc0 kc1 kc2 kc3
          have s3 := b3.size
          try simp at s3
          have z3_0 : w.heap.size < w3.heap.size := by omega
          have k3_0_0 : w3.cell? ⟨w.heap.size, 0, none⟩ = some (.int .i64 (n)) := (b3.cell (p := ⟨w.heap.size, 0, none⟩) (by first | (simp; done) | (simp; omega) | omega)).trans (by first | with_reducible assumption | (simp [go_sem]; done) | (simp [go_sem, *]; done))
          have g3_0_0 : w3.frozen? ⟨w.heap.size, 0, none⟩ = false := (b3.frozen (p := ⟨w.heap.size, 0, none⟩) (by first | (simp; done) | (simp; omega) | omega)).trans (by first | with_reducible assumption | (simp [go_sem]; done) | (simp [go_sem, *]; done))
          have k3_0_1 : w3.cell? ⟨w.heap.size, 1, none⟩ = some (.int .i64 (d)) := (b3.cell (p := ⟨w.heap.size, 1, none⟩) (by first | (simp; done) | (simp; omega) | omega)).trans (by first | with_reducible assumption | (simp [go_sem]; done) | (simp [go_sem, *]; done))
          have g3_0_1 : w3.frozen? ⟨w.heap.size, 1, none⟩ = false := (b3.frozen (p := ⟨w.heap.size, 1, none⟩) (by first | (simp; done) | (simp; omega) | omega)).trans (by first | with_reducible assumption | (simp [go_sem]; done) | (simp [go_sem, *]; done))
          have k3_0_2 : w3.cell? ⟨w.heap.size, 2, none⟩ = some (.int .i64 (m)) := (b3.cell (p := ⟨w.heap.size, 2, none⟩) (by first | (simp; done) | (simp; omega) | omega)).trans (by first | with_reducible assumption | (simp [go_sem]; done) | (simp [go_sem, *]; done))
          have g3_0_2 : w3.frozen? ⟨w.heap.size, 2, none⟩ = false := (b3.frozen (p := ⟨w.heap.size, 2, none⟩) (by first | (simp; done) | (simp; omega) | omega)).trans (by first | with_reducible assumption | (simp [go_sem]; done) | (simp [go_sem, *]; done))
          have k3_0_3 : w3.cell? ⟨w.heap.size, 3, none⟩ = some (.int .i64 (k)) := (b3.cell (p := ⟨w.heap.size, 3, none⟩) (by first | (simp; done) | (simp; omega) | omega)).trans (by first | with_reducible assumption | (simp [go_sem]; done) | (simp [go_sem, *]; done))
          have g3_0_3 : w3.frozen? ⟨w.heap.size, 3, none⟩ = false := (b3.frozen (p := ⟨w.heap.size, 3, none⟩) (by first | (simp; done) | (simp; omega) | omega)).trans (by first | with_reducible assumption | (simp [go_sem]; done) | (simp [go_sem, *]; done))
          clear k2_0_0 g2_0_0 k2_0_1 g2_0_1 k2_0_2 g2_0_2 k2_0_3 g2_0_3
          go_wp2
          go_ret
          exact ⟨rfl, (by (repeat (first | with_reducible exact Below.refl _ _ | with_reducible refine bl_alloc ?_ _ | with_reducible refine bl_drew ?_ | with_reducible refine bl_set ?_ (by first | (simp; done) | (simp; omega)) _ | with_reducible refine bl_call (by assumption) ?_)))⟩
      · have hr : soOk n d m k = false := by simp [soOk, q1, q2, q3]
        rw [hr]
        clear hr
        obtain ⟨⟨ln, un⟩, ⟨ld, ud⟩⟩ := ratB_true q1
        obtain ⟨⟨lm, um⟩, ⟨lk, uk⟩⟩ := ratB_true q2
        obtain ⟨g1, gl, e1, e2, ⟨p1, p2⟩, ⟨r1, r2⟩, e3⟩ := so_div d k ld lk
        have pg1 : d / gcdI d k = soD d k := rfl
        have pg2 : k / gcdI d k = soK d k := rfl
        have K1 : Hid (∀ W : World, Calls Try.prog 93 #[.agg #[.int .i64 n, .int .i64 d]] W fun e w' => e = .returned (.bool true) ∧ Below W.heap.size W w') := Lib.hid fun W => by
          have h := spec_validRat (n) (d) W
          rw [q1] at h
          exact h
        have K2 : Hid (∀ W : World, Calls Try.prog 93 #[.agg #[.int .i64 m, .int .i64 k]] W fun e w' => e = .returned (.bool true) ∧ Below W.heap.size W w') := Lib.hid fun W => by
          have h := spec_validRat (m) (k) W
          rw [q2] at h
          exact h
        have K3 : Hid (∀ W : World, Calls Try.prog 79 #[.int .i64 d, .int .i64 k] W fun e w' => e = .returned (.int .i64 (gcdI d k)) ∧ W = w') := Lib.hid fun W => by
          have h := spec_gcd (d) (k) W (by omega) (by omega) (by omega) (by omega)
          exact h
        have in0 : 0 ≤ iabs n := by unfold iabs; omega
        have in1 : iabs n ≤ 100000000000 := by unfold iabs; omega
        have im0 : 0 ≤ iabs m := by unfold iabs; omega
        have im1 : iabs m ≤ 100000000000 := by unfold iabs; omega
        obtain ⟨m1, m2⟩ := mul_bd (soD d k) k 20000000 20000000 (by omega) (by omega) (by omega) (by omega)
        clear q1 q2
        generalize gcdI d k = G at *
        generalize iabs n = N at *
        generalize iabs m = M at *
        generalize soD d k = D1 at *
        generalize soK d k = KQ at *
        have wr0 : IntKind.i64.wrap (D1) = D1 := IntWalk.i64_in _ (by omega)
        have wr1 : IntKind.i64.wrap (D1 * k) = D1 * k := IntWalk.i64_in _ (by omega)
        have wr2 : IntKind.i64.wrap (10000 * d) = 10000 * d := IntWalk.i64_in _ (by omega)
        have wr3 : IntKind.i64.wrap (10000 * k) = 10000 * k := IntWalk.i64_in _ (by omega)
        have v0 : ¬ (D1 * k ≤ 20000000) := by omega
        have vb : decide (D1 * k ≤ 20000000) = false := decide_eq_false v0
        have gz : ¬ G = 0 := by omega
        clear e3
        go_enter Try.func71, Try.ntmps71
        go_wp2_with fail
        refine (K1.out _).mono ?_
        rintro e w1 ⟨rfl, b1⟩
        have s1 := b1.size
        try simp at s1
        have z1_0 : w.heap.size < w1.heap.size := by omega
        have k1_0_0 : w1.cell? ⟨w.heap.size, 0, none⟩ = some (.int .i64 (n)) := (b1.cell (p := ⟨w.heap.size, 0, none⟩) (by first | (simp; done) | (simp; omega) | omega)).trans (by first | with_reducible assumption | (simp [go_sem]; done) | (simp [go_sem, *]; done))
        have g1_0_0 : w1.frozen? ⟨w.heap.size, 0, none⟩ = false := (b1.frozen (p := ⟨w.heap.size, 0, none⟩) (by first | (simp; done) | (simp; omega) | omega)).trans (by first | with_reducible assumption | (simp [go_sem]; done) | (simp [go_sem, *]; done))
        have k1_0_1 : w1.cell? ⟨w.heap.size, 1, none⟩ = some (.int .i64 (d)) := (b1.cell (p := ⟨w.heap.size, 1, none⟩) (by first | (simp; done) | (simp; omega) | omega)).trans (by first | with_reducible assumption | (simp [go_sem]; done) | (simp [go_sem, *]; done))
        have g1_0_1 : w1.frozen? ⟨w.heap.size, 1, none⟩ = false := (b1.frozen (p := ⟨w.heap.size, 1, none⟩) (by first | (simp; done) | (simp; omega) | omega)).trans (by first | with_reducible assumption | (simp [go_sem]; done) | (simp [go_sem, *]; done))
        have k1_0_2 : w1.cell? ⟨w.heap.size, 2, none⟩ = some (.int .i64 (m)) := (b1.cell (p := ⟨w.heap.size, 2, none⟩) (by first | (simp; done) | (simp; omega) | omega)).trans (by first | with_reducible assumption | (simp [go_sem]; done) | (simp [go_sem, *]; done))
        have g1_0_2 : w1.frozen? ⟨w.heap.size, 2, none⟩ = false := (b1.frozen (p := ⟨w.heap.size, 2, none⟩) (by first | (simp; done) | (simp; omega) | omega)).trans (by first | with_reducible assumption | (simp [go_sem]; done) | (simp [go_sem, *]; done))
        have k1_0_3 : w1.cell? ⟨w.heap.size, 3, none⟩ = some (.int .i64 (k)) := (b1.cell (p := ⟨w.heap.size, 3, none⟩) (by first | (simp; done) | (simp; omega) | omega)).trans (by first | with_reducible assumption | (simp [go_sem]; done) | (simp [go_sem, *]; done))
        have g1_0_3 : w1.frozen? ⟨w.heap.size, 3, none⟩ = false := (b1.frozen (p := ⟨w.heap.size, 3, none⟩) (by first | (simp; done) | (simp; omega) | omega)).trans (by first | with_reducible assumption | (simp [go_sem]; done) | (simp [go_sem, *]; done))
        go_wp2_with fail
        refine (K2.out _).mono ?_
        rintro e w2 ⟨rfl, b2⟩
        have s2 := b2.size
        try simp at s2
        have z2_0 : w.heap.size < w2.heap.size := by omega
        have k2_0_0 : w2.cell? ⟨w.heap.size, 0, none⟩ = some (.int .i64 (n)) := (b2.cell (p := ⟨w.heap.size, 0, none⟩) (by first | (simp; done) | (simp; omega) | omega)).trans (by first | with_reducible assumption | (simp [go_sem]; done) | (simp [go_sem, *]; done))
        have g2_0_0 : w2.frozen? ⟨w.heap.size, 0, none⟩ = false := (b2.frozen (p := ⟨w.heap.size, 0, none⟩) (by first | (simp; done) | (simp; omega) | omega)).trans (by first | with_reducible assumption | (simp [go_sem]; done) | (simp [go_sem, *]; done))
        have k2_0_1 : w2.cell? ⟨w.heap.size, 1, none⟩ = some (.int .i64 (d)) := (b2.cell (p := ⟨w.heap.size, 1, none⟩) (by first | (simp; done) | (simp; omega) | omega)).trans (by first | with_reducible assumption | (simp [go_sem]; done) | (simp [go_sem, *]; done))
        have g2_0_1 : w2.frozen? ⟨w.heap.size, 1, none⟩ = false := (b2.frozen (p := ⟨w.heap.size, 1, none⟩) (by first | (simp; done) | (simp; omega) | omega)).trans (by first | with_reducible assumption | (simp [go_sem]; done) | (simp [go_sem, *]; done))
        have k2_0_2 : w2.cell? ⟨w.heap.size, 2, none⟩ = some (.int .i64 (m)) := (b2.cell (p := ⟨w.heap.size, 2, none⟩) (by first | (simp; done) | (simp; omega) | omega)).trans (by first | with_reducible assumption | (simp [go_sem]; done) | (simp [go_sem, *]; done))
        have g2_0_2 : w2.frozen? ⟨w.heap.size, 2, none⟩ = false := (b2.frozen (p := ⟨w.heap.size, 2, none⟩) (by first | (simp; done) | (simp; omega) | omega)).trans (by first | with_reducible assumption | (simp [go_sem]; done) | (simp [go_sem, *]; done))
        have k2_0_3 : w2.cell? ⟨w.heap.size, 3, none⟩ = some (.int .i64 (k)) := (b2.cell (p := ⟨w.heap.size, 3, none⟩) (by first | (simp; done) | (simp; omega) | omega)).trans (by first | with_reducible assumption | (simp [go_sem]; done) | (simp [go_sem, *]; done))
        have g2_0_3 : w2.frozen? ⟨w.heap.size, 3, none⟩ = false := (b2.frozen (p := ⟨w.heap.size, 3, none⟩) (by first | (simp; done) | (simp; omega) | omega)).trans (by first | with_reducible assumption | (simp [go_sem]; done) | (simp [go_sem, *]; done))
        clear k1_0_0 g1_0_0 k1_0_1 g1_0_1 k1_0_2 g1_0_2 k1_0_3 g1_0_3
        go_wp2
        have kc0 := cell_regrown (w := w2) (a := ⟨w.heap.size, 0, none⟩) (v := .int .i64 (n)) (by first | ((repeat (first | with_reducible assumption | with_reducible refine calloc ?_ _)); done) | (simp [go_sem]; done) | (simp [go_sem, *]; done))
        have kc1 := cell_regrown (w := w2) (a := ⟨w.heap.size, 1, none⟩) (v := .int .i64 (d)) (by first | ((repeat (first | with_reducible assumption | with_reducible refine calloc ?_ _)); done) | (simp [go_sem]; done) | (simp [go_sem, *]; done))
        have kc2 := cell_regrown (w := w2) (a := ⟨w.heap.size, 2, none⟩) (v := .int .i64 (m)) (by first | ((repeat (first | with_reducible assumption | with_reducible refine calloc ?_ _)); done) | (simp [go_sem]; done) | (simp [go_sem, *]; done))
        have kc3 := cell_regrown (w := w2) (a := ⟨w.heap.size, 3, none⟩) (v := .int .i64 (k)) (by first | ((repeat (first | with_reducible assumption | with_reducible refine calloc ?_ _)); done) | (simp [go_sem]; done) | (simp [go_sem, *]; done))
        refine wp_region_quiet_below (by kernel_rfl) (by kernel_rfl) ?_
        repeat (go_big_quiet_step ((first | (go_at_call 79; exact Calls.regrown_of (qb_same (K3.out _))))))
        refine wpQuiet_nil ?_
        intro w3 hw'
        have b3 : Below w2.heap.size w2 w3 := by
          obtain ⟨pp, rfl⟩ := hw'
          exact below_regrown _ _ _
        clear hw' kc0 kc1 kc2 kc3
        have s3 := b3.size
        try simp at s3
        have z3_0 : w.heap.size < w3.heap.size := by omega
        have k3_0_0 : w3.cell? ⟨w.heap.size, 0, none⟩ = some (.int .i64 (n)) := (b3.cell (p := ⟨w.heap.size, 0, none⟩) (by first | (simp; done) | (simp; omega) | omega)).trans (by first | with_reducible assumption | (simp [go_sem]; done) | (simp [go_sem, *]; done))
        have g3_0_0 : w3.frozen? ⟨w.heap.size, 0, none⟩ = false := (b3.frozen (p := ⟨w.heap.size, 0, none⟩) (by first | (simp; done) | (simp; omega) | omega)).trans (by first | with_reducible assumption | (simp [go_sem]; done) | (simp [go_sem, *]; done))
        have k3_0_1 : w3.cell? ⟨w.heap.size, 1, none⟩ = some (.int .i64 (d)) := (b3.cell (p := ⟨w.heap.size, 1, none⟩) (by first | (simp; done) | (simp; omega) | omega)).trans (by first | with_reducible assumption | (simp [go_sem]; done) | (simp [go_sem, *]; done))
        have g3_0_1 : w3.frozen? ⟨w.heap.size, 1, none⟩ = false := (b3.frozen (p := ⟨w.heap.size, 1, none⟩) (by first | (simp; done) | (simp; omega) | omega)).trans (by first | with_reducible assumption | (simp [go_sem]; done) | (simp [go_sem, *]; done))
        have k3_0_2 : w3.cell? ⟨w.heap.size, 2, none⟩ = some (.int .i64 (m)) := (b3.cell (p := ⟨w.heap.size, 2, none⟩) (by first | (simp; done) | (simp; omega) | omega)).trans (by first | with_reducible assumption | (simp [go_sem]; done) | (simp [go_sem, *]; done))
        have g3_0_2 : w3.frozen? ⟨w.heap.size, 2, none⟩ = false := (b3.frozen (p := ⟨w.heap.size, 2, none⟩) (by first | (simp; done) | (simp; omega) | omega)).trans (by first | with_reducible assumption | (simp [go_sem]; done) | (simp [go_sem, *]; done))
        have k3_0_3 : w3.cell? ⟨w.heap.size, 3, none⟩ = some (.int .i64 (k)) := (b3.cell (p := ⟨w.heap.size, 3, none⟩) (by first | (simp; done) | (simp; omega) | omega)).trans (by first | with_reducible assumption | (simp [go_sem]; done) | (simp [go_sem, *]; done))
        have g3_0_3 : w3.frozen? ⟨w.heap.size, 3, none⟩ = false := (b3.frozen (p := ⟨w.heap.size, 3, none⟩) (by first | (simp; done) | (simp; omega) | omega)).trans (by first | with_reducible assumption | (simp [go_sem]; done) | (simp [go_sem, *]; done))
        clear k2_0_0 g2_0_0 k2_0_1 g2_0_1 k2_0_2 g2_0_2 k2_0_3 g2_0_3
        go_wp2
        go_ret
        exact ⟨rfl, (by (repeat (first | with_reducible exact Below.refl _ _ | with_reducible refine bl_alloc ?_ _ | with_reducible refine bl_drew ?_ | with_reducible refine bl_set ?_ (by first | (simp; done) | (simp; omega)) _ | with_reducible refine bl_call (by assumption) ?_)))⟩

end Go.Proofs.Ytgnjmcfkehgdfaa
