/- FnInvertMatrix returns true for every argument, and leaves its arguments as they were. No conditions. -/
import Derived.Test.YtkhocfoggjdccaaFrame
import Derived.Test.YtkhocfoggjdccaaRdr9
import Derived.Test.YtkhocfoggjdccaaB6
import Derived.Test.YtkhocfoggjdccaaB7
import Derived.Test.YtkhocfoggjdccaaB8
import Derived.Test.YtkhocfoggjdccaaPlainQ6
namespace Go.Proofs.Ytkhocfoggjdccaa
open Go.RowKit
set_option linter.unusedVariables false

open Go.ChangeShapes Go.WideShapes Go.ChangeAt
namespace FnInvertMatrix

open Go.Sort
set_option maxRecDepth 100000 in
set_option maxHeartbeats 8000000 in
theorem walk (a : Option Addr) (n c : Nat) (w : World) (hs : BytesOf w.heap.size w a n) (hc : n ≤ c) (hc2 : c ≤ 9223372036854775807) :
    Calls Try.prog 11 #[.slice a n c] w fun e w' => e = .returned (.bool true) ∧ Below w.heap.size w w' := by
  by_cases hn : n ≤ 1048576
  · have hnz : ¬ (1048576 : Int) < (n : Int) := by omega
    have HS := Lib.hid hs
    clear hs
    go_enter Try.func11, Try.ntmps11
    go_wp2_with fail
    refine (rdr_DrawInvertMatrix w.heap.size a n c w (Nat.le_refl _) HS.out hc hc2).mono ?_
    rintro e w1 ⟨x, y, z, u, rfl, ⟨lx, ux⟩, ⟨ly, uy⟩, ⟨lz, uz⟩, ⟨lu, uu⟩, b1⟩
    have s1 := b1.size
    try simp at s1
    cases hv : matB x y z u with
    | false =>
      have hi : invB x y z u = false := by simp [invB, hv]
      have d0 : DetF x y z u = 0 := by simp [DetF, hv]
      have eA : InA x y z u = 0 := by simp [InA, hi]
      have eB : InB x y z u = 0 := by simp [InB, hi]
      have eC : InC x y z u = 0 := by simp [InC, hi]
      have eD : InD x y z u = 0 := by simp [InD, hi]
      have K1 : Hid (∀ W : World, Calls Try.prog 36 #[.agg #[.int .i64 x, .int .i64 y, .int .i64 z, .int .i64 u]] W fun e w' => e = .returned (.tuple #[.agg #[.int .i64 0, .int .i64 0, .int .i64 0, .int .i64 0], .bool false]) ∧ Below W.heap.size W w') := Lib.hid fun W => by
        have h := impl_InvertMatrix (x) (y) (z) (u) W
        rw [eA, eB, eC, eD, hi] at h
        exact h
      have K2 : Hid (∀ W : World, Calls Try.prog 37 #[.agg #[.int .i64 x, .int .i64 y, .int .i64 z, .int .i64 u]] W fun e w' => e = .returned (.tuple #[.agg #[.int .i64 0, .int .i64 0, .int .i64 0, .int .i64 0], .bool false]) ∧ Below W.heap.size W w') := Lib.hid fun W => by
        have h := spec_InvertMatrix (x) (y) (z) (u) W
        rw [eA, eB, eC, eD, hi] at h
        exact h
      have K3 : Hid (∀ W : World, Calls Try.prog 34 #[.agg #[.int .i64 x, .int .i64 y, .int .i64 z, .int .i64 u]] W fun e w' => e = .returned (.int .i64 0) ∧ Below W.heap.size W w') := Lib.hid fun W => by
        have h := impl_Determinant (x) (y) (z) (u) W
        rw [d0] at h
        exact h
      clear eA eB eC eD hi d0 hv
      go_wp2_with fail
      refine (K1.out _).mono ?_
      rintro e w2 ⟨rfl, b2⟩
      have s2 := b2.size
      try simp at s2
      have z2_0 : w1.heap.size < w2.heap.size := by omega
      have k2_0_0 : w2.cell? ⟨w1.heap.size, 0, none⟩ = some (.int .i64 (x)) := (b2.cell (p := ⟨w1.heap.size, 0, none⟩) (by first | (simp; done) | (simp; omega) | omega)).trans (by first | with_reducible assumption | (simp [go_sem]; done) | (simp [go_sem, *]; done))
      have g2_0_0 : w2.frozen? ⟨w1.heap.size, 0, none⟩ = false := (b2.frozen (p := ⟨w1.heap.size, 0, none⟩) (by first | (simp; done) | (simp; omega) | omega)).trans (by first | with_reducible assumption | (simp [go_sem]; done) | (simp [go_sem, *]; done))
      have k2_0_1 : w2.cell? ⟨w1.heap.size, 1, none⟩ = some (.int .i64 (y)) := (b2.cell (p := ⟨w1.heap.size, 1, none⟩) (by first | (simp; done) | (simp; omega) | omega)).trans (by first | with_reducible assumption | (simp [go_sem]; done) | (simp [go_sem, *]; done))
      have g2_0_1 : w2.frozen? ⟨w1.heap.size, 1, none⟩ = false := (b2.frozen (p := ⟨w1.heap.size, 1, none⟩) (by first | (simp; done) | (simp; omega) | omega)).trans (by first | with_reducible assumption | (simp [go_sem]; done) | (simp [go_sem, *]; done))
      have k2_0_2 : w2.cell? ⟨w1.heap.size, 2, none⟩ = some (.int .i64 (z)) := (b2.cell (p := ⟨w1.heap.size, 2, none⟩) (by first | (simp; done) | (simp; omega) | omega)).trans (by first | with_reducible assumption | (simp [go_sem]; done) | (simp [go_sem, *]; done))
      have g2_0_2 : w2.frozen? ⟨w1.heap.size, 2, none⟩ = false := (b2.frozen (p := ⟨w1.heap.size, 2, none⟩) (by first | (simp; done) | (simp; omega) | omega)).trans (by first | with_reducible assumption | (simp [go_sem]; done) | (simp [go_sem, *]; done))
      have k2_0_3 : w2.cell? ⟨w1.heap.size, 3, none⟩ = some (.int .i64 (u)) := (b2.cell (p := ⟨w1.heap.size, 3, none⟩) (by first | (simp; done) | (simp; omega) | omega)).trans (by first | with_reducible assumption | (simp [go_sem]; done) | (simp [go_sem, *]; done))
      have g2_0_3 : w2.frozen? ⟨w1.heap.size, 3, none⟩ = false := (b2.frozen (p := ⟨w1.heap.size, 3, none⟩) (by first | (simp; done) | (simp; omega) | omega)).trans (by first | with_reducible assumption | (simp [go_sem]; done) | (simp [go_sem, *]; done))
      go_wp2_with fail
      refine (K2.out _).mono ?_
      rintro e w3 ⟨rfl, b3⟩
      have s3 := b3.size
      try simp at s3
      have z3_0 : w1.heap.size < w3.heap.size := by omega
      have k3_0_0 : w3.cell? ⟨w1.heap.size, 0, none⟩ = some (.int .i64 (x)) := (b3.cell (p := ⟨w1.heap.size, 0, none⟩) (by first | (simp; done) | (simp; omega) | omega)).trans (by first | with_reducible assumption | (simp [go_sem]; done) | (simp [go_sem, *]; done))
      have g3_0_0 : w3.frozen? ⟨w1.heap.size, 0, none⟩ = false := (b3.frozen (p := ⟨w1.heap.size, 0, none⟩) (by first | (simp; done) | (simp; omega) | omega)).trans (by first | with_reducible assumption | (simp [go_sem]; done) | (simp [go_sem, *]; done))
      have k3_0_1 : w3.cell? ⟨w1.heap.size, 1, none⟩ = some (.int .i64 (y)) := (b3.cell (p := ⟨w1.heap.size, 1, none⟩) (by first | (simp; done) | (simp; omega) | omega)).trans (by first | with_reducible assumption | (simp [go_sem]; done) | (simp [go_sem, *]; done))
      have g3_0_1 : w3.frozen? ⟨w1.heap.size, 1, none⟩ = false := (b3.frozen (p := ⟨w1.heap.size, 1, none⟩) (by first | (simp; done) | (simp; omega) | omega)).trans (by first | with_reducible assumption | (simp [go_sem]; done) | (simp [go_sem, *]; done))
      have k3_0_2 : w3.cell? ⟨w1.heap.size, 2, none⟩ = some (.int .i64 (z)) := (b3.cell (p := ⟨w1.heap.size, 2, none⟩) (by first | (simp; done) | (simp; omega) | omega)).trans (by first | with_reducible assumption | (simp [go_sem]; done) | (simp [go_sem, *]; done))
      have g3_0_2 : w3.frozen? ⟨w1.heap.size, 2, none⟩ = false := (b3.frozen (p := ⟨w1.heap.size, 2, none⟩) (by first | (simp; done) | (simp; omega) | omega)).trans (by first | with_reducible assumption | (simp [go_sem]; done) | (simp [go_sem, *]; done))
      have k3_0_3 : w3.cell? ⟨w1.heap.size, 3, none⟩ = some (.int .i64 (u)) := (b3.cell (p := ⟨w1.heap.size, 3, none⟩) (by first | (simp; done) | (simp; omega) | omega)).trans (by first | with_reducible assumption | (simp [go_sem]; done) | (simp [go_sem, *]; done))
      have g3_0_3 : w3.frozen? ⟨w1.heap.size, 3, none⟩ = false := (b3.frozen (p := ⟨w1.heap.size, 3, none⟩) (by first | (simp; done) | (simp; omega) | omega)).trans (by first | with_reducible assumption | (simp [go_sem]; done) | (simp [go_sem, *]; done))
      have z3_1 : w2.heap.size < w3.heap.size := by omega
      have k3_1_0 : w3.cell? ⟨w2.heap.size, 0, none⟩ = some (.int .i64 (0)) := (b3.cell (p := ⟨w2.heap.size, 0, none⟩) (by first | (simp; done) | (simp; omega) | omega)).trans (by first | with_reducible assumption | (simp [go_sem]; done) | (simp [go_sem, *]; done))
      have g3_1_0 : w3.frozen? ⟨w2.heap.size, 0, none⟩ = false := (b3.frozen (p := ⟨w2.heap.size, 0, none⟩) (by first | (simp; done) | (simp; omega) | omega)).trans (by first | with_reducible assumption | (simp [go_sem]; done) | (simp [go_sem, *]; done))
      have k3_1_1 : w3.cell? ⟨w2.heap.size, 1, none⟩ = some (.int .i64 (0)) := (b3.cell (p := ⟨w2.heap.size, 1, none⟩) (by first | (simp; done) | (simp; omega) | omega)).trans (by first | with_reducible assumption | (simp [go_sem]; done) | (simp [go_sem, *]; done))
      have g3_1_1 : w3.frozen? ⟨w2.heap.size, 1, none⟩ = false := (b3.frozen (p := ⟨w2.heap.size, 1, none⟩) (by first | (simp; done) | (simp; omega) | omega)).trans (by first | with_reducible assumption | (simp [go_sem]; done) | (simp [go_sem, *]; done))
      have k3_1_2 : w3.cell? ⟨w2.heap.size, 2, none⟩ = some (.int .i64 (0)) := (b3.cell (p := ⟨w2.heap.size, 2, none⟩) (by first | (simp; done) | (simp; omega) | omega)).trans (by first | with_reducible assumption | (simp [go_sem]; done) | (simp [go_sem, *]; done))
      have g3_1_2 : w3.frozen? ⟨w2.heap.size, 2, none⟩ = false := (b3.frozen (p := ⟨w2.heap.size, 2, none⟩) (by first | (simp; done) | (simp; omega) | omega)).trans (by first | with_reducible assumption | (simp [go_sem]; done) | (simp [go_sem, *]; done))
      have k3_1_3 : w3.cell? ⟨w2.heap.size, 3, none⟩ = some (.int .i64 (0)) := (b3.cell (p := ⟨w2.heap.size, 3, none⟩) (by first | (simp; done) | (simp; omega) | omega)).trans (by first | with_reducible assumption | (simp [go_sem]; done) | (simp [go_sem, *]; done))
      have g3_1_3 : w3.frozen? ⟨w2.heap.size, 3, none⟩ = false := (b3.frozen (p := ⟨w2.heap.size, 3, none⟩) (by first | (simp; done) | (simp; omega) | omega)).trans (by first | with_reducible assumption | (simp [go_sem]; done) | (simp [go_sem, *]; done))
      clear k2_0_0 g2_0_0 k2_0_1 g2_0_1 k2_0_2 g2_0_2 k2_0_3 g2_0_3
      go_wp2_with fail
      refine (K3.out _).mono ?_
      rintro e w4 ⟨rfl, b4⟩
      have s4 := b4.size
      try simp at s4
      have z4_0 : w1.heap.size < w4.heap.size := by omega
      have k4_0_0 : w4.cell? ⟨w1.heap.size, 0, none⟩ = some (.int .i64 (x)) := (b4.cell (p := ⟨w1.heap.size, 0, none⟩) (by first | (simp; done) | (simp; omega) | omega)).trans (by first | with_reducible assumption | (simp [go_sem]; done) | (simp [go_sem, *]; done))
      have g4_0_0 : w4.frozen? ⟨w1.heap.size, 0, none⟩ = false := (b4.frozen (p := ⟨w1.heap.size, 0, none⟩) (by first | (simp; done) | (simp; omega) | omega)).trans (by first | with_reducible assumption | (simp [go_sem]; done) | (simp [go_sem, *]; done))
      have k4_0_1 : w4.cell? ⟨w1.heap.size, 1, none⟩ = some (.int .i64 (y)) := (b4.cell (p := ⟨w1.heap.size, 1, none⟩) (by first | (simp; done) | (simp; omega) | omega)).trans (by first | with_reducible assumption | (simp [go_sem]; done) | (simp [go_sem, *]; done))
      have g4_0_1 : w4.frozen? ⟨w1.heap.size, 1, none⟩ = false := (b4.frozen (p := ⟨w1.heap.size, 1, none⟩) (by first | (simp; done) | (simp; omega) | omega)).trans (by first | with_reducible assumption | (simp [go_sem]; done) | (simp [go_sem, *]; done))
      have k4_0_2 : w4.cell? ⟨w1.heap.size, 2, none⟩ = some (.int .i64 (z)) := (b4.cell (p := ⟨w1.heap.size, 2, none⟩) (by first | (simp; done) | (simp; omega) | omega)).trans (by first | with_reducible assumption | (simp [go_sem]; done) | (simp [go_sem, *]; done))
      have g4_0_2 : w4.frozen? ⟨w1.heap.size, 2, none⟩ = false := (b4.frozen (p := ⟨w1.heap.size, 2, none⟩) (by first | (simp; done) | (simp; omega) | omega)).trans (by first | with_reducible assumption | (simp [go_sem]; done) | (simp [go_sem, *]; done))
      have k4_0_3 : w4.cell? ⟨w1.heap.size, 3, none⟩ = some (.int .i64 (u)) := (b4.cell (p := ⟨w1.heap.size, 3, none⟩) (by first | (simp; done) | (simp; omega) | omega)).trans (by first | with_reducible assumption | (simp [go_sem]; done) | (simp [go_sem, *]; done))
      have g4_0_3 : w4.frozen? ⟨w1.heap.size, 3, none⟩ = false := (b4.frozen (p := ⟨w1.heap.size, 3, none⟩) (by first | (simp; done) | (simp; omega) | omega)).trans (by first | with_reducible assumption | (simp [go_sem]; done) | (simp [go_sem, *]; done))
      have z4_1 : w2.heap.size < w4.heap.size := by omega
      have k4_1_0 : w4.cell? ⟨w2.heap.size, 0, none⟩ = some (.int .i64 (0)) := (b4.cell (p := ⟨w2.heap.size, 0, none⟩) (by first | (simp; done) | (simp; omega) | omega)).trans (by first | with_reducible assumption | (simp [go_sem]; done) | (simp [go_sem, *]; done))
      have g4_1_0 : w4.frozen? ⟨w2.heap.size, 0, none⟩ = false := (b4.frozen (p := ⟨w2.heap.size, 0, none⟩) (by first | (simp; done) | (simp; omega) | omega)).trans (by first | with_reducible assumption | (simp [go_sem]; done) | (simp [go_sem, *]; done))
      have k4_1_1 : w4.cell? ⟨w2.heap.size, 1, none⟩ = some (.int .i64 (0)) := (b4.cell (p := ⟨w2.heap.size, 1, none⟩) (by first | (simp; done) | (simp; omega) | omega)).trans (by first | with_reducible assumption | (simp [go_sem]; done) | (simp [go_sem, *]; done))
      have g4_1_1 : w4.frozen? ⟨w2.heap.size, 1, none⟩ = false := (b4.frozen (p := ⟨w2.heap.size, 1, none⟩) (by first | (simp; done) | (simp; omega) | omega)).trans (by first | with_reducible assumption | (simp [go_sem]; done) | (simp [go_sem, *]; done))
      have k4_1_2 : w4.cell? ⟨w2.heap.size, 2, none⟩ = some (.int .i64 (0)) := (b4.cell (p := ⟨w2.heap.size, 2, none⟩) (by first | (simp; done) | (simp; omega) | omega)).trans (by first | with_reducible assumption | (simp [go_sem]; done) | (simp [go_sem, *]; done))
      have g4_1_2 : w4.frozen? ⟨w2.heap.size, 2, none⟩ = false := (b4.frozen (p := ⟨w2.heap.size, 2, none⟩) (by first | (simp; done) | (simp; omega) | omega)).trans (by first | with_reducible assumption | (simp [go_sem]; done) | (simp [go_sem, *]; done))
      have k4_1_3 : w4.cell? ⟨w2.heap.size, 3, none⟩ = some (.int .i64 (0)) := (b4.cell (p := ⟨w2.heap.size, 3, none⟩) (by first | (simp; done) | (simp; omega) | omega)).trans (by first | with_reducible assumption | (simp [go_sem]; done) | (simp [go_sem, *]; done))
      have g4_1_3 : w4.frozen? ⟨w2.heap.size, 3, none⟩ = false := (b4.frozen (p := ⟨w2.heap.size, 3, none⟩) (by first | (simp; done) | (simp; omega) | omega)).trans (by first | with_reducible assumption | (simp [go_sem]; done) | (simp [go_sem, *]; done))
      have z4_2 : w3.heap.size < w4.heap.size := by omega
      have k4_2_0 : w4.cell? ⟨w3.heap.size, 0, none⟩ = some (.int .i64 (0)) := (b4.cell (p := ⟨w3.heap.size, 0, none⟩) (by first | (simp; done) | (simp; omega) | omega)).trans (by first | with_reducible assumption | (simp [go_sem]; done) | (simp [go_sem, *]; done))
      have g4_2_0 : w4.frozen? ⟨w3.heap.size, 0, none⟩ = false := (b4.frozen (p := ⟨w3.heap.size, 0, none⟩) (by first | (simp; done) | (simp; omega) | omega)).trans (by first | with_reducible assumption | (simp [go_sem]; done) | (simp [go_sem, *]; done))
      have k4_2_1 : w4.cell? ⟨w3.heap.size, 1, none⟩ = some (.int .i64 (0)) := (b4.cell (p := ⟨w3.heap.size, 1, none⟩) (by first | (simp; done) | (simp; omega) | omega)).trans (by first | with_reducible assumption | (simp [go_sem]; done) | (simp [go_sem, *]; done))
      have g4_2_1 : w4.frozen? ⟨w3.heap.size, 1, none⟩ = false := (b4.frozen (p := ⟨w3.heap.size, 1, none⟩) (by first | (simp; done) | (simp; omega) | omega)).trans (by first | with_reducible assumption | (simp [go_sem]; done) | (simp [go_sem, *]; done))
      have k4_2_2 : w4.cell? ⟨w3.heap.size, 2, none⟩ = some (.int .i64 (0)) := (b4.cell (p := ⟨w3.heap.size, 2, none⟩) (by first | (simp; done) | (simp; omega) | omega)).trans (by first | with_reducible assumption | (simp [go_sem]; done) | (simp [go_sem, *]; done))
      have g4_2_2 : w4.frozen? ⟨w3.heap.size, 2, none⟩ = false := (b4.frozen (p := ⟨w3.heap.size, 2, none⟩) (by first | (simp; done) | (simp; omega) | omega)).trans (by first | with_reducible assumption | (simp [go_sem]; done) | (simp [go_sem, *]; done))
      have k4_2_3 : w4.cell? ⟨w3.heap.size, 3, none⟩ = some (.int .i64 (0)) := (b4.cell (p := ⟨w3.heap.size, 3, none⟩) (by first | (simp; done) | (simp; omega) | omega)).trans (by first | with_reducible assumption | (simp [go_sem]; done) | (simp [go_sem, *]; done))
      have g4_2_3 : w4.frozen? ⟨w3.heap.size, 3, none⟩ = false := (b4.frozen (p := ⟨w3.heap.size, 3, none⟩) (by first | (simp; done) | (simp; omega) | omega)).trans (by first | with_reducible assumption | (simp [go_sem]; done) | (simp [go_sem, *]; done))
      clear k3_0_0 g3_0_0 k3_0_1 g3_0_1 k3_0_2 g3_0_2 k3_0_3 g3_0_3 k3_1_0 g3_1_0 k3_1_1 g3_1_1 k3_1_2 g3_1_2 k3_1_3 g3_1_3
      go_wp2_with fail
      refine (K3.out _).mono ?_
      rintro e w5 ⟨rfl, b5⟩
      have s5 := b5.size
      try simp at s5
      have z5_0 : w1.heap.size < w5.heap.size := by omega
      have k5_0_0 : w5.cell? ⟨w1.heap.size, 0, none⟩ = some (.int .i64 (x)) := (b5.cell (p := ⟨w1.heap.size, 0, none⟩) (by first | (simp; done) | (simp; omega) | omega)).trans (by first | with_reducible assumption | (simp [go_sem]; done) | (simp [go_sem, *]; done))
      have g5_0_0 : w5.frozen? ⟨w1.heap.size, 0, none⟩ = false := (b5.frozen (p := ⟨w1.heap.size, 0, none⟩) (by first | (simp; done) | (simp; omega) | omega)).trans (by first | with_reducible assumption | (simp [go_sem]; done) | (simp [go_sem, *]; done))
      have k5_0_1 : w5.cell? ⟨w1.heap.size, 1, none⟩ = some (.int .i64 (y)) := (b5.cell (p := ⟨w1.heap.size, 1, none⟩) (by first | (simp; done) | (simp; omega) | omega)).trans (by first | with_reducible assumption | (simp [go_sem]; done) | (simp [go_sem, *]; done))
      have g5_0_1 : w5.frozen? ⟨w1.heap.size, 1, none⟩ = false := (b5.frozen (p := ⟨w1.heap.size, 1, none⟩) (by first | (simp; done) | (simp; omega) | omega)).trans (by first | with_reducible assumption | (simp [go_sem]; done) | (simp [go_sem, *]; done))
      have k5_0_2 : w5.cell? ⟨w1.heap.size, 2, none⟩ = some (.int .i64 (z)) := (b5.cell (p := ⟨w1.heap.size, 2, none⟩) (by first | (simp; done) | (simp; omega) | omega)).trans (by first | with_reducible assumption | (simp [go_sem]; done) | (simp [go_sem, *]; done))
      have g5_0_2 : w5.frozen? ⟨w1.heap.size, 2, none⟩ = false := (b5.frozen (p := ⟨w1.heap.size, 2, none⟩) (by first | (simp; done) | (simp; omega) | omega)).trans (by first | with_reducible assumption | (simp [go_sem]; done) | (simp [go_sem, *]; done))
      have k5_0_3 : w5.cell? ⟨w1.heap.size, 3, none⟩ = some (.int .i64 (u)) := (b5.cell (p := ⟨w1.heap.size, 3, none⟩) (by first | (simp; done) | (simp; omega) | omega)).trans (by first | with_reducible assumption | (simp [go_sem]; done) | (simp [go_sem, *]; done))
      have g5_0_3 : w5.frozen? ⟨w1.heap.size, 3, none⟩ = false := (b5.frozen (p := ⟨w1.heap.size, 3, none⟩) (by first | (simp; done) | (simp; omega) | omega)).trans (by first | with_reducible assumption | (simp [go_sem]; done) | (simp [go_sem, *]; done))
      have z5_1 : w2.heap.size < w5.heap.size := by omega
      have k5_1_0 : w5.cell? ⟨w2.heap.size, 0, none⟩ = some (.int .i64 (0)) := (b5.cell (p := ⟨w2.heap.size, 0, none⟩) (by first | (simp; done) | (simp; omega) | omega)).trans (by first | with_reducible assumption | (simp [go_sem]; done) | (simp [go_sem, *]; done))
      have g5_1_0 : w5.frozen? ⟨w2.heap.size, 0, none⟩ = false := (b5.frozen (p := ⟨w2.heap.size, 0, none⟩) (by first | (simp; done) | (simp; omega) | omega)).trans (by first | with_reducible assumption | (simp [go_sem]; done) | (simp [go_sem, *]; done))
      have k5_1_1 : w5.cell? ⟨w2.heap.size, 1, none⟩ = some (.int .i64 (0)) := (b5.cell (p := ⟨w2.heap.size, 1, none⟩) (by first | (simp; done) | (simp; omega) | omega)).trans (by first | with_reducible assumption | (simp [go_sem]; done) | (simp [go_sem, *]; done))
      have g5_1_1 : w5.frozen? ⟨w2.heap.size, 1, none⟩ = false := (b5.frozen (p := ⟨w2.heap.size, 1, none⟩) (by first | (simp; done) | (simp; omega) | omega)).trans (by first | with_reducible assumption | (simp [go_sem]; done) | (simp [go_sem, *]; done))
      have k5_1_2 : w5.cell? ⟨w2.heap.size, 2, none⟩ = some (.int .i64 (0)) := (b5.cell (p := ⟨w2.heap.size, 2, none⟩) (by first | (simp; done) | (simp; omega) | omega)).trans (by first | with_reducible assumption | (simp [go_sem]; done) | (simp [go_sem, *]; done))
      have g5_1_2 : w5.frozen? ⟨w2.heap.size, 2, none⟩ = false := (b5.frozen (p := ⟨w2.heap.size, 2, none⟩) (by first | (simp; done) | (simp; omega) | omega)).trans (by first | with_reducible assumption | (simp [go_sem]; done) | (simp [go_sem, *]; done))
      have k5_1_3 : w5.cell? ⟨w2.heap.size, 3, none⟩ = some (.int .i64 (0)) := (b5.cell (p := ⟨w2.heap.size, 3, none⟩) (by first | (simp; done) | (simp; omega) | omega)).trans (by first | with_reducible assumption | (simp [go_sem]; done) | (simp [go_sem, *]; done))
      have g5_1_3 : w5.frozen? ⟨w2.heap.size, 3, none⟩ = false := (b5.frozen (p := ⟨w2.heap.size, 3, none⟩) (by first | (simp; done) | (simp; omega) | omega)).trans (by first | with_reducible assumption | (simp [go_sem]; done) | (simp [go_sem, *]; done))
      have z5_2 : w3.heap.size < w5.heap.size := by omega
      have k5_2_0 : w5.cell? ⟨w3.heap.size, 0, none⟩ = some (.int .i64 (0)) := (b5.cell (p := ⟨w3.heap.size, 0, none⟩) (by first | (simp; done) | (simp; omega) | omega)).trans (by first | with_reducible assumption | (simp [go_sem]; done) | (simp [go_sem, *]; done))
      have g5_2_0 : w5.frozen? ⟨w3.heap.size, 0, none⟩ = false := (b5.frozen (p := ⟨w3.heap.size, 0, none⟩) (by first | (simp; done) | (simp; omega) | omega)).trans (by first | with_reducible assumption | (simp [go_sem]; done) | (simp [go_sem, *]; done))
      have k5_2_1 : w5.cell? ⟨w3.heap.size, 1, none⟩ = some (.int .i64 (0)) := (b5.cell (p := ⟨w3.heap.size, 1, none⟩) (by first | (simp; done) | (simp; omega) | omega)).trans (by first | with_reducible assumption | (simp [go_sem]; done) | (simp [go_sem, *]; done))
      have g5_2_1 : w5.frozen? ⟨w3.heap.size, 1, none⟩ = false := (b5.frozen (p := ⟨w3.heap.size, 1, none⟩) (by first | (simp; done) | (simp; omega) | omega)).trans (by first | with_reducible assumption | (simp [go_sem]; done) | (simp [go_sem, *]; done))
      have k5_2_2 : w5.cell? ⟨w3.heap.size, 2, none⟩ = some (.int .i64 (0)) := (b5.cell (p := ⟨w3.heap.size, 2, none⟩) (by first | (simp; done) | (simp; omega) | omega)).trans (by first | with_reducible assumption | (simp [go_sem]; done) | (simp [go_sem, *]; done))
      have g5_2_2 : w5.frozen? ⟨w3.heap.size, 2, none⟩ = false := (b5.frozen (p := ⟨w3.heap.size, 2, none⟩) (by first | (simp; done) | (simp; omega) | omega)).trans (by first | with_reducible assumption | (simp [go_sem]; done) | (simp [go_sem, *]; done))
      have k5_2_3 : w5.cell? ⟨w3.heap.size, 3, none⟩ = some (.int .i64 (0)) := (b5.cell (p := ⟨w3.heap.size, 3, none⟩) (by first | (simp; done) | (simp; omega) | omega)).trans (by first | with_reducible assumption | (simp [go_sem]; done) | (simp [go_sem, *]; done))
      have g5_2_3 : w5.frozen? ⟨w3.heap.size, 3, none⟩ = false := (b5.frozen (p := ⟨w3.heap.size, 3, none⟩) (by first | (simp; done) | (simp; omega) | omega)).trans (by first | with_reducible assumption | (simp [go_sem]; done) | (simp [go_sem, *]; done))
      clear k4_0_0 g4_0_0 k4_0_1 g4_0_1 k4_0_2 g4_0_2 k4_0_3 g4_0_3 k4_1_0 g4_1_0 k4_1_1 g4_1_1 k4_1_2 g4_1_2 k4_1_3 g4_1_3 k4_2_0 g4_2_0 k4_2_1 g4_2_1 k4_2_2 g4_2_2 k4_2_3 g4_2_3
      go_wp2
      go_ret
      exact ⟨rfl, (by (repeat (first | with_reducible exact Below.refl _ _ | with_reducible refine bl_alloc ?_ _ | with_reducible refine bl_drew ?_ | with_reducible refine bl_set ?_ (by first | (simp; done) | (simp; omega)) _ | with_reducible refine bl_call (by assumption) ?_)))⟩

    | true =>
      obtain ⟨bl, bu⟩ := det_bd x y z u hv
      have d0 : DetF x y z u = detV x y z u := by simp [DetF, hv]
      generalize hD : detV x y z u = D at bl bu d0
      by_cases h1 : D = 1 ∨ D = -1
      ·
        obtain ⟨hi, iA, iB, iC, iD⟩ := inv_yes x y z u D hv hD h1
        obtain ⟨mx, dx, dd, p1, p2, p3, p4, q1, q2, q3, q4, r1, r2, r3, r4⟩ := inv_all x y z u D hv hD h1
        generalize D * u = A at *
        generalize -D * y = B at *
        generalize -D * z = C at *
        generalize D * x = E at *
        obtain ⟨c1, cA, cB, cC, cD⟩ := cm_known x y z u A B C E 1 0 0 1 hv mx p1 p2 p3 p4 unitB
        obtain ⟨g1, gA, gB, gC, gD⟩ := cm_known A B C E x y z u 1 0 0 1 mx hv q1 q2 q3 q4 unitB
        obtain ⟨j1, jA, jB, jC, jD⟩ := inv_yes A B C E D mx dx h1
        rw [r1] at jA
        rw [r2] at jB
        rw [r3] at jC
        rw [r4] at jD
        have K1 : Hid (∀ W : World, Calls Try.prog 36 #[.agg #[.int .i64 x, .int .i64 y, .int .i64 z, .int .i64 u]] W fun e w' => e = .returned (.tuple #[.agg #[.int .i64 A, .int .i64 B, .int .i64 C, .int .i64 E], .bool true]) ∧ Below W.heap.size W w') := Lib.hid fun W => by
          have h := impl_InvertMatrix (x) (y) (z) (u) W
          rw [iA, iB, iC, iD, hi] at h
          exact h
        have K2 : Hid (∀ W : World, Calls Try.prog 37 #[.agg #[.int .i64 x, .int .i64 y, .int .i64 z, .int .i64 u]] W fun e w' => e = .returned (.tuple #[.agg #[.int .i64 A, .int .i64 B, .int .i64 C, .int .i64 E], .bool true]) ∧ Below W.heap.size W w') := Lib.hid fun W => by
          have h := spec_InvertMatrix (x) (y) (z) (u) W
          rw [iA, iB, iC, iD, hi] at h
          exact h
        have K3 : Hid (∀ W : World, Calls Try.prog 32 #[.agg #[.int .i64 x, .int .i64 y, .int .i64 z, .int .i64 u], .agg #[.int .i64 A, .int .i64 B, .int .i64 C, .int .i64 E]] W fun e w' => e = .returned (.tuple #[.agg #[.int .i64 1, .int .i64 0, .int .i64 0, .int .i64 1], .bool true]) ∧ Below W.heap.size W w') := Lib.hid fun W => by
          have h := impl_ComposeMatrices (x) (y) (z) (u) (A) (B) (C) (E) W
          rw [cA, cB, cC, cD, c1] at h
          exact h
        have K4 : Hid (∀ W : World, Calls Try.prog 32 #[.agg #[.int .i64 A, .int .i64 B, .int .i64 C, .int .i64 E], .agg #[.int .i64 x, .int .i64 y, .int .i64 z, .int .i64 u]] W fun e w' => e = .returned (.tuple #[.agg #[.int .i64 1, .int .i64 0, .int .i64 0, .int .i64 1], .bool true]) ∧ Below W.heap.size W w') := Lib.hid fun W => by
          have h := impl_ComposeMatrices (A) (B) (C) (E) (x) (y) (z) (u) W
          rw [gA, gB, gC, gD, g1] at h
          exact h
        have K5 : Hid (∀ W : World, Calls Try.prog 36 #[.agg #[.int .i64 A, .int .i64 B, .int .i64 C, .int .i64 E]] W fun e w' => e = .returned (.tuple #[.agg #[.int .i64 x, .int .i64 y, .int .i64 z, .int .i64 u], .bool true]) ∧ Below W.heap.size W w') := Lib.hid fun W => by
          have h := impl_InvertMatrix (A) (B) (C) (E) W
          rw [jA, jB, jC, jD, j1] at h
          exact h
        clear hi iA iB iC iD mx dx dd p1 p2 p3 p4 q1 q2 q3 q4 r1 r2 r3 r4 c1 cA cB cC cD g1 gA gB gC gD j1 jA jB jC jD h1 hv hD d0 bl bu
        go_wp2_with fail
        refine (K1.out _).mono ?_
        rintro e w2 ⟨rfl, b2⟩
        have s2 := b2.size
        try simp at s2
        have z2_0 : w1.heap.size < w2.heap.size := by omega
        have k2_0_0 : w2.cell? ⟨w1.heap.size, 0, none⟩ = some (.int .i64 (x)) := (b2.cell (p := ⟨w1.heap.size, 0, none⟩) (by first | (simp; done) | (simp; omega) | omega)).trans (by first | with_reducible assumption | (simp [go_sem]; done) | (simp [go_sem, *]; done))
        have g2_0_0 : w2.frozen? ⟨w1.heap.size, 0, none⟩ = false := (b2.frozen (p := ⟨w1.heap.size, 0, none⟩) (by first | (simp; done) | (simp; omega) | omega)).trans (by first | with_reducible assumption | (simp [go_sem]; done) | (simp [go_sem, *]; done))
        have k2_0_1 : w2.cell? ⟨w1.heap.size, 1, none⟩ = some (.int .i64 (y)) := (b2.cell (p := ⟨w1.heap.size, 1, none⟩) (by first | (simp; done) | (simp; omega) | omega)).trans (by first | with_reducible assumption | (simp [go_sem]; done) | (simp [go_sem, *]; done))
        have g2_0_1 : w2.frozen? ⟨w1.heap.size, 1, none⟩ = false := (b2.frozen (p := ⟨w1.heap.size, 1, none⟩) (by first | (simp; done) | (simp; omega) | omega)).trans (by first | with_reducible assumption | (simp [go_sem]; done) | (simp [go_sem, *]; done))
        have k2_0_2 : w2.cell? ⟨w1.heap.size, 2, none⟩ = some (.int .i64 (z)) := (b2.cell (p := ⟨w1.heap.size, 2, none⟩) (by first | (simp; done) | (simp; omega) | omega)).trans (by first | with_reducible assumption | (simp [go_sem]; done) | (simp [go_sem, *]; done))
        have g2_0_2 : w2.frozen? ⟨w1.heap.size, 2, none⟩ = false := (b2.frozen (p := ⟨w1.heap.size, 2, none⟩) (by first | (simp; done) | (simp; omega) | omega)).trans (by first | with_reducible assumption | (simp [go_sem]; done) | (simp [go_sem, *]; done))
        have k2_0_3 : w2.cell? ⟨w1.heap.size, 3, none⟩ = some (.int .i64 (u)) := (b2.cell (p := ⟨w1.heap.size, 3, none⟩) (by first | (simp; done) | (simp; omega) | omega)).trans (by first | with_reducible assumption | (simp [go_sem]; done) | (simp [go_sem, *]; done))
        have g2_0_3 : w2.frozen? ⟨w1.heap.size, 3, none⟩ = false := (b2.frozen (p := ⟨w1.heap.size, 3, none⟩) (by first | (simp; done) | (simp; omega) | omega)).trans (by first | with_reducible assumption | (simp [go_sem]; done) | (simp [go_sem, *]; done))
        go_wp2_with fail
        refine (K2.out _).mono ?_
        rintro e w3 ⟨rfl, b3⟩
        have s3 := b3.size
        try simp at s3
        have z3_0 : w1.heap.size < w3.heap.size := by omega
        have k3_0_0 : w3.cell? ⟨w1.heap.size, 0, none⟩ = some (.int .i64 (x)) := (b3.cell (p := ⟨w1.heap.size, 0, none⟩) (by first | (simp; done) | (simp; omega) | omega)).trans (by first | with_reducible assumption | (simp [go_sem]; done) | (simp [go_sem, *]; done))
        have g3_0_0 : w3.frozen? ⟨w1.heap.size, 0, none⟩ = false := (b3.frozen (p := ⟨w1.heap.size, 0, none⟩) (by first | (simp; done) | (simp; omega) | omega)).trans (by first | with_reducible assumption | (simp [go_sem]; done) | (simp [go_sem, *]; done))
        have k3_0_1 : w3.cell? ⟨w1.heap.size, 1, none⟩ = some (.int .i64 (y)) := (b3.cell (p := ⟨w1.heap.size, 1, none⟩) (by first | (simp; done) | (simp; omega) | omega)).trans (by first | with_reducible assumption | (simp [go_sem]; done) | (simp [go_sem, *]; done))
        have g3_0_1 : w3.frozen? ⟨w1.heap.size, 1, none⟩ = false := (b3.frozen (p := ⟨w1.heap.size, 1, none⟩) (by first | (simp; done) | (simp; omega) | omega)).trans (by first | with_reducible assumption | (simp [go_sem]; done) | (simp [go_sem, *]; done))
        have k3_0_2 : w3.cell? ⟨w1.heap.size, 2, none⟩ = some (.int .i64 (z)) := (b3.cell (p := ⟨w1.heap.size, 2, none⟩) (by first | (simp; done) | (simp; omega) | omega)).trans (by first | with_reducible assumption | (simp [go_sem]; done) | (simp [go_sem, *]; done))
        have g3_0_2 : w3.frozen? ⟨w1.heap.size, 2, none⟩ = false := (b3.frozen (p := ⟨w1.heap.size, 2, none⟩) (by first | (simp; done) | (simp; omega) | omega)).trans (by first | with_reducible assumption | (simp [go_sem]; done) | (simp [go_sem, *]; done))
        have k3_0_3 : w3.cell? ⟨w1.heap.size, 3, none⟩ = some (.int .i64 (u)) := (b3.cell (p := ⟨w1.heap.size, 3, none⟩) (by first | (simp; done) | (simp; omega) | omega)).trans (by first | with_reducible assumption | (simp [go_sem]; done) | (simp [go_sem, *]; done))
        have g3_0_3 : w3.frozen? ⟨w1.heap.size, 3, none⟩ = false := (b3.frozen (p := ⟨w1.heap.size, 3, none⟩) (by first | (simp; done) | (simp; omega) | omega)).trans (by first | with_reducible assumption | (simp [go_sem]; done) | (simp [go_sem, *]; done))
        have z3_1 : w2.heap.size < w3.heap.size := by omega
        have k3_1_0 : w3.cell? ⟨w2.heap.size, 0, none⟩ = some (.int .i64 (A)) := (b3.cell (p := ⟨w2.heap.size, 0, none⟩) (by first | (simp; done) | (simp; omega) | omega)).trans (by first | with_reducible assumption | (simp [go_sem]; done) | (simp [go_sem, *]; done))
        have g3_1_0 : w3.frozen? ⟨w2.heap.size, 0, none⟩ = false := (b3.frozen (p := ⟨w2.heap.size, 0, none⟩) (by first | (simp; done) | (simp; omega) | omega)).trans (by first | with_reducible assumption | (simp [go_sem]; done) | (simp [go_sem, *]; done))
        have k3_1_1 : w3.cell? ⟨w2.heap.size, 1, none⟩ = some (.int .i64 (B)) := (b3.cell (p := ⟨w2.heap.size, 1, none⟩) (by first | (simp; done) | (simp; omega) | omega)).trans (by first | with_reducible assumption | (simp [go_sem]; done) | (simp [go_sem, *]; done))
        have g3_1_1 : w3.frozen? ⟨w2.heap.size, 1, none⟩ = false := (b3.frozen (p := ⟨w2.heap.size, 1, none⟩) (by first | (simp; done) | (simp; omega) | omega)).trans (by first | with_reducible assumption | (simp [go_sem]; done) | (simp [go_sem, *]; done))
        have k3_1_2 : w3.cell? ⟨w2.heap.size, 2, none⟩ = some (.int .i64 (C)) := (b3.cell (p := ⟨w2.heap.size, 2, none⟩) (by first | (simp; done) | (simp; omega) | omega)).trans (by first | with_reducible assumption | (simp [go_sem]; done) | (simp [go_sem, *]; done))
        have g3_1_2 : w3.frozen? ⟨w2.heap.size, 2, none⟩ = false := (b3.frozen (p := ⟨w2.heap.size, 2, none⟩) (by first | (simp; done) | (simp; omega) | omega)).trans (by first | with_reducible assumption | (simp [go_sem]; done) | (simp [go_sem, *]; done))
        have k3_1_3 : w3.cell? ⟨w2.heap.size, 3, none⟩ = some (.int .i64 (E)) := (b3.cell (p := ⟨w2.heap.size, 3, none⟩) (by first | (simp; done) | (simp; omega) | omega)).trans (by first | with_reducible assumption | (simp [go_sem]; done) | (simp [go_sem, *]; done))
        have g3_1_3 : w3.frozen? ⟨w2.heap.size, 3, none⟩ = false := (b3.frozen (p := ⟨w2.heap.size, 3, none⟩) (by first | (simp; done) | (simp; omega) | omega)).trans (by first | with_reducible assumption | (simp [go_sem]; done) | (simp [go_sem, *]; done))
        clear k2_0_0 g2_0_0 k2_0_1 g2_0_1 k2_0_2 g2_0_2 k2_0_3 g2_0_3
        go_wp2_with fail
        refine (K3.out _).mono ?_
        rintro e w4 ⟨rfl, b4⟩
        have s4 := b4.size
        try simp at s4
        have z4_0 : w1.heap.size < w4.heap.size := by omega
        have k4_0_0 : w4.cell? ⟨w1.heap.size, 0, none⟩ = some (.int .i64 (x)) := (b4.cell (p := ⟨w1.heap.size, 0, none⟩) (by first | (simp; done) | (simp; omega) | omega)).trans (by first | with_reducible assumption | (simp [go_sem]; done) | (simp [go_sem, *]; done))
        have g4_0_0 : w4.frozen? ⟨w1.heap.size, 0, none⟩ = false := (b4.frozen (p := ⟨w1.heap.size, 0, none⟩) (by first | (simp; done) | (simp; omega) | omega)).trans (by first | with_reducible assumption | (simp [go_sem]; done) | (simp [go_sem, *]; done))
        have k4_0_1 : w4.cell? ⟨w1.heap.size, 1, none⟩ = some (.int .i64 (y)) := (b4.cell (p := ⟨w1.heap.size, 1, none⟩) (by first | (simp; done) | (simp; omega) | omega)).trans (by first | with_reducible assumption | (simp [go_sem]; done) | (simp [go_sem, *]; done))
        have g4_0_1 : w4.frozen? ⟨w1.heap.size, 1, none⟩ = false := (b4.frozen (p := ⟨w1.heap.size, 1, none⟩) (by first | (simp; done) | (simp; omega) | omega)).trans (by first | with_reducible assumption | (simp [go_sem]; done) | (simp [go_sem, *]; done))
        have k4_0_2 : w4.cell? ⟨w1.heap.size, 2, none⟩ = some (.int .i64 (z)) := (b4.cell (p := ⟨w1.heap.size, 2, none⟩) (by first | (simp; done) | (simp; omega) | omega)).trans (by first | with_reducible assumption | (simp [go_sem]; done) | (simp [go_sem, *]; done))
        have g4_0_2 : w4.frozen? ⟨w1.heap.size, 2, none⟩ = false := (b4.frozen (p := ⟨w1.heap.size, 2, none⟩) (by first | (simp; done) | (simp; omega) | omega)).trans (by first | with_reducible assumption | (simp [go_sem]; done) | (simp [go_sem, *]; done))
        have k4_0_3 : w4.cell? ⟨w1.heap.size, 3, none⟩ = some (.int .i64 (u)) := (b4.cell (p := ⟨w1.heap.size, 3, none⟩) (by first | (simp; done) | (simp; omega) | omega)).trans (by first | with_reducible assumption | (simp [go_sem]; done) | (simp [go_sem, *]; done))
        have g4_0_3 : w4.frozen? ⟨w1.heap.size, 3, none⟩ = false := (b4.frozen (p := ⟨w1.heap.size, 3, none⟩) (by first | (simp; done) | (simp; omega) | omega)).trans (by first | with_reducible assumption | (simp [go_sem]; done) | (simp [go_sem, *]; done))
        have z4_1 : w2.heap.size < w4.heap.size := by omega
        have k4_1_0 : w4.cell? ⟨w2.heap.size, 0, none⟩ = some (.int .i64 (A)) := (b4.cell (p := ⟨w2.heap.size, 0, none⟩) (by first | (simp; done) | (simp; omega) | omega)).trans (by first | with_reducible assumption | (simp [go_sem]; done) | (simp [go_sem, *]; done))
        have g4_1_0 : w4.frozen? ⟨w2.heap.size, 0, none⟩ = false := (b4.frozen (p := ⟨w2.heap.size, 0, none⟩) (by first | (simp; done) | (simp; omega) | omega)).trans (by first | with_reducible assumption | (simp [go_sem]; done) | (simp [go_sem, *]; done))
        have k4_1_1 : w4.cell? ⟨w2.heap.size, 1, none⟩ = some (.int .i64 (B)) := (b4.cell (p := ⟨w2.heap.size, 1, none⟩) (by first | (simp; done) | (simp; omega) | omega)).trans (by first | with_reducible assumption | (simp [go_sem]; done) | (simp [go_sem, *]; done))
        have g4_1_1 : w4.frozen? ⟨w2.heap.size, 1, none⟩ = false := (b4.frozen (p := ⟨w2.heap.size, 1, none⟩) (by first | (simp; done) | (simp; omega) | omega)).trans (by first | with_reducible assumption | (simp [go_sem]; done) | (simp [go_sem, *]; done))
        have k4_1_2 : w4.cell? ⟨w2.heap.size, 2, none⟩ = some (.int .i64 (C)) := (b4.cell (p := ⟨w2.heap.size, 2, none⟩) (by first | (simp; done) | (simp; omega) | omega)).trans (by first | with_reducible assumption | (simp [go_sem]; done) | (simp [go_sem, *]; done))
        have g4_1_2 : w4.frozen? ⟨w2.heap.size, 2, none⟩ = false := (b4.frozen (p := ⟨w2.heap.size, 2, none⟩) (by first | (simp; done) | (simp; omega) | omega)).trans (by first | with_reducible assumption | (simp [go_sem]; done) | (simp [go_sem, *]; done))
        have k4_1_3 : w4.cell? ⟨w2.heap.size, 3, none⟩ = some (.int .i64 (E)) := (b4.cell (p := ⟨w2.heap.size, 3, none⟩) (by first | (simp; done) | (simp; omega) | omega)).trans (by first | with_reducible assumption | (simp [go_sem]; done) | (simp [go_sem, *]; done))
        have g4_1_3 : w4.frozen? ⟨w2.heap.size, 3, none⟩ = false := (b4.frozen (p := ⟨w2.heap.size, 3, none⟩) (by first | (simp; done) | (simp; omega) | omega)).trans (by first | with_reducible assumption | (simp [go_sem]; done) | (simp [go_sem, *]; done))
        have z4_2 : w3.heap.size < w4.heap.size := by omega
        have k4_2_0 : w4.cell? ⟨w3.heap.size, 0, none⟩ = some (.int .i64 (A)) := (b4.cell (p := ⟨w3.heap.size, 0, none⟩) (by first | (simp; done) | (simp; omega) | omega)).trans (by first | with_reducible assumption | (simp [go_sem]; done) | (simp [go_sem, *]; done))
        have g4_2_0 : w4.frozen? ⟨w3.heap.size, 0, none⟩ = false := (b4.frozen (p := ⟨w3.heap.size, 0, none⟩) (by first | (simp; done) | (simp; omega) | omega)).trans (by first | with_reducible assumption | (simp [go_sem]; done) | (simp [go_sem, *]; done))
        have k4_2_1 : w4.cell? ⟨w3.heap.size, 1, none⟩ = some (.int .i64 (B)) := (b4.cell (p := ⟨w3.heap.size, 1, none⟩) (by first | (simp; done) | (simp; omega) | omega)).trans (by first | with_reducible assumption | (simp [go_sem]; done) | (simp [go_sem, *]; done))
        have g4_2_1 : w4.frozen? ⟨w3.heap.size, 1, none⟩ = false := (b4.frozen (p := ⟨w3.heap.size, 1, none⟩) (by first | (simp; done) | (simp; omega) | omega)).trans (by first | with_reducible assumption | (simp [go_sem]; done) | (simp [go_sem, *]; done))
        have k4_2_2 : w4.cell? ⟨w3.heap.size, 2, none⟩ = some (.int .i64 (C)) := (b4.cell (p := ⟨w3.heap.size, 2, none⟩) (by first | (simp; done) | (simp; omega) | omega)).trans (by first | with_reducible assumption | (simp [go_sem]; done) | (simp [go_sem, *]; done))
        have g4_2_2 : w4.frozen? ⟨w3.heap.size, 2, none⟩ = false := (b4.frozen (p := ⟨w3.heap.size, 2, none⟩) (by first | (simp; done) | (simp; omega) | omega)).trans (by first | with_reducible assumption | (simp [go_sem]; done) | (simp [go_sem, *]; done))
        have k4_2_3 : w4.cell? ⟨w3.heap.size, 3, none⟩ = some (.int .i64 (E)) := (b4.cell (p := ⟨w3.heap.size, 3, none⟩) (by first | (simp; done) | (simp; omega) | omega)).trans (by first | with_reducible assumption | (simp [go_sem]; done) | (simp [go_sem, *]; done))
        have g4_2_3 : w4.frozen? ⟨w3.heap.size, 3, none⟩ = false := (b4.frozen (p := ⟨w3.heap.size, 3, none⟩) (by first | (simp; done) | (simp; omega) | omega)).trans (by first | with_reducible assumption | (simp [go_sem]; done) | (simp [go_sem, *]; done))
        have z4_3 : w3.heap.size + 1 < w4.heap.size := by omega
        have k4_3_0 : w4.cell? ⟨w3.heap.size + 1, 0, none⟩ = some (.int .i64 (1)) := (b4.cell (p := ⟨w3.heap.size + 1, 0, none⟩) (by first | (simp; done) | (simp; omega) | omega)).trans (by first | with_reducible assumption | (simp [go_sem]; done) | (simp [go_sem, *]; done))
        have g4_3_0 : w4.frozen? ⟨w3.heap.size + 1, 0, none⟩ = false := (b4.frozen (p := ⟨w3.heap.size + 1, 0, none⟩) (by first | (simp; done) | (simp; omega) | omega)).trans (by first | with_reducible assumption | (simp [go_sem]; done) | (simp [go_sem, *]; done))
        have k4_3_1 : w4.cell? ⟨w3.heap.size + 1, 1, none⟩ = some (.int .i64 (0)) := (b4.cell (p := ⟨w3.heap.size + 1, 1, none⟩) (by first | (simp; done) | (simp; omega) | omega)).trans (by first | with_reducible assumption | (simp [go_sem]; done) | (simp [go_sem, *]; done))
        have g4_3_1 : w4.frozen? ⟨w3.heap.size + 1, 1, none⟩ = false := (b4.frozen (p := ⟨w3.heap.size + 1, 1, none⟩) (by first | (simp; done) | (simp; omega) | omega)).trans (by first | with_reducible assumption | (simp [go_sem]; done) | (simp [go_sem, *]; done))
        have k4_3_2 : w4.cell? ⟨w3.heap.size + 1, 2, none⟩ = some (.int .i64 (0)) := (b4.cell (p := ⟨w3.heap.size + 1, 2, none⟩) (by first | (simp; done) | (simp; omega) | omega)).trans (by first | with_reducible assumption | (simp [go_sem]; done) | (simp [go_sem, *]; done))
        have g4_3_2 : w4.frozen? ⟨w3.heap.size + 1, 2, none⟩ = false := (b4.frozen (p := ⟨w3.heap.size + 1, 2, none⟩) (by first | (simp; done) | (simp; omega) | omega)).trans (by first | with_reducible assumption | (simp [go_sem]; done) | (simp [go_sem, *]; done))
        have k4_3_3 : w4.cell? ⟨w3.heap.size + 1, 3, none⟩ = some (.int .i64 (1)) := (b4.cell (p := ⟨w3.heap.size + 1, 3, none⟩) (by first | (simp; done) | (simp; omega) | omega)).trans (by first | with_reducible assumption | (simp [go_sem]; done) | (simp [go_sem, *]; done))
        have g4_3_3 : w4.frozen? ⟨w3.heap.size + 1, 3, none⟩ = false := (b4.frozen (p := ⟨w3.heap.size + 1, 3, none⟩) (by first | (simp; done) | (simp; omega) | omega)).trans (by first | with_reducible assumption | (simp [go_sem]; done) | (simp [go_sem, *]; done))
        clear k3_0_0 g3_0_0 k3_0_1 g3_0_1 k3_0_2 g3_0_2 k3_0_3 g3_0_3 k3_1_0 g3_1_0 k3_1_1 g3_1_1 k3_1_2 g3_1_2 k3_1_3 g3_1_3
        go_wp2_with fail
        refine (K4.out _).mono ?_
        rintro e w5 ⟨rfl, b5⟩
        have s5 := b5.size
        try simp at s5
        have z5_0 : w1.heap.size < w5.heap.size := by omega
        have k5_0_0 : w5.cell? ⟨w1.heap.size, 0, none⟩ = some (.int .i64 (x)) := (b5.cell (p := ⟨w1.heap.size, 0, none⟩) (by first | (simp; done) | (simp; omega) | omega)).trans (by first | with_reducible assumption | (simp [go_sem]; done) | (simp [go_sem, *]; done))
        have g5_0_0 : w5.frozen? ⟨w1.heap.size, 0, none⟩ = false := (b5.frozen (p := ⟨w1.heap.size, 0, none⟩) (by first | (simp; done) | (simp; omega) | omega)).trans (by first | with_reducible assumption | (simp [go_sem]; done) | (simp [go_sem, *]; done))
        have k5_0_1 : w5.cell? ⟨w1.heap.size, 1, none⟩ = some (.int .i64 (y)) := (b5.cell (p := ⟨w1.heap.size, 1, none⟩) (by first | (simp; done) | (simp; omega) | omega)).trans (by first | with_reducible assumption | (simp [go_sem]; done) | (simp [go_sem, *]; done))
        have g5_0_1 : w5.frozen? ⟨w1.heap.size, 1, none⟩ = false := (b5.frozen (p := ⟨w1.heap.size, 1, none⟩) (by first | (simp; done) | (simp; omega) | omega)).trans (by first | with_reducible assumption | (simp [go_sem]; done) | (simp [go_sem, *]; done))
        have k5_0_2 : w5.cell? ⟨w1.heap.size, 2, none⟩ = some (.int .i64 (z)) := (b5.cell (p := ⟨w1.heap.size, 2, none⟩) (by first | (simp; done) | (simp; omega) | omega)).trans (by first | with_reducible assumption | (simp [go_sem]; done) | (simp [go_sem, *]; done))
        have g5_0_2 : w5.frozen? ⟨w1.heap.size, 2, none⟩ = false := (b5.frozen (p := ⟨w1.heap.size, 2, none⟩) (by first | (simp; done) | (simp; omega) | omega)).trans (by first | with_reducible assumption | (simp [go_sem]; done) | (simp [go_sem, *]; done))
        have k5_0_3 : w5.cell? ⟨w1.heap.size, 3, none⟩ = some (.int .i64 (u)) := (b5.cell (p := ⟨w1.heap.size, 3, none⟩) (by first | (simp; done) | (simp; omega) | omega)).trans (by first | with_reducible assumption | (simp [go_sem]; done) | (simp [go_sem, *]; done))
        have g5_0_3 : w5.frozen? ⟨w1.heap.size, 3, none⟩ = false := (b5.frozen (p := ⟨w1.heap.size, 3, none⟩) (by first | (simp; done) | (simp; omega) | omega)).trans (by first | with_reducible assumption | (simp [go_sem]; done) | (simp [go_sem, *]; done))
        have z5_1 : w2.heap.size < w5.heap.size := by omega
        have k5_1_0 : w5.cell? ⟨w2.heap.size, 0, none⟩ = some (.int .i64 (A)) := (b5.cell (p := ⟨w2.heap.size, 0, none⟩) (by first | (simp; done) | (simp; omega) | omega)).trans (by first | with_reducible assumption | (simp [go_sem]; done) | (simp [go_sem, *]; done))
        have g5_1_0 : w5.frozen? ⟨w2.heap.size, 0, none⟩ = false := (b5.frozen (p := ⟨w2.heap.size, 0, none⟩) (by first | (simp; done) | (simp; omega) | omega)).trans (by first | with_reducible assumption | (simp [go_sem]; done) | (simp [go_sem, *]; done))
        have k5_1_1 : w5.cell? ⟨w2.heap.size, 1, none⟩ = some (.int .i64 (B)) := (b5.cell (p := ⟨w2.heap.size, 1, none⟩) (by first | (simp; done) | (simp; omega) | omega)).trans (by first | with_reducible assumption | (simp [go_sem]; done) | (simp [go_sem, *]; done))
        have g5_1_1 : w5.frozen? ⟨w2.heap.size, 1, none⟩ = false := (b5.frozen (p := ⟨w2.heap.size, 1, none⟩) (by first | (simp; done) | (simp; omega) | omega)).trans (by first | with_reducible assumption | (simp [go_sem]; done) | (simp [go_sem, *]; done))
        have k5_1_2 : w5.cell? ⟨w2.heap.size, 2, none⟩ = some (.int .i64 (C)) := (b5.cell (p := ⟨w2.heap.size, 2, none⟩) (by first | (simp; done) | (simp; omega) | omega)).trans (by first | with_reducible assumption | (simp [go_sem]; done) | (simp [go_sem, *]; done))
        have g5_1_2 : w5.frozen? ⟨w2.heap.size, 2, none⟩ = false := (b5.frozen (p := ⟨w2.heap.size, 2, none⟩) (by first | (simp; done) | (simp; omega) | omega)).trans (by first | with_reducible assumption | (simp [go_sem]; done) | (simp [go_sem, *]; done))
        have k5_1_3 : w5.cell? ⟨w2.heap.size, 3, none⟩ = some (.int .i64 (E)) := (b5.cell (p := ⟨w2.heap.size, 3, none⟩) (by first | (simp; done) | (simp; omega) | omega)).trans (by first | with_reducible assumption | (simp [go_sem]; done) | (simp [go_sem, *]; done))
        have g5_1_3 : w5.frozen? ⟨w2.heap.size, 3, none⟩ = false := (b5.frozen (p := ⟨w2.heap.size, 3, none⟩) (by first | (simp; done) | (simp; omega) | omega)).trans (by first | with_reducible assumption | (simp [go_sem]; done) | (simp [go_sem, *]; done))
        have z5_2 : w3.heap.size < w5.heap.size := by omega
        have k5_2_0 : w5.cell? ⟨w3.heap.size, 0, none⟩ = some (.int .i64 (A)) := (b5.cell (p := ⟨w3.heap.size, 0, none⟩) (by first | (simp; done) | (simp; omega) | omega)).trans (by first | with_reducible assumption | (simp [go_sem]; done) | (simp [go_sem, *]; done))
        have g5_2_0 : w5.frozen? ⟨w3.heap.size, 0, none⟩ = false := (b5.frozen (p := ⟨w3.heap.size, 0, none⟩) (by first | (simp; done) | (simp; omega) | omega)).trans (by first | with_reducible assumption | (simp [go_sem]; done) | (simp [go_sem, *]; done))
        have k5_2_1 : w5.cell? ⟨w3.heap.size, 1, none⟩ = some (.int .i64 (B)) := (b5.cell (p := ⟨w3.heap.size, 1, none⟩) (by first | (simp; done) | (simp; omega) | omega)).trans (by first | with_reducible assumption | (simp [go_sem]; done) | (simp [go_sem, *]; done))
        have g5_2_1 : w5.frozen? ⟨w3.heap.size, 1, none⟩ = false := (b5.frozen (p := ⟨w3.heap.size, 1, none⟩) (by first | (simp; done) | (simp; omega) | omega)).trans (by first | with_reducible assumption | (simp [go_sem]; done) | (simp [go_sem, *]; done))
        have k5_2_2 : w5.cell? ⟨w3.heap.size, 2, none⟩ = some (.int .i64 (C)) := (b5.cell (p := ⟨w3.heap.size, 2, none⟩) (by first | (simp; done) | (simp; omega) | omega)).trans (by first | with_reducible assumption | (simp [go_sem]; done) | (simp [go_sem, *]; done))
        have g5_2_2 : w5.frozen? ⟨w3.heap.size, 2, none⟩ = false := (b5.frozen (p := ⟨w3.heap.size, 2, none⟩) (by first | (simp; done) | (simp; omega) | omega)).trans (by first | with_reducible assumption | (simp [go_sem]; done) | (simp [go_sem, *]; done))
        have k5_2_3 : w5.cell? ⟨w3.heap.size, 3, none⟩ = some (.int .i64 (E)) := (b5.cell (p := ⟨w3.heap.size, 3, none⟩) (by first | (simp; done) | (simp; omega) | omega)).trans (by first | with_reducible assumption | (simp [go_sem]; done) | (simp [go_sem, *]; done))
        have g5_2_3 : w5.frozen? ⟨w3.heap.size, 3, none⟩ = false := (b5.frozen (p := ⟨w3.heap.size, 3, none⟩) (by first | (simp; done) | (simp; omega) | omega)).trans (by first | with_reducible assumption | (simp [go_sem]; done) | (simp [go_sem, *]; done))
        have z5_3 : w3.heap.size + 1 < w5.heap.size := by omega
        have k5_3_0 : w5.cell? ⟨w3.heap.size + 1, 0, none⟩ = some (.int .i64 (1)) := (b5.cell (p := ⟨w3.heap.size + 1, 0, none⟩) (by first | (simp; done) | (simp; omega) | omega)).trans (by first | with_reducible assumption | (simp [go_sem]; done) | (simp [go_sem, *]; done))
        have g5_3_0 : w5.frozen? ⟨w3.heap.size + 1, 0, none⟩ = false := (b5.frozen (p := ⟨w3.heap.size + 1, 0, none⟩) (by first | (simp; done) | (simp; omega) | omega)).trans (by first | with_reducible assumption | (simp [go_sem]; done) | (simp [go_sem, *]; done))
        have k5_3_1 : w5.cell? ⟨w3.heap.size + 1, 1, none⟩ = some (.int .i64 (0)) := (b5.cell (p := ⟨w3.heap.size + 1, 1, none⟩) (by first | (simp; done) | (simp; omega) | omega)).trans (by first | with_reducible assumption | (simp [go_sem]; done) | (simp [go_sem, *]; done))
        have g5_3_1 : w5.frozen? ⟨w3.heap.size + 1, 1, none⟩ = false := (b5.frozen (p := ⟨w3.heap.size + 1, 1, none⟩) (by first | (simp; done) | (simp; omega) | omega)).trans (by first | with_reducible assumption | (simp [go_sem]; done) | (simp [go_sem, *]; done))
        have k5_3_2 : w5.cell? ⟨w3.heap.size + 1, 2, none⟩ = some (.int .i64 (0)) := (b5.cell (p := ⟨w3.heap.size + 1, 2, none⟩) (by first | (simp; done) | (simp; omega) | omega)).trans (by first | with_reducible assumption | (simp [go_sem]; done) | (simp [go_sem, *]; done))
        have g5_3_2 : w5.frozen? ⟨w3.heap.size + 1, 2, none⟩ = false := (b5.frozen (p := ⟨w3.heap.size + 1, 2, none⟩) (by first | (simp; done) | (simp; omega) | omega)).trans (by first | with_reducible assumption | (simp [go_sem]; done) | (simp [go_sem, *]; done))
        have k5_3_3 : w5.cell? ⟨w3.heap.size + 1, 3, none⟩ = some (.int .i64 (1)) := (b5.cell (p := ⟨w3.heap.size + 1, 3, none⟩) (by first | (simp; done) | (simp; omega) | omega)).trans (by first | with_reducible assumption | (simp [go_sem]; done) | (simp [go_sem, *]; done))
        have g5_3_3 : w5.frozen? ⟨w3.heap.size + 1, 3, none⟩ = false := (b5.frozen (p := ⟨w3.heap.size + 1, 3, none⟩) (by first | (simp; done) | (simp; omega) | omega)).trans (by first | with_reducible assumption | (simp [go_sem]; done) | (simp [go_sem, *]; done))
        have z5_4 : w4.heap.size < w5.heap.size := by omega
        have k5_4_0 : w5.cell? ⟨w4.heap.size, 0, none⟩ = some (.int .i64 (1)) := (b5.cell (p := ⟨w4.heap.size, 0, none⟩) (by first | (simp; done) | (simp; omega) | omega)).trans (by first | with_reducible assumption | (simp [go_sem]; done) | (simp [go_sem, *]; done))
        have g5_4_0 : w5.frozen? ⟨w4.heap.size, 0, none⟩ = false := (b5.frozen (p := ⟨w4.heap.size, 0, none⟩) (by first | (simp; done) | (simp; omega) | omega)).trans (by first | with_reducible assumption | (simp [go_sem]; done) | (simp [go_sem, *]; done))
        have k5_4_1 : w5.cell? ⟨w4.heap.size, 1, none⟩ = some (.int .i64 (0)) := (b5.cell (p := ⟨w4.heap.size, 1, none⟩) (by first | (simp; done) | (simp; omega) | omega)).trans (by first | with_reducible assumption | (simp [go_sem]; done) | (simp [go_sem, *]; done))
        have g5_4_1 : w5.frozen? ⟨w4.heap.size, 1, none⟩ = false := (b5.frozen (p := ⟨w4.heap.size, 1, none⟩) (by first | (simp; done) | (simp; omega) | omega)).trans (by first | with_reducible assumption | (simp [go_sem]; done) | (simp [go_sem, *]; done))
        have k5_4_2 : w5.cell? ⟨w4.heap.size, 2, none⟩ = some (.int .i64 (0)) := (b5.cell (p := ⟨w4.heap.size, 2, none⟩) (by first | (simp; done) | (simp; omega) | omega)).trans (by first | with_reducible assumption | (simp [go_sem]; done) | (simp [go_sem, *]; done))
        have g5_4_2 : w5.frozen? ⟨w4.heap.size, 2, none⟩ = false := (b5.frozen (p := ⟨w4.heap.size, 2, none⟩) (by first | (simp; done) | (simp; omega) | omega)).trans (by first | with_reducible assumption | (simp [go_sem]; done) | (simp [go_sem, *]; done))
        have k5_4_3 : w5.cell? ⟨w4.heap.size, 3, none⟩ = some (.int .i64 (1)) := (b5.cell (p := ⟨w4.heap.size, 3, none⟩) (by first | (simp; done) | (simp; omega) | omega)).trans (by first | with_reducible assumption | (simp [go_sem]; done) | (simp [go_sem, *]; done))
        have g5_4_3 : w5.frozen? ⟨w4.heap.size, 3, none⟩ = false := (b5.frozen (p := ⟨w4.heap.size, 3, none⟩) (by first | (simp; done) | (simp; omega) | omega)).trans (by first | with_reducible assumption | (simp [go_sem]; done) | (simp [go_sem, *]; done))
        clear k4_0_0 g4_0_0 k4_0_1 g4_0_1 k4_0_2 g4_0_2 k4_0_3 g4_0_3 k4_1_0 g4_1_0 k4_1_1 g4_1_1 k4_1_2 g4_1_2 k4_1_3 g4_1_3 k4_2_0 g4_2_0 k4_2_1 g4_2_1 k4_2_2 g4_2_2 k4_2_3 g4_2_3 k4_3_0 g4_3_0 k4_3_1 g4_3_1 k4_3_2 g4_3_2 k4_3_3 g4_3_3
        go_wp2_with fail
        refine (K5.out _).mono ?_
        rintro e w6 ⟨rfl, b6⟩
        have s6 := b6.size
        try simp at s6
        have z6_0 : w1.heap.size < w6.heap.size := by omega
        have k6_0_0 : w6.cell? ⟨w1.heap.size, 0, none⟩ = some (.int .i64 (x)) := (b6.cell (p := ⟨w1.heap.size, 0, none⟩) (by first | (simp; done) | (simp; omega) | omega)).trans (by first | with_reducible assumption | (simp [go_sem]; done) | (simp [go_sem, *]; done))
        have g6_0_0 : w6.frozen? ⟨w1.heap.size, 0, none⟩ = false := (b6.frozen (p := ⟨w1.heap.size, 0, none⟩) (by first | (simp; done) | (simp; omega) | omega)).trans (by first | with_reducible assumption | (simp [go_sem]; done) | (simp [go_sem, *]; done))
        have k6_0_1 : w6.cell? ⟨w1.heap.size, 1, none⟩ = some (.int .i64 (y)) := (b6.cell (p := ⟨w1.heap.size, 1, none⟩) (by first | (simp; done) | (simp; omega) | omega)).trans (by first | with_reducible assumption | (simp [go_sem]; done) | (simp [go_sem, *]; done))
        have g6_0_1 : w6.frozen? ⟨w1.heap.size, 1, none⟩ = false := (b6.frozen (p := ⟨w1.heap.size, 1, none⟩) (by first | (simp; done) | (simp; omega) | omega)).trans (by first | with_reducible assumption | (simp [go_sem]; done) | (simp [go_sem, *]; done))
        have k6_0_2 : w6.cell? ⟨w1.heap.size, 2, none⟩ = some (.int .i64 (z)) := (b6.cell (p := ⟨w1.heap.size, 2, none⟩) (by first | (simp; done) | (simp; omega) | omega)).trans (by first | with_reducible assumption | (simp [go_sem]; done) | (simp [go_sem, *]; done))
        have g6_0_2 : w6.frozen? ⟨w1.heap.size, 2, none⟩ = false := (b6.frozen (p := ⟨w1.heap.size, 2, none⟩) (by first | (simp; done) | (simp; omega) | omega)).trans (by first | with_reducible assumption | (simp [go_sem]; done) | (simp [go_sem, *]; done))
        have k6_0_3 : w6.cell? ⟨w1.heap.size, 3, none⟩ = some (.int .i64 (u)) := (b6.cell (p := ⟨w1.heap.size, 3, none⟩) (by first | (simp; done) | (simp; omega) | omega)).trans (by first | with_reducible assumption | (simp [go_sem]; done) | (simp [go_sem, *]; done))
        have g6_0_3 : w6.frozen? ⟨w1.heap.size, 3, none⟩ = false := (b6.frozen (p := ⟨w1.heap.size, 3, none⟩) (by first | (simp; done) | (simp; omega) | omega)).trans (by first | with_reducible assumption | (simp [go_sem]; done) | (simp [go_sem, *]; done))
        have z6_1 : w2.heap.size < w6.heap.size := by omega
        have k6_1_0 : w6.cell? ⟨w2.heap.size, 0, none⟩ = some (.int .i64 (A)) := (b6.cell (p := ⟨w2.heap.size, 0, none⟩) (by first | (simp; done) | (simp; omega) | omega)).trans (by first | with_reducible assumption | (simp [go_sem]; done) | (simp [go_sem, *]; done))
        have g6_1_0 : w6.frozen? ⟨w2.heap.size, 0, none⟩ = false := (b6.frozen (p := ⟨w2.heap.size, 0, none⟩) (by first | (simp; done) | (simp; omega) | omega)).trans (by first | with_reducible assumption | (simp [go_sem]; done) | (simp [go_sem, *]; done))
        have k6_1_1 : w6.cell? ⟨w2.heap.size, 1, none⟩ = some (.int .i64 (B)) := (b6.cell (p := ⟨w2.heap.size, 1, none⟩) (by first | (simp; done) | (simp; omega) | omega)).trans (by first | with_reducible assumption | (simp [go_sem]; done) | (simp [go_sem, *]; done))
        have g6_1_1 : w6.frozen? ⟨w2.heap.size, 1, none⟩ = false := (b6.frozen (p := ⟨w2.heap.size, 1, none⟩) (by first | (simp; done) | (simp; omega) | omega)).trans (by first | with_reducible assumption | (simp [go_sem]; done) | (simp [go_sem, *]; done))
        have k6_1_2 : w6.cell? ⟨w2.heap.size, 2, none⟩ = some (.int .i64 (C)) := (b6.cell (p := ⟨w2.heap.size, 2, none⟩) (by first | (simp; done) | (simp; omega) | omega)).trans (by first | with_reducible assumption | (simp [go_sem]; done) | (simp [go_sem, *]; done))
        have g6_1_2 : w6.frozen? ⟨w2.heap.size, 2, none⟩ = false := (b6.frozen (p := ⟨w2.heap.size, 2, none⟩) (by first | (simp; done) | (simp; omega) | omega)).trans (by first | with_reducible assumption | (simp [go_sem]; done) | (simp [go_sem, *]; done))
        have k6_1_3 : w6.cell? ⟨w2.heap.size, 3, none⟩ = some (.int .i64 (E)) := (b6.cell (p := ⟨w2.heap.size, 3, none⟩) (by first | (simp; done) | (simp; omega) | omega)).trans (by first | with_reducible assumption | (simp [go_sem]; done) | (simp [go_sem, *]; done))
        have g6_1_3 : w6.frozen? ⟨w2.heap.size, 3, none⟩ = false := (b6.frozen (p := ⟨w2.heap.size, 3, none⟩) (by first | (simp; done) | (simp; omega) | omega)).trans (by first | with_reducible assumption | (simp [go_sem]; done) | (simp [go_sem, *]; done))
        have z6_2 : w3.heap.size < w6.heap.size := by omega
        have k6_2_0 : w6.cell? ⟨w3.heap.size, 0, none⟩ = some (.int .i64 (A)) := (b6.cell (p := ⟨w3.heap.size, 0, none⟩) (by first | (simp; done) | (simp; omega) | omega)).trans (by first | with_reducible assumption | (simp [go_sem]; done) | (simp [go_sem, *]; done))
        have g6_2_0 : w6.frozen? ⟨w3.heap.size, 0, none⟩ = false := (b6.frozen (p := ⟨w3.heap.size, 0, none⟩) (by first | (simp; done) | (simp; omega) | omega)).trans (by first | with_reducible assumption | (simp [go_sem]; done) | (simp [go_sem, *]; done))
        have k6_2_1 : w6.cell? ⟨w3.heap.size, 1, none⟩ = some (.int .i64 (B)) := (b6.cell (p := ⟨w3.heap.size, 1, none⟩) (by first | (simp; done) | (simp; omega) | omega)).trans (by first | with_reducible assumption | (simp [go_sem]; done) | (simp [go_sem, *]; done))
        have g6_2_1 : w6.frozen? ⟨w3.heap.size, 1, none⟩ = false := (b6.frozen (p := ⟨w3.heap.size, 1, none⟩) (by first | (simp; done) | (simp; omega) | omega)).trans (by first | with_reducible assumption | (simp [go_sem]; done) | (simp [go_sem, *]; done))
        have k6_2_2 : w6.cell? ⟨w3.heap.size, 2, none⟩ = some (.int .i64 (C)) := (b6.cell (p := ⟨w3.heap.size, 2, none⟩) (by first | (simp; done) | (simp; omega) | omega)).trans (by first | with_reducible assumption | (simp [go_sem]; done) | (simp [go_sem, *]; done))
        have g6_2_2 : w6.frozen? ⟨w3.heap.size, 2, none⟩ = false := (b6.frozen (p := ⟨w3.heap.size, 2, none⟩) (by first | (simp; done) | (simp; omega) | omega)).trans (by first | with_reducible assumption | (simp [go_sem]; done) | (simp [go_sem, *]; done))
        have k6_2_3 : w6.cell? ⟨w3.heap.size, 3, none⟩ = some (.int .i64 (E)) := (b6.cell (p := ⟨w3.heap.size, 3, none⟩) (by first | (simp; done) | (simp; omega) | omega)).trans (by first | with_reducible assumption | (simp [go_sem]; done) | (simp [go_sem, *]; done))
        have g6_2_3 : w6.frozen? ⟨w3.heap.size, 3, none⟩ = false := (b6.frozen (p := ⟨w3.heap.size, 3, none⟩) (by first | (simp; done) | (simp; omega) | omega)).trans (by first | with_reducible assumption | (simp [go_sem]; done) | (simp [go_sem, *]; done))
        have z6_3 : w3.heap.size + 1 < w6.heap.size := by omega
        have k6_3_0 : w6.cell? ⟨w3.heap.size + 1, 0, none⟩ = some (.int .i64 (1)) := (b6.cell (p := ⟨w3.heap.size + 1, 0, none⟩) (by first | (simp; done) | (simp; omega) | omega)).trans (by first | with_reducible assumption | (simp [go_sem]; done) | (simp [go_sem, *]; done))
        have g6_3_0 : w6.frozen? ⟨w3.heap.size + 1, 0, none⟩ = false := (b6.frozen (p := ⟨w3.heap.size + 1, 0, none⟩) (by first | (simp; done) | (simp; omega) | omega)).trans (by first | with_reducible assumption | (simp [go_sem]; done) | (simp [go_sem, *]; done))
        have k6_3_1 : w6.cell? ⟨w3.heap.size + 1, 1, none⟩ = some (.int .i64 (0)) := (b6.cell (p := ⟨w3.heap.size + 1, 1, none⟩) (by first | (simp; done) | (simp; omega) | omega)).trans (by first | with_reducible assumption | (simp [go_sem]; done) | (simp [go_sem, *]; done))
        have g6_3_1 : w6.frozen? ⟨w3.heap.size + 1, 1, none⟩ = false := (b6.frozen (p := ⟨w3.heap.size + 1, 1, none⟩) (by first | (simp; done) | (simp; omega) | omega)).trans (by first | with_reducible assumption | (simp [go_sem]; done) | (simp [go_sem, *]; done))
        have k6_3_2 : w6.cell? ⟨w3.heap.size + 1, 2, none⟩ = some (.int .i64 (0)) := (b6.cell (p := ⟨w3.heap.size + 1, 2, none⟩) (by first | (simp; done) | (simp; omega) | omega)).trans (by first | with_reducible assumption | (simp [go_sem]; done) | (simp [go_sem, *]; done))
        have g6_3_2 : w6.frozen? ⟨w3.heap.size + 1, 2, none⟩ = false := (b6.frozen (p := ⟨w3.heap.size + 1, 2, none⟩) (by first | (simp; done) | (simp; omega) | omega)).trans (by first | with_reducible assumption | (simp [go_sem]; done) | (simp [go_sem, *]; done))
        have k6_3_3 : w6.cell? ⟨w3.heap.size + 1, 3, none⟩ = some (.int .i64 (1)) := (b6.cell (p := ⟨w3.heap.size + 1, 3, none⟩) (by first | (simp; done) | (simp; omega) | omega)).trans (by first | with_reducible assumption | (simp [go_sem]; done) | (simp [go_sem, *]; done))
        have g6_3_3 : w6.frozen? ⟨w3.heap.size + 1, 3, none⟩ = false := (b6.frozen (p := ⟨w3.heap.size + 1, 3, none⟩) (by first | (simp; done) | (simp; omega) | omega)).trans (by first | with_reducible assumption | (simp [go_sem]; done) | (simp [go_sem, *]; done))
        have z6_4 : w4.heap.size < w6.heap.size := by omega
        have k6_4_0 : w6.cell? ⟨w4.heap.size, 0, none⟩ = some (.int .i64 (1)) := (b6.cell (p := ⟨w4.heap.size, 0, none⟩) (by first | (simp; done) | (simp; omega) | omega)).trans (by first | with_reducible assumption | (simp [go_sem]; done) | (simp [go_sem, *]; done))
        have g6_4_0 : w6.frozen? ⟨w4.heap.size, 0, none⟩ = false := (b6.frozen (p := ⟨w4.heap.size, 0, none⟩) (by first | (simp; done) | (simp; omega) | omega)).trans (by first | with_reducible assumption | (simp [go_sem]; done) | (simp [go_sem, *]; done))
        have k6_4_1 : w6.cell? ⟨w4.heap.size, 1, none⟩ = some (.int .i64 (0)) := (b6.cell (p := ⟨w4.heap.size, 1, none⟩) (by first | (simp; done) | (simp; omega) | omega)).trans (by first | with_reducible assumption | (simp [go_sem]; done) | (simp [go_sem, *]; done))
        have g6_4_1 : w6.frozen? ⟨w4.heap.size, 1, none⟩ = false := (b6.frozen (p := ⟨w4.heap.size, 1, none⟩) (by first | (simp; done) | (simp; omega) | omega)).trans (by first | with_reducible assumption | (simp [go_sem]; done) | (simp [go_sem, *]; done))
        have k6_4_2 : w6.cell? ⟨w4.heap.size, 2, none⟩ = some (.int .i64 (0)) := (b6.cell (p := ⟨w4.heap.size, 2, none⟩) (by first | (simp; done) | (simp; omega) | omega)).trans (by first | with_reducible assumption | (simp [go_sem]; done) | (simp [go_sem, *]; done))
        have g6_4_2 : w6.frozen? ⟨w4.heap.size, 2, none⟩ = false := (b6.frozen (p := ⟨w4.heap.size, 2, none⟩) (by first | (simp; done) | (simp; omega) | omega)).trans (by first | with_reducible assumption | (simp [go_sem]; done) | (simp [go_sem, *]; done))
        have k6_4_3 : w6.cell? ⟨w4.heap.size, 3, none⟩ = some (.int .i64 (1)) := (b6.cell (p := ⟨w4.heap.size, 3, none⟩) (by first | (simp; done) | (simp; omega) | omega)).trans (by first | with_reducible assumption | (simp [go_sem]; done) | (simp [go_sem, *]; done))
        have g6_4_3 : w6.frozen? ⟨w4.heap.size, 3, none⟩ = false := (b6.frozen (p := ⟨w4.heap.size, 3, none⟩) (by first | (simp; done) | (simp; omega) | omega)).trans (by first | with_reducible assumption | (simp [go_sem]; done) | (simp [go_sem, *]; done))
        have z6_5 : w5.heap.size < w6.heap.size := by omega
        have k6_5_0 : w6.cell? ⟨w5.heap.size, 0, none⟩ = some (.int .i64 (1)) := (b6.cell (p := ⟨w5.heap.size, 0, none⟩) (by first | (simp; done) | (simp; omega) | omega)).trans (by first | with_reducible assumption | (simp [go_sem]; done) | (simp [go_sem, *]; done))
        have g6_5_0 : w6.frozen? ⟨w5.heap.size, 0, none⟩ = false := (b6.frozen (p := ⟨w5.heap.size, 0, none⟩) (by first | (simp; done) | (simp; omega) | omega)).trans (by first | with_reducible assumption | (simp [go_sem]; done) | (simp [go_sem, *]; done))
        have k6_5_1 : w6.cell? ⟨w5.heap.size, 1, none⟩ = some (.int .i64 (0)) := (b6.cell (p := ⟨w5.heap.size, 1, none⟩) (by first | (simp; done) | (simp; omega) | omega)).trans (by first | with_reducible assumption | (simp [go_sem]; done) | (simp [go_sem, *]; done))
        have g6_5_1 : w6.frozen? ⟨w5.heap.size, 1, none⟩ = false := (b6.frozen (p := ⟨w5.heap.size, 1, none⟩) (by first | (simp; done) | (simp; omega) | omega)).trans (by first | with_reducible assumption | (simp [go_sem]; done) | (simp [go_sem, *]; done))
        have k6_5_2 : w6.cell? ⟨w5.heap.size, 2, none⟩ = some (.int .i64 (0)) := (b6.cell (p := ⟨w5.heap.size, 2, none⟩) (by first | (simp; done) | (simp; omega) | omega)).trans (by first | with_reducible assumption | (simp [go_sem]; done) | (simp [go_sem, *]; done))
        have g6_5_2 : w6.frozen? ⟨w5.heap.size, 2, none⟩ = false := (b6.frozen (p := ⟨w5.heap.size, 2, none⟩) (by first | (simp; done) | (simp; omega) | omega)).trans (by first | with_reducible assumption | (simp [go_sem]; done) | (simp [go_sem, *]; done))
        have k6_5_3 : w6.cell? ⟨w5.heap.size, 3, none⟩ = some (.int .i64 (1)) := (b6.cell (p := ⟨w5.heap.size, 3, none⟩) (by first | (simp; done) | (simp; omega) | omega)).trans (by first | with_reducible assumption | (simp [go_sem]; done) | (simp [go_sem, *]; done))
        have g6_5_3 : w6.frozen? ⟨w5.heap.size, 3, none⟩ = false := (b6.frozen (p := ⟨w5.heap.size, 3, none⟩) (by first | (simp; done) | (simp; omega) | omega)).trans (by first | with_reducible assumption | (simp [go_sem]; done) | (simp [go_sem, *]; done))
        clear k5_0_0 g5_0_0 k5_0_1 g5_0_1 k5_0_2 g5_0_2 k5_0_3 g5_0_3 k5_1_0 g5_1_0 k5_1_1 g5_1_1 k5_1_2 g5_1_2 k5_1_3 g5_1_3 k5_2_0 g5_2_0 k5_2_1 g5_2_1 k5_2_2 g5_2_2 k5_2_3 g5_2_3 k5_3_0 g5_3_0 k5_3_1 g5_3_1 k5_3_2 g5_3_2 k5_3_3 g5_3_3 k5_4_0 g5_4_0 k5_4_1 g5_4_1 k5_4_2 g5_4_2 k5_4_3 g5_4_3
        go_wp2
        go_ret
        exact ⟨rfl, (by (repeat (first | with_reducible exact Below.refl _ _ | with_reducible refine bl_alloc ?_ _ | with_reducible refine bl_drew ?_ | with_reducible refine bl_set ?_ (by first | (simp; done) | (simp; omega)) _ | with_reducible refine bl_call (by assumption) ?_)))⟩
      ·
        have n1 : (D == 1) = false := by simp; omega
        have n2 : (D == -1) = false := by simp; omega
        have n3 : (D != 1) = true := by simp; omega
        have n4 : (D != -1) = true := by simp; omega
        have hi : invB x y z u = false := by unfold invB; rw [hD, n1, n2]; simp
        have eA : InA x y z u = 0 := by simp [InA, hi]
        have eB : InB x y z u = 0 := by simp [InB, hi]
        have eC : InC x y z u = 0 := by simp [InC, hi]
        have eD : InD x y z u = 0 := by simp [InD, hi]
        have K1 : Hid (∀ W : World, Calls Try.prog 36 #[.agg #[.int .i64 x, .int .i64 y, .int .i64 z, .int .i64 u]] W fun e w' => e = .returned (.tuple #[.agg #[.int .i64 0, .int .i64 0, .int .i64 0, .int .i64 0], .bool false]) ∧ Below W.heap.size W w') := Lib.hid fun W => by
          have h := impl_InvertMatrix (x) (y) (z) (u) W
          rw [eA, eB, eC, eD, hi] at h
          exact h
        have K2 : Hid (∀ W : World, Calls Try.prog 37 #[.agg #[.int .i64 x, .int .i64 y, .int .i64 z, .int .i64 u]] W fun e w' => e = .returned (.tuple #[.agg #[.int .i64 0, .int .i64 0, .int .i64 0, .int .i64 0], .bool false]) ∧ Below W.heap.size W w') := Lib.hid fun W => by
          have h := spec_InvertMatrix (x) (y) (z) (u) W
          rw [eA, eB, eC, eD, hi] at h
          exact h
        have K3 : Hid (∀ W : World, Calls Try.prog 34 #[.agg #[.int .i64 x, .int .i64 y, .int .i64 z, .int .i64 u]] W fun e w' => e = .returned (.int .i64 D) ∧ Below W.heap.size W w') := Lib.hid fun W => by
          have h := impl_Determinant (x) (y) (z) (u) W
          rw [d0] at h
          exact h
        clear eA eB eC eD hi d0 hD hv h1
        go_wp2_with fail
        refine (K1.out _).mono ?_
        rintro e w2 ⟨rfl, b2⟩
        have s2 := b2.size
        try simp at s2
        have z2_0 : w1.heap.size < w2.heap.size := by omega
        have k2_0_0 : w2.cell? ⟨w1.heap.size, 0, none⟩ = some (.int .i64 (x)) := (b2.cell (p := ⟨w1.heap.size, 0, none⟩) (by first | (simp; done) | (simp; omega) | omega)).trans (by first | with_reducible assumption | (simp [go_sem]; done) | (simp [go_sem, *]; done))
        have g2_0_0 : w2.frozen? ⟨w1.heap.size, 0, none⟩ = false := (b2.frozen (p := ⟨w1.heap.size, 0, none⟩) (by first | (simp; done) | (simp; omega) | omega)).trans (by first | with_reducible assumption | (simp [go_sem]; done) | (simp [go_sem, *]; done))
        have k2_0_1 : w2.cell? ⟨w1.heap.size, 1, none⟩ = some (.int .i64 (y)) := (b2.cell (p := ⟨w1.heap.size, 1, none⟩) (by first | (simp; done) | (simp; omega) | omega)).trans (by first | with_reducible assumption | (simp [go_sem]; done) | (simp [go_sem, *]; done))
        have g2_0_1 : w2.frozen? ⟨w1.heap.size, 1, none⟩ = false := (b2.frozen (p := ⟨w1.heap.size, 1, none⟩) (by first | (simp; done) | (simp; omega) | omega)).trans (by first | with_reducible assumption | (simp [go_sem]; done) | (simp [go_sem, *]; done))
        have k2_0_2 : w2.cell? ⟨w1.heap.size, 2, none⟩ = some (.int .i64 (z)) := (b2.cell (p := ⟨w1.heap.size, 2, none⟩) (by first | (simp; done) | (simp; omega) | omega)).trans (by first | with_reducible assumption | (simp [go_sem]; done) | (simp [go_sem, *]; done))
        have g2_0_2 : w2.frozen? ⟨w1.heap.size, 2, none⟩ = false := (b2.frozen (p := ⟨w1.heap.size, 2, none⟩) (by first | (simp; done) | (simp; omega) | omega)).trans (by first | with_reducible assumption | (simp [go_sem]; done) | (simp [go_sem, *]; done))
        have k2_0_3 : w2.cell? ⟨w1.heap.size, 3, none⟩ = some (.int .i64 (u)) := (b2.cell (p := ⟨w1.heap.size, 3, none⟩) (by first | (simp; done) | (simp; omega) | omega)).trans (by first | with_reducible assumption | (simp [go_sem]; done) | (simp [go_sem, *]; done))
        have g2_0_3 : w2.frozen? ⟨w1.heap.size, 3, none⟩ = false := (b2.frozen (p := ⟨w1.heap.size, 3, none⟩) (by first | (simp; done) | (simp; omega) | omega)).trans (by first | with_reducible assumption | (simp [go_sem]; done) | (simp [go_sem, *]; done))
        go_wp2_with fail
        refine (K2.out _).mono ?_
        rintro e w3 ⟨rfl, b3⟩
        have s3 := b3.size
        try simp at s3
        have z3_0 : w1.heap.size < w3.heap.size := by omega
        have k3_0_0 : w3.cell? ⟨w1.heap.size, 0, none⟩ = some (.int .i64 (x)) := (b3.cell (p := ⟨w1.heap.size, 0, none⟩) (by first | (simp; done) | (simp; omega) | omega)).trans (by first | with_reducible assumption | (simp [go_sem]; done) | (simp [go_sem, *]; done))
        have g3_0_0 : w3.frozen? ⟨w1.heap.size, 0, none⟩ = false := (b3.frozen (p := ⟨w1.heap.size, 0, none⟩) (by first | (simp; done) | (simp; omega) | omega)).trans (by first | with_reducible assumption | (simp [go_sem]; done) | (simp [go_sem, *]; done))
        have k3_0_1 : w3.cell? ⟨w1.heap.size, 1, none⟩ = some (.int .i64 (y)) := (b3.cell (p := ⟨w1.heap.size, 1, none⟩) (by first | (simp; done) | (simp; omega) | omega)).trans (by first | with_reducible assumption | (simp [go_sem]; done) | (simp [go_sem, *]; done))
        have g3_0_1 : w3.frozen? ⟨w1.heap.size, 1, none⟩ = false := (b3.frozen (p := ⟨w1.heap.size, 1, none⟩) (by first | (simp; done) | (simp; omega) | omega)).trans (by first | with_reducible assumption | (simp [go_sem]; done) | (simp [go_sem, *]; done))
        have k3_0_2 : w3.cell? ⟨w1.heap.size, 2, none⟩ = some (.int .i64 (z)) := (b3.cell (p := ⟨w1.heap.size, 2, none⟩) (by first | (simp; done) | (simp; omega) | omega)).trans (by first | with_reducible assumption | (simp [go_sem]; done) | (simp [go_sem, *]; done))
        have g3_0_2 : w3.frozen? ⟨w1.heap.size, 2, none⟩ = false := (b3.frozen (p := ⟨w1.heap.size, 2, none⟩) (by first | (simp; done) | (simp; omega) | omega)).trans (by first | with_reducible assumption | (simp [go_sem]; done) | (simp [go_sem, *]; done))
        have k3_0_3 : w3.cell? ⟨w1.heap.size, 3, none⟩ = some (.int .i64 (u)) := (b3.cell (p := ⟨w1.heap.size, 3, none⟩) (by first | (simp; done) | (simp; omega) | omega)).trans (by first | with_reducible assumption | (simp [go_sem]; done) | (simp [go_sem, *]; done))
        have g3_0_3 : w3.frozen? ⟨w1.heap.size, 3, none⟩ = false := (b3.frozen (p := ⟨w1.heap.size, 3, none⟩) (by first | (simp; done) | (simp; omega) | omega)).trans (by first | with_reducible assumption | (simp [go_sem]; done) | (simp [go_sem, *]; done))
        have z3_1 : w2.heap.size < w3.heap.size := by omega
        have k3_1_0 : w3.cell? ⟨w2.heap.size, 0, none⟩ = some (.int .i64 (0)) := (b3.cell (p := ⟨w2.heap.size, 0, none⟩) (by first | (simp; done) | (simp; omega) | omega)).trans (by first | with_reducible assumption | (simp [go_sem]; done) | (simp [go_sem, *]; done))
        have g3_1_0 : w3.frozen? ⟨w2.heap.size, 0, none⟩ = false := (b3.frozen (p := ⟨w2.heap.size, 0, none⟩) (by first | (simp; done) | (simp; omega) | omega)).trans (by first | with_reducible assumption | (simp [go_sem]; done) | (simp [go_sem, *]; done))
        have k3_1_1 : w3.cell? ⟨w2.heap.size, 1, none⟩ = some (.int .i64 (0)) := (b3.cell (p := ⟨w2.heap.size, 1, none⟩) (by first | (simp; done) | (simp; omega) | omega)).trans (by first | with_reducible assumption | (simp [go_sem]; done) | (simp [go_sem, *]; done))
        have g3_1_1 : w3.frozen? ⟨w2.heap.size, 1, none⟩ = false := (b3.frozen (p := ⟨w2.heap.size, 1, none⟩) (by first | (simp; done) | (simp; omega) | omega)).trans (by first | with_reducible assumption | (simp [go_sem]; done) | (simp [go_sem, *]; done))
        have k3_1_2 : w3.cell? ⟨w2.heap.size, 2, none⟩ = some (.int .i64 (0)) := (b3.cell (p := ⟨w2.heap.size, 2, none⟩) (by first | (simp; done) | (simp; omega) | omega)).trans (by first | with_reducible assumption | (simp [go_sem]; done) | (simp [go_sem, *]; done))
        have g3_1_2 : w3.frozen? ⟨w2.heap.size, 2, none⟩ = false := (b3.frozen (p := ⟨w2.heap.size, 2, none⟩) (by first | (simp; done) | (simp; omega) | omega)).trans (by first | with_reducible assumption | (simp [go_sem]; done) | (simp [go_sem, *]; done))
        have k3_1_3 : w3.cell? ⟨w2.heap.size, 3, none⟩ = some (.int .i64 (0)) := (b3.cell (p := ⟨w2.heap.size, 3, none⟩) (by first | (simp; done) | (simp; omega) | omega)).trans (by first | with_reducible assumption | (simp [go_sem]; done) | (simp [go_sem, *]; done))
        have g3_1_3 : w3.frozen? ⟨w2.heap.size, 3, none⟩ = false := (b3.frozen (p := ⟨w2.heap.size, 3, none⟩) (by first | (simp; done) | (simp; omega) | omega)).trans (by first | with_reducible assumption | (simp [go_sem]; done) | (simp [go_sem, *]; done))
        clear k2_0_0 g2_0_0 k2_0_1 g2_0_1 k2_0_2 g2_0_2 k2_0_3 g2_0_3
        go_wp2_with fail
        refine (K3.out _).mono ?_
        rintro e w4 ⟨rfl, b4⟩
        have s4 := b4.size
        try simp at s4
        have z4_0 : w1.heap.size < w4.heap.size := by omega
        have k4_0_0 : w4.cell? ⟨w1.heap.size, 0, none⟩ = some (.int .i64 (x)) := (b4.cell (p := ⟨w1.heap.size, 0, none⟩) (by first | (simp; done) | (simp; omega) | omega)).trans (by first | with_reducible assumption | (simp [go_sem]; done) | (simp [go_sem, *]; done))
        have g4_0_0 : w4.frozen? ⟨w1.heap.size, 0, none⟩ = false := (b4.frozen (p := ⟨w1.heap.size, 0, none⟩) (by first | (simp; done) | (simp; omega) | omega)).trans (by first | with_reducible assumption | (simp [go_sem]; done) | (simp [go_sem, *]; done))
        have k4_0_1 : w4.cell? ⟨w1.heap.size, 1, none⟩ = some (.int .i64 (y)) := (b4.cell (p := ⟨w1.heap.size, 1, none⟩) (by first | (simp; done) | (simp; omega) | omega)).trans (by first | with_reducible assumption | (simp [go_sem]; done) | (simp [go_sem, *]; done))
        have g4_0_1 : w4.frozen? ⟨w1.heap.size, 1, none⟩ = false := (b4.frozen (p := ⟨w1.heap.size, 1, none⟩) (by first | (simp; done) | (simp; omega) | omega)).trans (by first | with_reducible assumption | (simp [go_sem]; done) | (simp [go_sem, *]; done))
        have k4_0_2 : w4.cell? ⟨w1.heap.size, 2, none⟩ = some (.int .i64 (z)) := (b4.cell (p := ⟨w1.heap.size, 2, none⟩) (by first | (simp; done) | (simp; omega) | omega)).trans (by first | with_reducible assumption | (simp [go_sem]; done) | (simp [go_sem, *]; done))
        have g4_0_2 : w4.frozen? ⟨w1.heap.size, 2, none⟩ = false := (b4.frozen (p := ⟨w1.heap.size, 2, none⟩) (by first | (simp; done) | (simp; omega) | omega)).trans (by first | with_reducible assumption | (simp [go_sem]; done) | (simp [go_sem, *]; done))
        have k4_0_3 : w4.cell? ⟨w1.heap.size, 3, none⟩ = some (.int .i64 (u)) := (b4.cell (p := ⟨w1.heap.size, 3, none⟩) (by first | (simp; done) | (simp; omega) | omega)).trans (by first | with_reducible assumption | (simp [go_sem]; done) | (simp [go_sem, *]; done))
        have g4_0_3 : w4.frozen? ⟨w1.heap.size, 3, none⟩ = false := (b4.frozen (p := ⟨w1.heap.size, 3, none⟩) (by first | (simp; done) | (simp; omega) | omega)).trans (by first | with_reducible assumption | (simp [go_sem]; done) | (simp [go_sem, *]; done))
        have z4_1 : w2.heap.size < w4.heap.size := by omega
        have k4_1_0 : w4.cell? ⟨w2.heap.size, 0, none⟩ = some (.int .i64 (0)) := (b4.cell (p := ⟨w2.heap.size, 0, none⟩) (by first | (simp; done) | (simp; omega) | omega)).trans (by first | with_reducible assumption | (simp [go_sem]; done) | (simp [go_sem, *]; done))
        have g4_1_0 : w4.frozen? ⟨w2.heap.size, 0, none⟩ = false := (b4.frozen (p := ⟨w2.heap.size, 0, none⟩) (by first | (simp; done) | (simp; omega) | omega)).trans (by first | with_reducible assumption | (simp [go_sem]; done) | (simp [go_sem, *]; done))
        have k4_1_1 : w4.cell? ⟨w2.heap.size, 1, none⟩ = some (.int .i64 (0)) := (b4.cell (p := ⟨w2.heap.size, 1, none⟩) (by first | (simp; done) | (simp; omega) | omega)).trans (by first | with_reducible assumption | (simp [go_sem]; done) | (simp [go_sem, *]; done))
        have g4_1_1 : w4.frozen? ⟨w2.heap.size, 1, none⟩ = false := (b4.frozen (p := ⟨w2.heap.size, 1, none⟩) (by first | (simp; done) | (simp; omega) | omega)).trans (by first | with_reducible assumption | (simp [go_sem]; done) | (simp [go_sem, *]; done))
        have k4_1_2 : w4.cell? ⟨w2.heap.size, 2, none⟩ = some (.int .i64 (0)) := (b4.cell (p := ⟨w2.heap.size, 2, none⟩) (by first | (simp; done) | (simp; omega) | omega)).trans (by first | with_reducible assumption | (simp [go_sem]; done) | (simp [go_sem, *]; done))
        have g4_1_2 : w4.frozen? ⟨w2.heap.size, 2, none⟩ = false := (b4.frozen (p := ⟨w2.heap.size, 2, none⟩) (by first | (simp; done) | (simp; omega) | omega)).trans (by first | with_reducible assumption | (simp [go_sem]; done) | (simp [go_sem, *]; done))
        have k4_1_3 : w4.cell? ⟨w2.heap.size, 3, none⟩ = some (.int .i64 (0)) := (b4.cell (p := ⟨w2.heap.size, 3, none⟩) (by first | (simp; done) | (simp; omega) | omega)).trans (by first | with_reducible assumption | (simp [go_sem]; done) | (simp [go_sem, *]; done))
        have g4_1_3 : w4.frozen? ⟨w2.heap.size, 3, none⟩ = false := (b4.frozen (p := ⟨w2.heap.size, 3, none⟩) (by first | (simp; done) | (simp; omega) | omega)).trans (by first | with_reducible assumption | (simp [go_sem]; done) | (simp [go_sem, *]; done))
        have z4_2 : w3.heap.size < w4.heap.size := by omega
        have k4_2_0 : w4.cell? ⟨w3.heap.size, 0, none⟩ = some (.int .i64 (0)) := (b4.cell (p := ⟨w3.heap.size, 0, none⟩) (by first | (simp; done) | (simp; omega) | omega)).trans (by first | with_reducible assumption | (simp [go_sem]; done) | (simp [go_sem, *]; done))
        have g4_2_0 : w4.frozen? ⟨w3.heap.size, 0, none⟩ = false := (b4.frozen (p := ⟨w3.heap.size, 0, none⟩) (by first | (simp; done) | (simp; omega) | omega)).trans (by first | with_reducible assumption | (simp [go_sem]; done) | (simp [go_sem, *]; done))
        have k4_2_1 : w4.cell? ⟨w3.heap.size, 1, none⟩ = some (.int .i64 (0)) := (b4.cell (p := ⟨w3.heap.size, 1, none⟩) (by first | (simp; done) | (simp; omega) | omega)).trans (by first | with_reducible assumption | (simp [go_sem]; done) | (simp [go_sem, *]; done))
        have g4_2_1 : w4.frozen? ⟨w3.heap.size, 1, none⟩ = false := (b4.frozen (p := ⟨w3.heap.size, 1, none⟩) (by first | (simp; done) | (simp; omega) | omega)).trans (by first | with_reducible assumption | (simp [go_sem]; done) | (simp [go_sem, *]; done))
        have k4_2_2 : w4.cell? ⟨w3.heap.size, 2, none⟩ = some (.int .i64 (0)) := (b4.cell (p := ⟨w3.heap.size, 2, none⟩) (by first | (simp; done) | (simp; omega) | omega)).trans (by first | with_reducible assumption | (simp [go_sem]; done) | (simp [go_sem, *]; done))
        have g4_2_2 : w4.frozen? ⟨w3.heap.size, 2, none⟩ = false := (b4.frozen (p := ⟨w3.heap.size, 2, none⟩) (by first | (simp; done) | (simp; omega) | omega)).trans (by first | with_reducible assumption | (simp [go_sem]; done) | (simp [go_sem, *]; done))
        have k4_2_3 : w4.cell? ⟨w3.heap.size, 3, none⟩ = some (.int .i64 (0)) := (b4.cell (p := ⟨w3.heap.size, 3, none⟩) (by first | (simp; done) | (simp; omega) | omega)).trans (by first | with_reducible assumption | (simp [go_sem]; done) | (simp [go_sem, *]; done))
        have g4_2_3 : w4.frozen? ⟨w3.heap.size, 3, none⟩ = false := (b4.frozen (p := ⟨w3.heap.size, 3, none⟩) (by first | (simp; done) | (simp; omega) | omega)).trans (by first | with_reducible assumption | (simp [go_sem]; done) | (simp [go_sem, *]; done))
        clear k3_0_0 g3_0_0 k3_0_1 g3_0_1 k3_0_2 g3_0_2 k3_0_3 g3_0_3 k3_1_0 g3_1_0 k3_1_1 g3_1_1 k3_1_2 g3_1_2 k3_1_3 g3_1_3
        go_wp2_with fail
        refine (K3.out _).mono ?_
        rintro e w5 ⟨rfl, b5⟩
        have s5 := b5.size
        try simp at s5
        have z5_0 : w1.heap.size < w5.heap.size := by omega
        have k5_0_0 : w5.cell? ⟨w1.heap.size, 0, none⟩ = some (.int .i64 (x)) := (b5.cell (p := ⟨w1.heap.size, 0, none⟩) (by first | (simp; done) | (simp; omega) | omega)).trans (by first | with_reducible assumption | (simp [go_sem]; done) | (simp [go_sem, *]; done))
        have g5_0_0 : w5.frozen? ⟨w1.heap.size, 0, none⟩ = false := (b5.frozen (p := ⟨w1.heap.size, 0, none⟩) (by first | (simp; done) | (simp; omega) | omega)).trans (by first | with_reducible assumption | (simp [go_sem]; done) | (simp [go_sem, *]; done))
        have k5_0_1 : w5.cell? ⟨w1.heap.size, 1, none⟩ = some (.int .i64 (y)) := (b5.cell (p := ⟨w1.heap.size, 1, none⟩) (by first | (simp; done) | (simp; omega) | omega)).trans (by first | with_reducible assumption | (simp [go_sem]; done) | (simp [go_sem, *]; done))
        have g5_0_1 : w5.frozen? ⟨w1.heap.size, 1, none⟩ = false := (b5.frozen (p := ⟨w1.heap.size, 1, none⟩) (by first | (simp; done) | (simp; omega) | omega)).trans (by first | with_reducible assumption | (simp [go_sem]; done) | (simp [go_sem, *]; done))
        have k5_0_2 : w5.cell? ⟨w1.heap.size, 2, none⟩ = some (.int .i64 (z)) := (b5.cell (p := ⟨w1.heap.size, 2, none⟩) (by first | (simp; done) | (simp; omega) | omega)).trans (by first | with_reducible assumption | (simp [go_sem]; done) | (simp [go_sem, *]; done))
        have g5_0_2 : w5.frozen? ⟨w1.heap.size, 2, none⟩ = false := (b5.frozen (p := ⟨w1.heap.size, 2, none⟩) (by first | (simp; done) | (simp; omega) | omega)).trans (by first | with_reducible assumption | (simp [go_sem]; done) | (simp [go_sem, *]; done))
        have k5_0_3 : w5.cell? ⟨w1.heap.size, 3, none⟩ = some (.int .i64 (u)) := (b5.cell (p := ⟨w1.heap.size, 3, none⟩) (by first | (simp; done) | (simp; omega) | omega)).trans (by first | with_reducible assumption | (simp [go_sem]; done) | (simp [go_sem, *]; done))
        have g5_0_3 : w5.frozen? ⟨w1.heap.size, 3, none⟩ = false := (b5.frozen (p := ⟨w1.heap.size, 3, none⟩) (by first | (simp; done) | (simp; omega) | omega)).trans (by first | with_reducible assumption | (simp [go_sem]; done) | (simp [go_sem, *]; done))
        have z5_1 : w2.heap.size < w5.heap.size := by omega
        have k5_1_0 : w5.cell? ⟨w2.heap.size, 0, none⟩ = some (.int .i64 (0)) := (b5.cell (p := ⟨w2.heap.size, 0, none⟩) (by first | (simp; done) | (simp; omega) | omega)).trans (by first | with_reducible assumption | (simp [go_sem]; done) | (simp [go_sem, *]; done))
        have g5_1_0 : w5.frozen? ⟨w2.heap.size, 0, none⟩ = false := (b5.frozen (p := ⟨w2.heap.size, 0, none⟩) (by first | (simp; done) | (simp; omega) | omega)).trans (by first | with_reducible assumption | (simp [go_sem]; done) | (simp [go_sem, *]; done))
        have k5_1_1 : w5.cell? ⟨w2.heap.size, 1, none⟩ = some (.int .i64 (0)) := (b5.cell (p := ⟨w2.heap.size, 1, none⟩) (by first | (simp; done) | (simp; omega) | omega)).trans (by first | with_reducible assumption | (simp [go_sem]; done) | (simp [go_sem, *]; done))
        have g5_1_1 : w5.frozen? ⟨w2.heap.size, 1, none⟩ = false := (b5.frozen (p := ⟨w2.heap.size, 1, none⟩) (by first | (simp; done) | (simp; omega) | omega)).trans (by first | with_reducible assumption | (simp [go_sem]; done) | (simp [go_sem, *]; done))
        have k5_1_2 : w5.cell? ⟨w2.heap.size, 2, none⟩ = some (.int .i64 (0)) := (b5.cell (p := ⟨w2.heap.size, 2, none⟩) (by first | (simp; done) | (simp; omega) | omega)).trans (by first | with_reducible assumption | (simp [go_sem]; done) | (simp [go_sem, *]; done))
        have g5_1_2 : w5.frozen? ⟨w2.heap.size, 2, none⟩ = false := (b5.frozen (p := ⟨w2.heap.size, 2, none⟩) (by first | (simp; done) | (simp; omega) | omega)).trans (by first | with_reducible assumption | (simp [go_sem]; done) | (simp [go_sem, *]; done))
        have k5_1_3 : w5.cell? ⟨w2.heap.size, 3, none⟩ = some (.int .i64 (0)) := (b5.cell (p := ⟨w2.heap.size, 3, none⟩) (by first | (simp; done) | (simp; omega) | omega)).trans (by first | with_reducible assumption | (simp [go_sem]; done) | (simp [go_sem, *]; done))
        have g5_1_3 : w5.frozen? ⟨w2.heap.size, 3, none⟩ = false := (b5.frozen (p := ⟨w2.heap.size, 3, none⟩) (by first | (simp; done) | (simp; omega) | omega)).trans (by first | with_reducible assumption | (simp [go_sem]; done) | (simp [go_sem, *]; done))
        have z5_2 : w3.heap.size < w5.heap.size := by omega
        have k5_2_0 : w5.cell? ⟨w3.heap.size, 0, none⟩ = some (.int .i64 (0)) := (b5.cell (p := ⟨w3.heap.size, 0, none⟩) (by first | (simp; done) | (simp; omega) | omega)).trans (by first | with_reducible assumption | (simp [go_sem]; done) | (simp [go_sem, *]; done))
        have g5_2_0 : w5.frozen? ⟨w3.heap.size, 0, none⟩ = false := (b5.frozen (p := ⟨w3.heap.size, 0, none⟩) (by first | (simp; done) | (simp; omega) | omega)).trans (by first | with_reducible assumption | (simp [go_sem]; done) | (simp [go_sem, *]; done))
        have k5_2_1 : w5.cell? ⟨w3.heap.size, 1, none⟩ = some (.int .i64 (0)) := (b5.cell (p := ⟨w3.heap.size, 1, none⟩) (by first | (simp; done) | (simp; omega) | omega)).trans (by first | with_reducible assumption | (simp [go_sem]; done) | (simp [go_sem, *]; done))
        have g5_2_1 : w5.frozen? ⟨w3.heap.size, 1, none⟩ = false := (b5.frozen (p := ⟨w3.heap.size, 1, none⟩) (by first | (simp; done) | (simp; omega) | omega)).trans (by first | with_reducible assumption | (simp [go_sem]; done) | (simp [go_sem, *]; done))
        have k5_2_2 : w5.cell? ⟨w3.heap.size, 2, none⟩ = some (.int .i64 (0)) := (b5.cell (p := ⟨w3.heap.size, 2, none⟩) (by first | (simp; done) | (simp; omega) | omega)).trans (by first | with_reducible assumption | (simp [go_sem]; done) | (simp [go_sem, *]; done))
        have g5_2_2 : w5.frozen? ⟨w3.heap.size, 2, none⟩ = false := (b5.frozen (p := ⟨w3.heap.size, 2, none⟩) (by first | (simp; done) | (simp; omega) | omega)).trans (by first | with_reducible assumption | (simp [go_sem]; done) | (simp [go_sem, *]; done))
        have k5_2_3 : w5.cell? ⟨w3.heap.size, 3, none⟩ = some (.int .i64 (0)) := (b5.cell (p := ⟨w3.heap.size, 3, none⟩) (by first | (simp; done) | (simp; omega) | omega)).trans (by first | with_reducible assumption | (simp [go_sem]; done) | (simp [go_sem, *]; done))
        have g5_2_3 : w5.frozen? ⟨w3.heap.size, 3, none⟩ = false := (b5.frozen (p := ⟨w3.heap.size, 3, none⟩) (by first | (simp; done) | (simp; omega) | omega)).trans (by first | with_reducible assumption | (simp [go_sem]; done) | (simp [go_sem, *]; done))
        clear k4_0_0 g4_0_0 k4_0_1 g4_0_1 k4_0_2 g4_0_2 k4_0_3 g4_0_3 k4_1_0 g4_1_0 k4_1_1 g4_1_1 k4_1_2 g4_1_2 k4_1_3 g4_1_3 k4_2_0 g4_2_0 k4_2_1 g4_2_1 k4_2_2 g4_2_2 k4_2_3 g4_2_3
        go_wp2
        go_ret
        exact ⟨rfl, (by (repeat (first | with_reducible exact Below.refl _ _ | with_reducible refine bl_alloc ?_ _ | with_reducible refine bl_drew ?_ | with_reducible refine bl_set ?_ (by first | (simp; done) | (simp; omega)) _ | with_reducible refine bl_call (by assumption) ?_)))⟩

  · have hnz : (1048576 : Int) < (n : Int) := by omega
    go_enter Try.func11, Try.ntmps11
    go_wp2
    go_ret
    exact ⟨rfl, Below.refl _ _⟩

set_option maxRecDepth 100000 in
theorem lifted (os : Os) (started : os.Started) (H : Type) (enc : TypeId × Value → H) :
    ReturnsInHanded {} Try.checked os 11 .any (Rows.fnInvertMatrixSpec.pre6 enc Try.prog Try.f11 Rows.fnInvertMatrixRow.domain false) (Rows.fnInvertMatrixSpec.post enc Try.prog Try.f11 false true false false) := by
  refine returnsInHanded_of_change (C := Try.checked) own started (by kernel_rfl) Try.func11
    (ChangeSpec.witness6 (enc := enc) (C := Try.checked) false ⟨#[], #[.slice none 0 0], []⟩ 8 (by kernel_rfl) (by kernel_rfl) (by kernel_rfl) (by kernel_rfl)) ?_
  intro W base args ds gs before hval0 hW hcnd _
  have hval : ∀ (j : Nat) t v, Try.f11.params[j]? = some t → args[j]? = some v → Value.okWide Try.prog W .any base t v := hval0
  have hW' := hW
  obtain ⟨p, q, hA0, hV, rfl, hfz, hnd⟩ := hW
  have hA : DataW.TrodAll enc Try.prog W 0 (fun _ => true) true Try.f11.params.toList args.toList ds p := hA0
  rw [Try.params11] at hA hval
  obtain ⟨v0, vs0, d0, ds0, p0, q0, hargs, rfl, rfl, h0, r0⟩ := trodAll_cons hA
  obtain ⟨rfl, rfl, rfl⟩ := trodAll_nil r0
  obtain rfl : args = #[v0] := by cases args; simp_all
  obtain ⟨rfl, rfl⟩ := trodVars_none hV
  have k0 := h0
  have lt0 : ∀ x ∈ p0, x.block < W.heap.size := by obtain ⟨m, hm⟩ := k0; exact DataW.trod_lt m _ _ _ hm
  obtain ⟨a0, n0, c0, rfl⟩ := okWide_slice Try.underlying22 (hval 0 22 v0 rfl rfl)
  obtain ⟨hs0, hl0, hm0⟩ := open_bytes Try.underlying22 Try.underlying5 (by kernel_rfl) h0
  clear hA0 hval0
  refine (walk a0 n0 c0 W hs0 hl0 hm0).mono fun e W' ⟨he, bel⟩ => ?_
  subst he
  exact ⟨_, rfl, _, _, _, [], _, [], hW', trodAll_mk1 (shut_bool Try.underlying4 _), (trodAll_cons_mk (Below.trod laidOut (by kernel_rfl) (of_decide_eq_true (by kernel_rfl)) k0 bel lt0) trodAll_mk0), rfl, bel.frame _, fun h => by cases h⟩

theorem proved : Rows.FnInvertMatrixSaid :=
  OpenClaim.holds_of_wide 11 Try.f11 rfl rfl rfl rfl rfl rfl rfl ⟨rfl, rfl, rfl, rfl, rfl⟩ rfl rfl rfl rfl rfl (by kernel_rfl) Try.func11 (by kernel_rfl)
    (of_decide_eq_true (by kernel_rfl)) (by unfold Func.isWrapper; first | (rw [if_pos (by decide +kernel)]; kernel_rfl) | (rw [if_neg (by decide +kernel)]; exact ⟨rfl, rfl⟩))
    (fun os started H enc _ => lifted os started H enc)

end FnInvertMatrix

end Go.Proofs.Ytkhocfoggjdccaa
