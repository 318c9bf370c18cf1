/- FnCompareRats returns true for every argument, and leaves its arguments as they were. No conditions. -/
import Derived.Test.YtkhocfoggjdccaaFrame
import Derived.Test.YtkhocfoggjdccaaRdr8
import Derived.Test.YtkhocfoggjdccaaB1
import Derived.Test.YtkhocfoggjdccaaPlainQ4
namespace Go.Proofs.Ytkhocfoggjdccaa
open Go.RowKit
set_option linter.unusedVariables false

open Go.ChangeShapes Go.WideShapes Go.ChangeAt
namespace FnCompareRats

open Go.Sort
set_option maxRecDepth 100000 in
set_option maxHeartbeats 2000000 in
theorem walk (a : Option Addr) (n c : Nat) (w : World) (hs : BytesOf w.heap.size w a n) (hc : n ≤ c) (hc2 : c ≤ 9223372036854775807) :
    Calls Try.prog 3 #[.slice a n c] w fun e w' => e = .returned (.bool true) ∧ Below w.heap.size w w' := by
  by_cases hn : n ≤ 1048576
  · have hnz : ¬ (1048576 : Int) < (n : Int) := by omega
    have HS := Lib.hid hs
    clear hs
    go_enter Try.func3, Try.ntmps3
    go_wp2_with fail
    refine (rdr_DrawCompareRats w.heap.size a n c w (Nat.le_refl _) HS.out hc hc2).mono ?_
    rintro e w1 ⟨x1, x2, y1, y2, rfl, ⟨lx1, ux1⟩, ⟨lx2, ux2⟩, ⟨ly1, uy1⟩, ⟨ly2, uy2⟩, b1⟩
    have s1 := b1.size
    try simp at s1
    cases hv : (ratB x1 x2 && ratB y1 y2) with
    | false =>
      have hO : CmpF x1 x2 y1 y2 = 2 := by simp [CmpF, hv]
      have K1 : Hid (∀ W : World, Calls Try.prog 16 #[.agg #[.int .i64 x1, .int .i64 x2], .agg #[.int .i64 y1, .int .i64 y2]] W fun e w' => e = .returned (.int .i64 2) ∧ Below W.heap.size W w') := Lib.hid fun W => by
        have h := impl_CompareRats (x1) (x2) (y1) (y2) W
        rw [hO] at h
        exact h
      have K2 : Hid (∀ W : World, Calls Try.prog 17 #[.agg #[.int .i64 x1, .int .i64 x2], .agg #[.int .i64 y1, .int .i64 y2]] W fun e w' => e = .returned (.int .i64 2) ∧ Below W.heap.size W w') := Lib.hid fun W => by
        have h := spec_CompareRats (x1) (x2) (y1) (y2) W
        rw [hO] at h
        exact h
      clear hO hv
      go_wp2_with fail
      refine (K1.out _).mono ?_
      rintro e w2 ⟨rfl, b2⟩
      have s2 := b2.size
      try simp at s2
      have z2_0 : w1.heap.size < w2.heap.size := by omega
      have k2_0_0 : w2.cell? ⟨w1.heap.size, 0, none⟩ = some (.int .i64 (x1)) := (b2.cell (p := ⟨w1.heap.size, 0, none⟩) (by first | (simp; done) | (simp; omega) | omega)).trans (by first | with_reducible assumption | (simp [go_sem]; done) | (simp [go_sem, *]; done))
      have g2_0_0 : w2.frozen? ⟨w1.heap.size, 0, none⟩ = false := (b2.frozen (p := ⟨w1.heap.size, 0, none⟩) (by first | (simp; done) | (simp; omega) | omega)).trans (by first | with_reducible assumption | (simp [go_sem]; done) | (simp [go_sem, *]; done))
      have k2_0_1 : w2.cell? ⟨w1.heap.size, 1, none⟩ = some (.int .i64 (x2)) := (b2.cell (p := ⟨w1.heap.size, 1, none⟩) (by first | (simp; done) | (simp; omega) | omega)).trans (by first | with_reducible assumption | (simp [go_sem]; done) | (simp [go_sem, *]; done))
      have g2_0_1 : w2.frozen? ⟨w1.heap.size, 1, none⟩ = false := (b2.frozen (p := ⟨w1.heap.size, 1, none⟩) (by first | (simp; done) | (simp; omega) | omega)).trans (by first | with_reducible assumption | (simp [go_sem]; done) | (simp [go_sem, *]; done))
      have z2_1 : w1.heap.size + 1 < w2.heap.size := by omega
      have k2_1_0 : w2.cell? ⟨w1.heap.size + 1, 0, none⟩ = some (.int .i64 (y1)) := (b2.cell (p := ⟨w1.heap.size + 1, 0, none⟩) (by first | (simp; done) | (simp; omega) | omega)).trans (by first | with_reducible assumption | (simp [go_sem]; done) | (simp [go_sem, *]; done))
      have g2_1_0 : w2.frozen? ⟨w1.heap.size + 1, 0, none⟩ = false := (b2.frozen (p := ⟨w1.heap.size + 1, 0, none⟩) (by first | (simp; done) | (simp; omega) | omega)).trans (by first | with_reducible assumption | (simp [go_sem]; done) | (simp [go_sem, *]; done))
      have k2_1_1 : w2.cell? ⟨w1.heap.size + 1, 1, none⟩ = some (.int .i64 (y2)) := (b2.cell (p := ⟨w1.heap.size + 1, 1, none⟩) (by first | (simp; done) | (simp; omega) | omega)).trans (by first | with_reducible assumption | (simp [go_sem]; done) | (simp [go_sem, *]; done))
      have g2_1_1 : w2.frozen? ⟨w1.heap.size + 1, 1, none⟩ = false := (b2.frozen (p := ⟨w1.heap.size + 1, 1, none⟩) (by first | (simp; done) | (simp; omega) | omega)).trans (by first | with_reducible assumption | (simp [go_sem]; done) | (simp [go_sem, *]; done))
      go_wp2_with fail
      refine (K2.out _).mono ?_
      rintro e w3 ⟨rfl, b3⟩
      have s3 := b3.size
      try simp at s3
      have z3_0 : w1.heap.size < w3.heap.size := by omega
      have k3_0_0 : w3.cell? ⟨w1.heap.size, 0, none⟩ = some (.int .i64 (x1)) := (b3.cell (p := ⟨w1.heap.size, 0, none⟩) (by first | (simp; done) | (simp; omega) | omega)).trans (by first | with_reducible assumption | (simp [go_sem]; done) | (simp [go_sem, *]; done))
      have g3_0_0 : w3.frozen? ⟨w1.heap.size, 0, none⟩ = false := (b3.frozen (p := ⟨w1.heap.size, 0, none⟩) (by first | (simp; done) | (simp; omega) | omega)).trans (by first | with_reducible assumption | (simp [go_sem]; done) | (simp [go_sem, *]; done))
      have k3_0_1 : w3.cell? ⟨w1.heap.size, 1, none⟩ = some (.int .i64 (x2)) := (b3.cell (p := ⟨w1.heap.size, 1, none⟩) (by first | (simp; done) | (simp; omega) | omega)).trans (by first | with_reducible assumption | (simp [go_sem]; done) | (simp [go_sem, *]; done))
      have g3_0_1 : w3.frozen? ⟨w1.heap.size, 1, none⟩ = false := (b3.frozen (p := ⟨w1.heap.size, 1, none⟩) (by first | (simp; done) | (simp; omega) | omega)).trans (by first | with_reducible assumption | (simp [go_sem]; done) | (simp [go_sem, *]; done))
      have z3_1 : w1.heap.size + 1 < w3.heap.size := by omega
      have k3_1_0 : w3.cell? ⟨w1.heap.size + 1, 0, none⟩ = some (.int .i64 (y1)) := (b3.cell (p := ⟨w1.heap.size + 1, 0, none⟩) (by first | (simp; done) | (simp; omega) | omega)).trans (by first | with_reducible assumption | (simp [go_sem]; done) | (simp [go_sem, *]; done))
      have g3_1_0 : w3.frozen? ⟨w1.heap.size + 1, 0, none⟩ = false := (b3.frozen (p := ⟨w1.heap.size + 1, 0, none⟩) (by first | (simp; done) | (simp; omega) | omega)).trans (by first | with_reducible assumption | (simp [go_sem]; done) | (simp [go_sem, *]; done))
      have k3_1_1 : w3.cell? ⟨w1.heap.size + 1, 1, none⟩ = some (.int .i64 (y2)) := (b3.cell (p := ⟨w1.heap.size + 1, 1, none⟩) (by first | (simp; done) | (simp; omega) | omega)).trans (by first | with_reducible assumption | (simp [go_sem]; done) | (simp [go_sem, *]; done))
      have g3_1_1 : w3.frozen? ⟨w1.heap.size + 1, 1, none⟩ = false := (b3.frozen (p := ⟨w1.heap.size + 1, 1, none⟩) (by first | (simp; done) | (simp; omega) | omega)).trans (by first | with_reducible assumption | (simp [go_sem]; done) | (simp [go_sem, *]; done))
      clear k2_0_0 g2_0_0 k2_0_1 g2_0_1 k2_1_0 g2_1_0 k2_1_1 g2_1_1
      go_wp2_with fail
      refine (K2.out _).mono ?_
      rintro e w4 ⟨rfl, b4⟩
      have s4 := b4.size
      try simp at s4
      have z4_0 : w1.heap.size < w4.heap.size := by omega
      have k4_0_0 : w4.cell? ⟨w1.heap.size, 0, none⟩ = some (.int .i64 (x1)) := (b4.cell (p := ⟨w1.heap.size, 0, none⟩) (by first | (simp; done) | (simp; omega) | omega)).trans (by first | with_reducible assumption | (simp [go_sem]; done) | (simp [go_sem, *]; done))
      have g4_0_0 : w4.frozen? ⟨w1.heap.size, 0, none⟩ = false := (b4.frozen (p := ⟨w1.heap.size, 0, none⟩) (by first | (simp; done) | (simp; omega) | omega)).trans (by first | with_reducible assumption | (simp [go_sem]; done) | (simp [go_sem, *]; done))
      have k4_0_1 : w4.cell? ⟨w1.heap.size, 1, none⟩ = some (.int .i64 (x2)) := (b4.cell (p := ⟨w1.heap.size, 1, none⟩) (by first | (simp; done) | (simp; omega) | omega)).trans (by first | with_reducible assumption | (simp [go_sem]; done) | (simp [go_sem, *]; done))
      have g4_0_1 : w4.frozen? ⟨w1.heap.size, 1, none⟩ = false := (b4.frozen (p := ⟨w1.heap.size, 1, none⟩) (by first | (simp; done) | (simp; omega) | omega)).trans (by first | with_reducible assumption | (simp [go_sem]; done) | (simp [go_sem, *]; done))
      have z4_1 : w1.heap.size + 1 < w4.heap.size := by omega
      have k4_1_0 : w4.cell? ⟨w1.heap.size + 1, 0, none⟩ = some (.int .i64 (y1)) := (b4.cell (p := ⟨w1.heap.size + 1, 0, none⟩) (by first | (simp; done) | (simp; omega) | omega)).trans (by first | with_reducible assumption | (simp [go_sem]; done) | (simp [go_sem, *]; done))
      have g4_1_0 : w4.frozen? ⟨w1.heap.size + 1, 0, none⟩ = false := (b4.frozen (p := ⟨w1.heap.size + 1, 0, none⟩) (by first | (simp; done) | (simp; omega) | omega)).trans (by first | with_reducible assumption | (simp [go_sem]; done) | (simp [go_sem, *]; done))
      have k4_1_1 : w4.cell? ⟨w1.heap.size + 1, 1, none⟩ = some (.int .i64 (y2)) := (b4.cell (p := ⟨w1.heap.size + 1, 1, none⟩) (by first | (simp; done) | (simp; omega) | omega)).trans (by first | with_reducible assumption | (simp [go_sem]; done) | (simp [go_sem, *]; done))
      have g4_1_1 : w4.frozen? ⟨w1.heap.size + 1, 1, none⟩ = false := (b4.frozen (p := ⟨w1.heap.size + 1, 1, none⟩) (by first | (simp; done) | (simp; omega) | omega)).trans (by first | with_reducible assumption | (simp [go_sem]; done) | (simp [go_sem, *]; done))
      clear k3_0_0 g3_0_0 k3_0_1 g3_0_1 k3_1_0 g3_1_0 k3_1_1 g3_1_1
      go_wp2
      go_ret
      exact ⟨rfl, (by (repeat (first | with_reducible exact Below.refl _ _ | with_reducible refine bl_alloc ?_ _ | with_reducible refine bl_drew ?_ | with_reducible refine bl_set ?_ (by first | (simp; done) | (simp; omega)) _ | with_reducible refine bl_call (by assumption) ?_)))⟩

    | true =>
      obtain ⟨hX, hY⟩ : ratB x1 x2 = true ∧ ratB y1 y2 = true := by simpa using hv
      have e1 := CmpF_val x1 x2 y1 y2 hX hY
      have e2 : CmpF y1 y2 x1 x2 = sgnI (-(x1 * y2 - y1 * x2)) := by rw [CmpF_val y1 y2 x1 x2 hY hX]; congr 1; omega
      have hz := CmpF_eq x1 x2 y1 y2 hX hY
      generalize x1 * y2 - y1 * x2 = N at e1 e2 hz
      rcases Int.lt_trichotomy N 0 with hN | hN | hN
      ·
        have e5 : sgnI N = -1 := by unfold sgnI; split <;> (try split) <;> omega
        have e6 : sgnI (-N) = 1 := by unfold sgnI; split <;> (try split) <;> omega
        rw [e5] at e1
        rw [e6] at e2
        have K1 : Hid (∀ W : World, Calls Try.prog 16 #[.agg #[.int .i64 x1, .int .i64 x2], .agg #[.int .i64 y1, .int .i64 y2]] W fun e w' => e = .returned (.int .i64 (-1)) ∧ Below W.heap.size W w') := Lib.hid fun W => by
          have h := impl_CompareRats (x1) (x2) (y1) (y2) W
          rw [e1] at h
          exact h
        have K2 : Hid (∀ W : World, Calls Try.prog 17 #[.agg #[.int .i64 x1, .int .i64 x2], .agg #[.int .i64 y1, .int .i64 y2]] W fun e w' => e = .returned (.int .i64 (-1)) ∧ Below W.heap.size W w') := Lib.hid fun W => by
          have h := spec_CompareRats (x1) (x2) (y1) (y2) W
          rw [e1] at h
          exact h
        have K3 : Hid (∀ W : World, Calls Try.prog 16 #[.agg #[.int .i64 y1, .int .i64 y2], .agg #[.int .i64 x1, .int .i64 x2]] W fun e w' => e = .returned (.int .i64 1) ∧ Below W.heap.size W w') := Lib.hid fun W => by
          have h := impl_CompareRats (y1) (y2) (x1) (x2) W
          rw [e2] at h
          exact h
        clear e1 e2 e5 e6 hv hX hY
        have hq : ¬ (x1 = y1 ∧ x2 = y2) := fun h => by have := hz.2 h; omega
        clear hz
        by_cases c1 : x1 = y1
        ·
          have i1 : (x1 == y1) = true := by simp [c1]
          have i2 : (x2 == y2) = false := by simp; exact fun h => hq ⟨c1, h⟩
          clear hq c1
          go_wp2_with fail
          refine (K1.out _).mono ?_
          rintro e w2 ⟨rfl, b2⟩
          have s2 := b2.size
          try simp at s2
          have z2_0 : w1.heap.size < w2.heap.size := by omega
          have k2_0_0 : w2.cell? ⟨w1.heap.size, 0, none⟩ = some (.int .i64 (x1)) := (b2.cell (p := ⟨w1.heap.size, 0, none⟩) (by first | (simp; done) | (simp; omega) | omega)).trans (by first | with_reducible assumption | (simp [go_sem]; done) | (simp [go_sem, *]; done))
          have g2_0_0 : w2.frozen? ⟨w1.heap.size, 0, none⟩ = false := (b2.frozen (p := ⟨w1.heap.size, 0, none⟩) (by first | (simp; done) | (simp; omega) | omega)).trans (by first | with_reducible assumption | (simp [go_sem]; done) | (simp [go_sem, *]; done))
          have k2_0_1 : w2.cell? ⟨w1.heap.size, 1, none⟩ = some (.int .i64 (x2)) := (b2.cell (p := ⟨w1.heap.size, 1, none⟩) (by first | (simp; done) | (simp; omega) | omega)).trans (by first | with_reducible assumption | (simp [go_sem]; done) | (simp [go_sem, *]; done))
          have g2_0_1 : w2.frozen? ⟨w1.heap.size, 1, none⟩ = false := (b2.frozen (p := ⟨w1.heap.size, 1, none⟩) (by first | (simp; done) | (simp; omega) | omega)).trans (by first | with_reducible assumption | (simp [go_sem]; done) | (simp [go_sem, *]; done))
          have z2_1 : w1.heap.size + 1 < w2.heap.size := by omega
          have k2_1_0 : w2.cell? ⟨w1.heap.size + 1, 0, none⟩ = some (.int .i64 (y1)) := (b2.cell (p := ⟨w1.heap.size + 1, 0, none⟩) (by first | (simp; done) | (simp; omega) | omega)).trans (by first | with_reducible assumption | (simp [go_sem]; done) | (simp [go_sem, *]; done))
          have g2_1_0 : w2.frozen? ⟨w1.heap.size + 1, 0, none⟩ = false := (b2.frozen (p := ⟨w1.heap.size + 1, 0, none⟩) (by first | (simp; done) | (simp; omega) | omega)).trans (by first | with_reducible assumption | (simp [go_sem]; done) | (simp [go_sem, *]; done))
          have k2_1_1 : w2.cell? ⟨w1.heap.size + 1, 1, none⟩ = some (.int .i64 (y2)) := (b2.cell (p := ⟨w1.heap.size + 1, 1, none⟩) (by first | (simp; done) | (simp; omega) | omega)).trans (by first | with_reducible assumption | (simp [go_sem]; done) | (simp [go_sem, *]; done))
          have g2_1_1 : w2.frozen? ⟨w1.heap.size + 1, 1, none⟩ = false := (b2.frozen (p := ⟨w1.heap.size + 1, 1, none⟩) (by first | (simp; done) | (simp; omega) | omega)).trans (by first | with_reducible assumption | (simp [go_sem]; done) | (simp [go_sem, *]; done))
          go_wp2_with fail
          refine (K2.out _).mono ?_
          rintro e w3 ⟨rfl, b3⟩
          have s3 := b3.size
          try simp at s3
          have z3_0 : w1.heap.size < w3.heap.size := by omega
          have k3_0_0 : w3.cell? ⟨w1.heap.size, 0, none⟩ = some (.int .i64 (x1)) := (b3.cell (p := ⟨w1.heap.size, 0, none⟩) (by first | (simp; done) | (simp; omega) | omega)).trans (by first | with_reducible assumption | (simp [go_sem]; done) | (simp [go_sem, *]; done))
          have g3_0_0 : w3.frozen? ⟨w1.heap.size, 0, none⟩ = false := (b3.frozen (p := ⟨w1.heap.size, 0, none⟩) (by first | (simp; done) | (simp; omega) | omega)).trans (by first | with_reducible assumption | (simp [go_sem]; done) | (simp [go_sem, *]; done))
          have k3_0_1 : w3.cell? ⟨w1.heap.size, 1, none⟩ = some (.int .i64 (x2)) := (b3.cell (p := ⟨w1.heap.size, 1, none⟩) (by first | (simp; done) | (simp; omega) | omega)).trans (by first | with_reducible assumption | (simp [go_sem]; done) | (simp [go_sem, *]; done))
          have g3_0_1 : w3.frozen? ⟨w1.heap.size, 1, none⟩ = false := (b3.frozen (p := ⟨w1.heap.size, 1, none⟩) (by first | (simp; done) | (simp; omega) | omega)).trans (by first | with_reducible assumption | (simp [go_sem]; done) | (simp [go_sem, *]; done))
          have z3_1 : w1.heap.size + 1 < w3.heap.size := by omega
          have k3_1_0 : w3.cell? ⟨w1.heap.size + 1, 0, none⟩ = some (.int .i64 (y1)) := (b3.cell (p := ⟨w1.heap.size + 1, 0, none⟩) (by first | (simp; done) | (simp; omega) | omega)).trans (by first | with_reducible assumption | (simp [go_sem]; done) | (simp [go_sem, *]; done))
          have g3_1_0 : w3.frozen? ⟨w1.heap.size + 1, 0, none⟩ = false := (b3.frozen (p := ⟨w1.heap.size + 1, 0, none⟩) (by first | (simp; done) | (simp; omega) | omega)).trans (by first | with_reducible assumption | (simp [go_sem]; done) | (simp [go_sem, *]; done))
          have k3_1_1 : w3.cell? ⟨w1.heap.size + 1, 1, none⟩ = some (.int .i64 (y2)) := (b3.cell (p := ⟨w1.heap.size + 1, 1, none⟩) (by first | (simp; done) | (simp; omega) | omega)).trans (by first | with_reducible assumption | (simp [go_sem]; done) | (simp [go_sem, *]; done))
          have g3_1_1 : w3.frozen? ⟨w1.heap.size + 1, 1, none⟩ = false := (b3.frozen (p := ⟨w1.heap.size + 1, 1, none⟩) (by first | (simp; done) | (simp; omega) | omega)).trans (by first | with_reducible assumption | (simp [go_sem]; done) | (simp [go_sem, *]; done))
          clear k2_0_0 g2_0_0 k2_0_1 g2_0_1 k2_1_0 g2_1_0 k2_1_1 g2_1_1
          go_wp2_with fail
          refine (K3.out _).mono ?_
          rintro e w4 ⟨rfl, b4⟩
          have s4 := b4.size
          try simp at s4
          have z4_0 : w1.heap.size < w4.heap.size := by omega
          have k4_0_0 : w4.cell? ⟨w1.heap.size, 0, none⟩ = some (.int .i64 (x1)) := (b4.cell (p := ⟨w1.heap.size, 0, none⟩) (by first | (simp; done) | (simp; omega) | omega)).trans (by first | with_reducible assumption | (simp [go_sem]; done) | (simp [go_sem, *]; done))
          have g4_0_0 : w4.frozen? ⟨w1.heap.size, 0, none⟩ = false := (b4.frozen (p := ⟨w1.heap.size, 0, none⟩) (by first | (simp; done) | (simp; omega) | omega)).trans (by first | with_reducible assumption | (simp [go_sem]; done) | (simp [go_sem, *]; done))
          have k4_0_1 : w4.cell? ⟨w1.heap.size, 1, none⟩ = some (.int .i64 (x2)) := (b4.cell (p := ⟨w1.heap.size, 1, none⟩) (by first | (simp; done) | (simp; omega) | omega)).trans (by first | with_reducible assumption | (simp [go_sem]; done) | (simp [go_sem, *]; done))
          have g4_0_1 : w4.frozen? ⟨w1.heap.size, 1, none⟩ = false := (b4.frozen (p := ⟨w1.heap.size, 1, none⟩) (by first | (simp; done) | (simp; omega) | omega)).trans (by first | with_reducible assumption | (simp [go_sem]; done) | (simp [go_sem, *]; done))
          have z4_1 : w1.heap.size + 1 < w4.heap.size := by omega
          have k4_1_0 : w4.cell? ⟨w1.heap.size + 1, 0, none⟩ = some (.int .i64 (y1)) := (b4.cell (p := ⟨w1.heap.size + 1, 0, none⟩) (by first | (simp; done) | (simp; omega) | omega)).trans (by first | with_reducible assumption | (simp [go_sem]; done) | (simp [go_sem, *]; done))
          have g4_1_0 : w4.frozen? ⟨w1.heap.size + 1, 0, none⟩ = false := (b4.frozen (p := ⟨w1.heap.size + 1, 0, none⟩) (by first | (simp; done) | (simp; omega) | omega)).trans (by first | with_reducible assumption | (simp [go_sem]; done) | (simp [go_sem, *]; done))
          have k4_1_1 : w4.cell? ⟨w1.heap.size + 1, 1, none⟩ = some (.int .i64 (y2)) := (b4.cell (p := ⟨w1.heap.size + 1, 1, none⟩) (by first | (simp; done) | (simp; omega) | omega)).trans (by first | with_reducible assumption | (simp [go_sem]; done) | (simp [go_sem, *]; done))
          have g4_1_1 : w4.frozen? ⟨w1.heap.size + 1, 1, none⟩ = false := (b4.frozen (p := ⟨w1.heap.size + 1, 1, none⟩) (by first | (simp; done) | (simp; omega) | omega)).trans (by first | with_reducible assumption | (simp [go_sem]; done) | (simp [go_sem, *]; done))
          clear k3_0_0 g3_0_0 k3_0_1 g3_0_1 k3_1_0 g3_1_0 k3_1_1 g3_1_1
          go_wp2
          go_ret
          exact ⟨rfl, (by (repeat (first | with_reducible exact Below.refl _ _ | with_reducible refine bl_alloc ?_ _ | with_reducible refine bl_drew ?_ | with_reducible refine bl_set ?_ (by first | (simp; done) | (simp; omega)) _ | with_reducible refine bl_call (by assumption) ?_)))⟩
        ·
          have i1 : (x1 == y1) = false := by simp [c1]
          clear hq
          go_wp2_with fail
          refine (K1.out _).mono ?_
          rintro e w2 ⟨rfl, b2⟩
          have s2 := b2.size
          try simp at s2
          have z2_0 : w1.heap.size < w2.heap.size := by omega
          have k2_0_0 : w2.cell? ⟨w1.heap.size, 0, none⟩ = some (.int .i64 (x1)) := (b2.cell (p := ⟨w1.heap.size, 0, none⟩) (by first | (simp; done) | (simp; omega) | omega)).trans (by first | with_reducible assumption | (simp [go_sem]; done) | (simp [go_sem, *]; done))
          have g2_0_0 : w2.frozen? ⟨w1.heap.size, 0, none⟩ = false := (b2.frozen (p := ⟨w1.heap.size, 0, none⟩) (by first | (simp; done) | (simp; omega) | omega)).trans (by first | with_reducible assumption | (simp [go_sem]; done) | (simp [go_sem, *]; done))
          have k2_0_1 : w2.cell? ⟨w1.heap.size, 1, none⟩ = some (.int .i64 (x2)) := (b2.cell (p := ⟨w1.heap.size, 1, none⟩) (by first | (simp; done) | (simp; omega) | omega)).trans (by first | with_reducible assumption | (simp [go_sem]; done) | (simp [go_sem, *]; done))
          have g2_0_1 : w2.frozen? ⟨w1.heap.size, 1, none⟩ = false := (b2.frozen (p := ⟨w1.heap.size, 1, none⟩) (by first | (simp; done) | (simp; omega) | omega)).trans (by first | with_reducible assumption | (simp [go_sem]; done) | (simp [go_sem, *]; done))
          have z2_1 : w1.heap.size + 1 < w2.heap.size := by omega
          have k2_1_0 : w2.cell? ⟨w1.heap.size + 1, 0, none⟩ = some (.int .i64 (y1)) := (b2.cell (p := ⟨w1.heap.size + 1, 0, none⟩) (by first | (simp; done) | (simp; omega) | omega)).trans (by first | with_reducible assumption | (simp [go_sem]; done) | (simp [go_sem, *]; done))
          have g2_1_0 : w2.frozen? ⟨w1.heap.size + 1, 0, none⟩ = false := (b2.frozen (p := ⟨w1.heap.size + 1, 0, none⟩) (by first | (simp; done) | (simp; omega) | omega)).trans (by first | with_reducible assumption | (simp [go_sem]; done) | (simp [go_sem, *]; done))
          have k2_1_1 : w2.cell? ⟨w1.heap.size + 1, 1, none⟩ = some (.int .i64 (y2)) := (b2.cell (p := ⟨w1.heap.size + 1, 1, none⟩) (by first | (simp; done) | (simp; omega) | omega)).trans (by first | with_reducible assumption | (simp [go_sem]; done) | (simp [go_sem, *]; done))
          have g2_1_1 : w2.frozen? ⟨w1.heap.size + 1, 1, none⟩ = false := (b2.frozen (p := ⟨w1.heap.size + 1, 1, none⟩) (by first | (simp; done) | (simp; omega) | omega)).trans (by first | with_reducible assumption | (simp [go_sem]; done) | (simp [go_sem, *]; done))
          go_wp2_with fail
          refine (K2.out _).mono ?_
          rintro e w3 ⟨rfl, b3⟩
          have s3 := b3.size
          try simp at s3
          have z3_0 : w1.heap.size < w3.heap.size := by omega
          have k3_0_0 : w3.cell? ⟨w1.heap.size, 0, none⟩ = some (.int .i64 (x1)) := (b3.cell (p := ⟨w1.heap.size, 0, none⟩) (by first | (simp; done) | (simp; omega) | omega)).trans (by first | with_reducible assumption | (simp [go_sem]; done) | (simp [go_sem, *]; done))
          have g3_0_0 : w3.frozen? ⟨w1.heap.size, 0, none⟩ = false := (b3.frozen (p := ⟨w1.heap.size, 0, none⟩) (by first | (simp; done) | (simp; omega) | omega)).trans (by first | with_reducible assumption | (simp [go_sem]; done) | (simp [go_sem, *]; done))
          have k3_0_1 : w3.cell? ⟨w1.heap.size, 1, none⟩ = some (.int .i64 (x2)) := (b3.cell (p := ⟨w1.heap.size, 1, none⟩) (by first | (simp; done) | (simp; omega) | omega)).trans (by first | with_reducible assumption | (simp [go_sem]; done) | (simp [go_sem, *]; done))
          have g3_0_1 : w3.frozen? ⟨w1.heap.size, 1, none⟩ = false := (b3.frozen (p := ⟨w1.heap.size, 1, none⟩) (by first | (simp; done) | (simp; omega) | omega)).trans (by first | with_reducible assumption | (simp [go_sem]; done) | (simp [go_sem, *]; done))
          have z3_1 : w1.heap.size + 1 < w3.heap.size := by omega
          have k3_1_0 : w3.cell? ⟨w1.heap.size + 1, 0, none⟩ = some (.int .i64 (y1)) := (b3.cell (p := ⟨w1.heap.size + 1, 0, none⟩) (by first | (simp; done) | (simp; omega) | omega)).trans (by first | with_reducible assumption | (simp [go_sem]; done) | (simp [go_sem, *]; done))
          have g3_1_0 : w3.frozen? ⟨w1.heap.size + 1, 0, none⟩ = false := (b3.frozen (p := ⟨w1.heap.size + 1, 0, none⟩) (by first | (simp; done) | (simp; omega) | omega)).trans (by first | with_reducible assumption | (simp [go_sem]; done) | (simp [go_sem, *]; done))
          have k3_1_1 : w3.cell? ⟨w1.heap.size + 1, 1, none⟩ = some (.int .i64 (y2)) := (b3.cell (p := ⟨w1.heap.size + 1, 1, none⟩) (by first | (simp; done) | (simp; omega) | omega)).trans (by first | with_reducible assumption | (simp [go_sem]; done) | (simp [go_sem, *]; done))
          have g3_1_1 : w3.frozen? ⟨w1.heap.size + 1, 1, none⟩ = false := (b3.frozen (p := ⟨w1.heap.size + 1, 1, none⟩) (by first | (simp; done) | (simp; omega) | omega)).trans (by first | with_reducible assumption | (simp [go_sem]; done) | (simp [go_sem, *]; done))
          clear k2_0_0 g2_0_0 k2_0_1 g2_0_1 k2_1_0 g2_1_0 k2_1_1 g2_1_1
          go_wp2_with fail
          refine (K3.out _).mono ?_
          rintro e w4 ⟨rfl, b4⟩
          have s4 := b4.size
          try simp at s4
          have z4_0 : w1.heap.size < w4.heap.size := by omega
          have k4_0_0 : w4.cell? ⟨w1.heap.size, 0, none⟩ = some (.int .i64 (x1)) := (b4.cell (p := ⟨w1.heap.size, 0, none⟩) (by first | (simp; done) | (simp; omega) | omega)).trans (by first | with_reducible assumption | (simp [go_sem]; done) | (simp [go_sem, *]; done))
          have g4_0_0 : w4.frozen? ⟨w1.heap.size, 0, none⟩ = false := (b4.frozen (p := ⟨w1.heap.size, 0, none⟩) (by first | (simp; done) | (simp; omega) | omega)).trans (by first | with_reducible assumption | (simp [go_sem]; done) | (simp [go_sem, *]; done))
          have k4_0_1 : w4.cell? ⟨w1.heap.size, 1, none⟩ = some (.int .i64 (x2)) := (b4.cell (p := ⟨w1.heap.size, 1, none⟩) (by first | (simp; done) | (simp; omega) | omega)).trans (by first | with_reducible assumption | (simp [go_sem]; done) | (simp [go_sem, *]; done))
          have g4_0_1 : w4.frozen? ⟨w1.heap.size, 1, none⟩ = false := (b4.frozen (p := ⟨w1.heap.size, 1, none⟩) (by first | (simp; done) | (simp; omega) | omega)).trans (by first | with_reducible assumption | (simp [go_sem]; done) | (simp [go_sem, *]; done))
          have z4_1 : w1.heap.size + 1 < w4.heap.size := by omega
          have k4_1_0 : w4.cell? ⟨w1.heap.size + 1, 0, none⟩ = some (.int .i64 (y1)) := (b4.cell (p := ⟨w1.heap.size + 1, 0, none⟩) (by first | (simp; done) | (simp; omega) | omega)).trans (by first | with_reducible assumption | (simp [go_sem]; done) | (simp [go_sem, *]; done))
          have g4_1_0 : w4.frozen? ⟨w1.heap.size + 1, 0, none⟩ = false := (b4.frozen (p := ⟨w1.heap.size + 1, 0, none⟩) (by first | (simp; done) | (simp; omega) | omega)).trans (by first | with_reducible assumption | (simp [go_sem]; done) | (simp [go_sem, *]; done))
          have k4_1_1 : w4.cell? ⟨w1.heap.size + 1, 1, none⟩ = some (.int .i64 (y2)) := (b4.cell (p := ⟨w1.heap.size + 1, 1, none⟩) (by first | (simp; done) | (simp; omega) | omega)).trans (by first | with_reducible assumption | (simp [go_sem]; done) | (simp [go_sem, *]; done))
          have g4_1_1 : w4.frozen? ⟨w1.heap.size + 1, 1, none⟩ = false := (b4.frozen (p := ⟨w1.heap.size + 1, 1, none⟩) (by first | (simp; done) | (simp; omega) | omega)).trans (by first | with_reducible assumption | (simp [go_sem]; done) | (simp [go_sem, *]; done))
          clear k3_0_0 g3_0_0 k3_0_1 g3_0_1 k3_1_0 g3_1_0 k3_1_1 g3_1_1
          go_wp2
          go_ret
          exact ⟨rfl, (by (repeat (first | with_reducible exact Below.refl _ _ | with_reducible refine bl_alloc ?_ _ | with_reducible refine bl_drew ?_ | with_reducible refine bl_set ?_ (by first | (simp; done) | (simp; omega)) _ | with_reducible refine bl_call (by assumption) ?_)))⟩
      ·
        have e5 : sgnI N = 0 := by unfold sgnI; split <;> (try split) <;> omega
        have e6 : sgnI (-N) = 0 := by unfold sgnI; split <;> (try split) <;> omega
        rw [e5] at e1
        rw [e6] at e2
        have K1 : Hid (∀ W : World, Calls Try.prog 16 #[.agg #[.int .i64 x1, .int .i64 x2], .agg #[.int .i64 y1, .int .i64 y2]] W fun e w' => e = .returned (.int .i64 0) ∧ Below W.heap.size W w') := Lib.hid fun W => by
          have h := impl_CompareRats (x1) (x2) (y1) (y2) W
          rw [e1] at h
          exact h
        have K2 : Hid (∀ W : World, Calls Try.prog 17 #[.agg #[.int .i64 x1, .int .i64 x2], .agg #[.int .i64 y1, .int .i64 y2]] W fun e w' => e = .returned (.int .i64 0) ∧ Below W.heap.size W w') := Lib.hid fun W => by
          have h := spec_CompareRats (x1) (x2) (y1) (y2) W
          rw [e1] at h
          exact h
        have K3 : Hid (∀ W : World, Calls Try.prog 16 #[.agg #[.int .i64 y1, .int .i64 y2], .agg #[.int .i64 x1, .int .i64 x2]] W fun e w' => e = .returned (.int .i64 0) ∧ Below W.heap.size W w') := Lib.hid fun W => by
          have h := impl_CompareRats (y1) (y2) (x1) (x2) W
          rw [e2] at h
          exact h
        clear e1 e2 e5 e6 hv hX hY
        obtain ⟨c1, c2⟩ := hz.1 hN
        have i1 : (x1 == y1) = true := by simp [c1]
        have i2 : (x2 == y2) = true := by simp [c2]
        clear hz c1 c2 hN
        go_wp2_with fail
        refine (K1.out _).mono ?_
        rintro e w2 ⟨rfl, b2⟩
        have s2 := b2.size
        try simp at s2
        have z2_0 : w1.heap.size < w2.heap.size := by omega
        have k2_0_0 : w2.cell? ⟨w1.heap.size, 0, none⟩ = some (.int .i64 (x1)) := (b2.cell (p := ⟨w1.heap.size, 0, none⟩) (by first | (simp; done) | (simp; omega) | omega)).trans (by first | with_reducible assumption | (simp [go_sem]; done) | (simp [go_sem, *]; done))
        have g2_0_0 : w2.frozen? ⟨w1.heap.size, 0, none⟩ = false := (b2.frozen (p := ⟨w1.heap.size, 0, none⟩) (by first | (simp; done) | (simp; omega) | omega)).trans (by first | with_reducible assumption | (simp [go_sem]; done) | (simp [go_sem, *]; done))
        have k2_0_1 : w2.cell? ⟨w1.heap.size, 1, none⟩ = some (.int .i64 (x2)) := (b2.cell (p := ⟨w1.heap.size, 1, none⟩) (by first | (simp; done) | (simp; omega) | omega)).trans (by first | with_reducible assumption | (simp [go_sem]; done) | (simp [go_sem, *]; done))
        have g2_0_1 : w2.frozen? ⟨w1.heap.size, 1, none⟩ = false := (b2.frozen (p := ⟨w1.heap.size, 1, none⟩) (by first | (simp; done) | (simp; omega) | omega)).trans (by first | with_reducible assumption | (simp [go_sem]; done) | (simp [go_sem, *]; done))
        have z2_1 : w1.heap.size + 1 < w2.heap.size := by omega
        have k2_1_0 : w2.cell? ⟨w1.heap.size + 1, 0, none⟩ = some (.int .i64 (y1)) := (b2.cell (p := ⟨w1.heap.size + 1, 0, none⟩) (by first | (simp; done) | (simp; omega) | omega)).trans (by first | with_reducible assumption | (simp [go_sem]; done) | (simp [go_sem, *]; done))
        have g2_1_0 : w2.frozen? ⟨w1.heap.size + 1, 0, none⟩ = false := (b2.frozen (p := ⟨w1.heap.size + 1, 0, none⟩) (by first | (simp; done) | (simp; omega) | omega)).trans (by first | with_reducible assumption | (simp [go_sem]; done) | (simp [go_sem, *]; done))
        have k2_1_1 : w2.cell? ⟨w1.heap.size + 1, 1, none⟩ = some (.int .i64 (y2)) := (b2.cell (p := ⟨w1.heap.size + 1, 1, none⟩) (by first | (simp; done) | (simp; omega) | omega)).trans (by first | with_reducible assumption | (simp [go_sem]; done) | (simp [go_sem, *]; done))
        have g2_1_1 : w2.frozen? ⟨w1.heap.size + 1, 1, none⟩ = false := (b2.frozen (p := ⟨w1.heap.size + 1, 1, none⟩) (by first | (simp; done) | (simp; omega) | omega)).trans (by first | with_reducible assumption | (simp [go_sem]; done) | (simp [go_sem, *]; done))
        go_wp2_with fail
        refine (K2.out _).mono ?_
        rintro e w3 ⟨rfl, b3⟩
        have s3 := b3.size
        try simp at s3
        have z3_0 : w1.heap.size < w3.heap.size := by omega
        have k3_0_0 : w3.cell? ⟨w1.heap.size, 0, none⟩ = some (.int .i64 (x1)) := (b3.cell (p := ⟨w1.heap.size, 0, none⟩) (by first | (simp; done) | (simp; omega) | omega)).trans (by first | with_reducible assumption | (simp [go_sem]; done) | (simp [go_sem, *]; done))
        have g3_0_0 : w3.frozen? ⟨w1.heap.size, 0, none⟩ = false := (b3.frozen (p := ⟨w1.heap.size, 0, none⟩) (by first | (simp; done) | (simp; omega) | omega)).trans (by first | with_reducible assumption | (simp [go_sem]; done) | (simp [go_sem, *]; done))
        have k3_0_1 : w3.cell? ⟨w1.heap.size, 1, none⟩ = some (.int .i64 (x2)) := (b3.cell (p := ⟨w1.heap.size, 1, none⟩) (by first | (simp; done) | (simp; omega) | omega)).trans (by first | with_reducible assumption | (simp [go_sem]; done) | (simp [go_sem, *]; done))
        have g3_0_1 : w3.frozen? ⟨w1.heap.size, 1, none⟩ = false := (b3.frozen (p := ⟨w1.heap.size, 1, none⟩) (by first | (simp; done) | (simp; omega) | omega)).trans (by first | with_reducible assumption | (simp [go_sem]; done) | (simp [go_sem, *]; done))
        have z3_1 : w1.heap.size + 1 < w3.heap.size := by omega
        have k3_1_0 : w3.cell? ⟨w1.heap.size + 1, 0, none⟩ = some (.int .i64 (y1)) := (b3.cell (p := ⟨w1.heap.size + 1, 0, none⟩) (by first | (simp; done) | (simp; omega) | omega)).trans (by first | with_reducible assumption | (simp [go_sem]; done) | (simp [go_sem, *]; done))
        have g3_1_0 : w3.frozen? ⟨w1.heap.size + 1, 0, none⟩ = false := (b3.frozen (p := ⟨w1.heap.size + 1, 0, none⟩) (by first | (simp; done) | (simp; omega) | omega)).trans (by first | with_reducible assumption | (simp [go_sem]; done) | (simp [go_sem, *]; done))
        have k3_1_1 : w3.cell? ⟨w1.heap.size + 1, 1, none⟩ = some (.int .i64 (y2)) := (b3.cell (p := ⟨w1.heap.size + 1, 1, none⟩) (by first | (simp; done) | (simp; omega) | omega)).trans (by first | with_reducible assumption | (simp [go_sem]; done) | (simp [go_sem, *]; done))
        have g3_1_1 : w3.frozen? ⟨w1.heap.size + 1, 1, none⟩ = false := (b3.frozen (p := ⟨w1.heap.size + 1, 1, none⟩) (by first | (simp; done) | (simp; omega) | omega)).trans (by first | with_reducible assumption | (simp [go_sem]; done) | (simp [go_sem, *]; done))
        clear k2_0_0 g2_0_0 k2_0_1 g2_0_1 k2_1_0 g2_1_0 k2_1_1 g2_1_1
        go_wp2_with fail
        refine (K3.out _).mono ?_
        rintro e w4 ⟨rfl, b4⟩
        have s4 := b4.size
        try simp at s4
        have z4_0 : w1.heap.size < w4.heap.size := by omega
        have k4_0_0 : w4.cell? ⟨w1.heap.size, 0, none⟩ = some (.int .i64 (x1)) := (b4.cell (p := ⟨w1.heap.size, 0, none⟩) (by first | (simp; done) | (simp; omega) | omega)).trans (by first | with_reducible assumption | (simp [go_sem]; done) | (simp [go_sem, *]; done))
        have g4_0_0 : w4.frozen? ⟨w1.heap.size, 0, none⟩ = false := (b4.frozen (p := ⟨w1.heap.size, 0, none⟩) (by first | (simp; done) | (simp; omega) | omega)).trans (by first | with_reducible assumption | (simp [go_sem]; done) | (simp [go_sem, *]; done))
        have k4_0_1 : w4.cell? ⟨w1.heap.size, 1, none⟩ = some (.int .i64 (x2)) := (b4.cell (p := ⟨w1.heap.size, 1, none⟩) (by first | (simp; done) | (simp; omega) | omega)).trans (by first | with_reducible assumption | (simp [go_sem]; done) | (simp [go_sem, *]; done))
        have g4_0_1 : w4.frozen? ⟨w1.heap.size, 1, none⟩ = false := (b4.frozen (p := ⟨w1.heap.size, 1, none⟩) (by first | (simp; done) | (simp; omega) | omega)).trans (by first | with_reducible assumption | (simp [go_sem]; done) | (simp [go_sem, *]; done))
        have z4_1 : w1.heap.size + 1 < w4.heap.size := by omega
        have k4_1_0 : w4.cell? ⟨w1.heap.size + 1, 0, none⟩ = some (.int .i64 (y1)) := (b4.cell (p := ⟨w1.heap.size + 1, 0, none⟩) (by first | (simp; done) | (simp; omega) | omega)).trans (by first | with_reducible assumption | (simp [go_sem]; done) | (simp [go_sem, *]; done))
        have g4_1_0 : w4.frozen? ⟨w1.heap.size + 1, 0, none⟩ = false := (b4.frozen (p := ⟨w1.heap.size + 1, 0, none⟩) (by first | (simp; done) | (simp; omega) | omega)).trans (by first | with_reducible assumption | (simp [go_sem]; done) | (simp [go_sem, *]; done))
        have k4_1_1 : w4.cell? ⟨w1.heap.size + 1, 1, none⟩ = some (.int .i64 (y2)) := (b4.cell (p := ⟨w1.heap.size + 1, 1, none⟩) (by first | (simp; done) | (simp; omega) | omega)).trans (by first | with_reducible assumption | (simp [go_sem]; done) | (simp [go_sem, *]; done))
        have g4_1_1 : w4.frozen? ⟨w1.heap.size + 1, 1, none⟩ = false := (b4.frozen (p := ⟨w1.heap.size + 1, 1, none⟩) (by first | (simp; done) | (simp; omega) | omega)).trans (by first | with_reducible assumption | (simp [go_sem]; done) | (simp [go_sem, *]; done))
        clear k3_0_0 g3_0_0 k3_0_1 g3_0_1 k3_1_0 g3_1_0 k3_1_1 g3_1_1
        go_wp2
        go_ret
        exact ⟨rfl, (by (repeat (first | with_reducible exact Below.refl _ _ | with_reducible refine bl_alloc ?_ _ | with_reducible refine bl_drew ?_ | with_reducible refine bl_set ?_ (by first | (simp; done) | (simp; omega)) _ | with_reducible refine bl_call (by assumption) ?_)))⟩
      ·
        have e5 : sgnI N = 1 := by unfold sgnI; split <;> (try split) <;> omega
        have e6 : sgnI (-N) = -1 := by unfold sgnI; split <;> (try split) <;> omega
        rw [e5] at e1
        rw [e6] at e2
        have K1 : Hid (∀ W : World, Calls Try.prog 16 #[.agg #[.int .i64 x1, .int .i64 x2], .agg #[.int .i64 y1, .int .i64 y2]] W fun e w' => e = .returned (.int .i64 1) ∧ Below W.heap.size W w') := Lib.hid fun W => by
          have h := impl_CompareRats (x1) (x2) (y1) (y2) W
          rw [e1] at h
          exact h
        have K2 : Hid (∀ W : World, Calls Try.prog 17 #[.agg #[.int .i64 x1, .int .i64 x2], .agg #[.int .i64 y1, .int .i64 y2]] W fun e w' => e = .returned (.int .i64 1) ∧ Below W.heap.size W w') := Lib.hid fun W => by
          have h := spec_CompareRats (x1) (x2) (y1) (y2) W
          rw [e1] at h
          exact h
        have K3 : Hid (∀ W : World, Calls Try.prog 16 #[.agg #[.int .i64 y1, .int .i64 y2], .agg #[.int .i64 x1, .int .i64 x2]] W fun e w' => e = .returned (.int .i64 (-1)) ∧ Below W.heap.size W w') := Lib.hid fun W => by
          have h := impl_CompareRats (y1) (y2) (x1) (x2) W
          rw [e2] at h
          exact h
        clear e1 e2 e5 e6 hv hX hY
        have hq : ¬ (x1 = y1 ∧ x2 = y2) := fun h => by have := hz.2 h; omega
        clear hz
        by_cases c1 : x1 = y1
        ·
          have i1 : (x1 == y1) = true := by simp [c1]
          have i2 : (x2 == y2) = false := by simp; exact fun h => hq ⟨c1, h⟩
          clear hq c1
          go_wp2_with fail
          refine (K1.out _).mono ?_
          rintro e w2 ⟨rfl, b2⟩
          have s2 := b2.size
          try simp at s2
          have z2_0 : w1.heap.size < w2.heap.size := by omega
          have k2_0_0 : w2.cell? ⟨w1.heap.size, 0, none⟩ = some (.int .i64 (x1)) := (b2.cell (p := ⟨w1.heap.size, 0, none⟩) (by first | (simp; done) | (simp; omega) | omega)).trans (by first | with_reducible assumption | (simp [go_sem]; done) | (simp [go_sem, *]; done))
          have g2_0_0 : w2.frozen? ⟨w1.heap.size, 0, none⟩ = false := (b2.frozen (p := ⟨w1.heap.size, 0, none⟩) (by first | (simp; done) | (simp; omega) | omega)).trans (by first | with_reducible assumption | (simp [go_sem]; done) | (simp [go_sem, *]; done))
          have k2_0_1 : w2.cell? ⟨w1.heap.size, 1, none⟩ = some (.int .i64 (x2)) := (b2.cell (p := ⟨w1.heap.size, 1, none⟩) (by first | (simp; done) | (simp; omega) | omega)).trans (by first | with_reducible assumption | (simp [go_sem]; done) | (simp [go_sem, *]; done))
          have g2_0_1 : w2.frozen? ⟨w1.heap.size, 1, none⟩ = false := (b2.frozen (p := ⟨w1.heap.size, 1, none⟩) (by first | (simp; done) | (simp; omega) | omega)).trans (by first | with_reducible assumption | (simp [go_sem]; done) | (simp [go_sem, *]; done))
          have z2_1 : w1.heap.size + 1 < w2.heap.size := by omega
          have k2_1_0 : w2.cell? ⟨w1.heap.size + 1, 0, none⟩ = some (.int .i64 (y1)) := (b2.cell (p := ⟨w1.heap.size + 1, 0, none⟩) (by first | (simp; done) | (simp; omega) | omega)).trans (by first | with_reducible assumption | (simp [go_sem]; done) | (simp [go_sem, *]; done))
          have g2_1_0 : w2.frozen? ⟨w1.heap.size + 1, 0, none⟩ = false := (b2.frozen (p := ⟨w1.heap.size + 1, 0, none⟩) (by first | (simp; done) | (simp; omega) | omega)).trans (by first | with_reducible assumption | (simp [go_sem]; done) | (simp [go_sem, *]; done))
          have k2_1_1 : w2.cell? ⟨w1.heap.size + 1, 1, none⟩ = some (.int .i64 (y2)) := (b2.cell (p := ⟨w1.heap.size + 1, 1, none⟩) (by first | (simp; done) | (simp; omega) | omega)).trans (by first | with_reducible assumption | (simp [go_sem]; done) | (simp [go_sem, *]; done))
          have g2_1_1 : w2.frozen? ⟨w1.heap.size + 1, 1, none⟩ = false := (b2.frozen (p := ⟨w1.heap.size + 1, 1, none⟩) (by first | (simp; done) | (simp; omega) | omega)).trans (by first | with_reducible assumption | (simp [go_sem]; done) | (simp [go_sem, *]; done))
          go_wp2_with fail
          refine (K2.out _).mono ?_
          rintro e w3 ⟨rfl, b3⟩
          have s3 := b3.size
          try simp at s3
          have z3_0 : w1.heap.size < w3.heap.size := by omega
          have k3_0_0 : w3.cell? ⟨w1.heap.size, 0, none⟩ = some (.int .i64 (x1)) := (b3.cell (p := ⟨w1.heap.size, 0, none⟩) (by first | (simp; done) | (simp; omega) | omega)).trans (by first | with_reducible assumption | (simp [go_sem]; done) | (simp [go_sem, *]; done))
          have g3_0_0 : w3.frozen? ⟨w1.heap.size, 0, none⟩ = false := (b3.frozen (p := ⟨w1.heap.size, 0, none⟩) (by first | (simp; done) | (simp; omega) | omega)).trans (by first | with_reducible assumption | (simp [go_sem]; done) | (simp [go_sem, *]; done))
          have k3_0_1 : w3.cell? ⟨w1.heap.size, 1, none⟩ = some (.int .i64 (x2)) := (b3.cell (p := ⟨w1.heap.size, 1, none⟩) (by first | (simp; done) | (simp; omega) | omega)).trans (by first | with_reducible assumption | (simp [go_sem]; done) | (simp [go_sem, *]; done))
          have g3_0_1 : w3.frozen? ⟨w1.heap.size, 1, none⟩ = false := (b3.frozen (p := ⟨w1.heap.size, 1, none⟩) (by first | (simp; done) | (simp; omega) | omega)).trans (by first | with_reducible assumption | (simp [go_sem]; done) | (simp [go_sem, *]; done))
          have z3_1 : w1.heap.size + 1 < w3.heap.size := by omega
          have k3_1_0 : w3.cell? ⟨w1.heap.size + 1, 0, none⟩ = some (.int .i64 (y1)) := (b3.cell (p := ⟨w1.heap.size + 1, 0, none⟩) (by first | (simp; done) | (simp; omega) | omega)).trans (by first | with_reducible assumption | (simp [go_sem]; done) | (simp [go_sem, *]; done))
          have g3_1_0 : w3.frozen? ⟨w1.heap.size + 1, 0, none⟩ = false := (b3.frozen (p := ⟨w1.heap.size + 1, 0, none⟩) (by first | (simp; done) | (simp; omega) | omega)).trans (by first | with_reducible assumption | (simp [go_sem]; done) | (simp [go_sem, *]; done))
          have k3_1_1 : w3.cell? ⟨w1.heap.size + 1, 1, none⟩ = some (.int .i64 (y2)) := (b3.cell (p := ⟨w1.heap.size + 1, 1, none⟩) (by first | (simp; done) | (simp; omega) | omega)).trans (by first | with_reducible assumption | (simp [go_sem]; done) | (simp [go_sem, *]; done))
          have g3_1_1 : w3.frozen? ⟨w1.heap.size + 1, 1, none⟩ = false := (b3.frozen (p := ⟨w1.heap.size + 1, 1, none⟩) (by first | (simp; done) | (simp; omega) | omega)).trans (by first | with_reducible assumption | (simp [go_sem]; done) | (simp [go_sem, *]; done))
          clear k2_0_0 g2_0_0 k2_0_1 g2_0_1 k2_1_0 g2_1_0 k2_1_1 g2_1_1
          go_wp2_with fail
          refine (K3.out _).mono ?_
          rintro e w4 ⟨rfl, b4⟩
          have s4 := b4.size
          try simp at s4
          have z4_0 : w1.heap.size < w4.heap.size := by omega
          have k4_0_0 : w4.cell? ⟨w1.heap.size, 0, none⟩ = some (.int .i64 (x1)) := (b4.cell (p := ⟨w1.heap.size, 0, none⟩) (by first | (simp; done) | (simp; omega) | omega)).trans (by first | with_reducible assumption | (simp [go_sem]; done) | (simp [go_sem, *]; done))
          have g4_0_0 : w4.frozen? ⟨w1.heap.size, 0, none⟩ = false := (b4.frozen (p := ⟨w1.heap.size, 0, none⟩) (by first | (simp; done) | (simp; omega) | omega)).trans (by first | with_reducible assumption | (simp [go_sem]; done) | (simp [go_sem, *]; done))
          have k4_0_1 : w4.cell? ⟨w1.heap.size, 1, none⟩ = some (.int .i64 (x2)) := (b4.cell (p := ⟨w1.heap.size, 1, none⟩) (by first | (simp; done) | (simp; omega) | omega)).trans (by first | with_reducible assumption | (simp [go_sem]; done) | (simp [go_sem, *]; done))
          have g4_0_1 : w4.frozen? ⟨w1.heap.size, 1, none⟩ = false := (b4.frozen (p := ⟨w1.heap.size, 1, none⟩) (by first | (simp; done) | (simp; omega) | omega)).trans (by first | with_reducible assumption | (simp [go_sem]; done) | (simp [go_sem, *]; done))
          have z4_1 : w1.heap.size + 1 < w4.heap.size := by omega
          have k4_1_0 : w4.cell? ⟨w1.heap.size + 1, 0, none⟩ = some (.int .i64 (y1)) := (b4.cell (p := ⟨w1.heap.size + 1, 0, none⟩) (by first | (simp; done) | (simp; omega) | omega)).trans (by first | with_reducible assumption | (simp [go_sem]; done) | (simp [go_sem, *]; done))
          have g4_1_0 : w4.frozen? ⟨w1.heap.size + 1, 0, none⟩ = false := (b4.frozen (p := ⟨w1.heap.size + 1, 0, none⟩) (by first | (simp; done) | (simp; omega) | omega)).trans (by first | with_reducible assumption | (simp [go_sem]; done) | (simp [go_sem, *]; done))
          have k4_1_1 : w4.cell? ⟨w1.heap.size + 1, 1, none⟩ = some (.int .i64 (y2)) := (b4.cell (p := ⟨w1.heap.size + 1, 1, none⟩) (by first | (simp; done) | (simp; omega) | omega)).trans (by first | with_reducible assumption | (simp [go_sem]; done) | (simp [go_sem, *]; done))
          have g4_1_1 : w4.frozen? ⟨w1.heap.size + 1, 1, none⟩ = false := (b4.frozen (p := ⟨w1.heap.size + 1, 1, none⟩) (by first | (simp; done) | (simp; omega) | omega)).trans (by first | with_reducible assumption | (simp [go_sem]; done) | (simp [go_sem, *]; done))
          clear k3_0_0 g3_0_0 k3_0_1 g3_0_1 k3_1_0 g3_1_0 k3_1_1 g3_1_1
          go_wp2
          go_ret
          exact ⟨rfl, (by (repeat (first | with_reducible exact Below.refl _ _ | with_reducible refine bl_alloc ?_ _ | with_reducible refine bl_drew ?_ | with_reducible refine bl_set ?_ (by first | (simp; done) | (simp; omega)) _ | with_reducible refine bl_call (by assumption) ?_)))⟩
        ·
          have i1 : (x1 == y1) = false := by simp [c1]
          clear hq
          go_wp2_with fail
          refine (K1.out _).mono ?_
          rintro e w2 ⟨rfl, b2⟩
          have s2 := b2.size
          try simp at s2
          have z2_0 : w1.heap.size < w2.heap.size := by omega
          have k2_0_0 : w2.cell? ⟨w1.heap.size, 0, none⟩ = some (.int .i64 (x1)) := (b2.cell (p := ⟨w1.heap.size, 0, none⟩) (by first | (simp; done) | (simp; omega) | omega)).trans (by first | with_reducible assumption | (simp [go_sem]; done) | (simp [go_sem, *]; done))
          have g2_0_0 : w2.frozen? ⟨w1.heap.size, 0, none⟩ = false := (b2.frozen (p := ⟨w1.heap.size, 0, none⟩) (by first | (simp; done) | (simp; omega) | omega)).trans (by first | with_reducible assumption | (simp [go_sem]; done) | (simp [go_sem, *]; done))
          have k2_0_1 : w2.cell? ⟨w1.heap.size, 1, none⟩ = some (.int .i64 (x2)) := (b2.cell (p := ⟨w1.heap.size, 1, none⟩) (by first | (simp; done) | (simp; omega) | omega)).trans (by first | with_reducible assumption | (simp [go_sem]; done) | (simp [go_sem, *]; done))
          have g2_0_1 : w2.frozen? ⟨w1.heap.size, 1, none⟩ = false := (b2.frozen (p := ⟨w1.heap.size, 1, none⟩) (by first | (simp; done) | (simp; omega) | omega)).trans (by first | with_reducible assumption | (simp [go_sem]; done) | (simp [go_sem, *]; done))
          have z2_1 : w1.heap.size + 1 < w2.heap.size := by omega
          have k2_1_0 : w2.cell? ⟨w1.heap.size + 1, 0, none⟩ = some (.int .i64 (y1)) := (b2.cell (p := ⟨w1.heap.size + 1, 0, none⟩) (by first | (simp; done) | (simp; omega) | omega)).trans (by first | with_reducible assumption | (simp [go_sem]; done) | (simp [go_sem, *]; done))
          have g2_1_0 : w2.frozen? ⟨w1.heap.size + 1, 0, none⟩ = false := (b2.frozen (p := ⟨w1.heap.size + 1, 0, none⟩) (by first | (simp; done) | (simp; omega) | omega)).trans (by first | with_reducible assumption | (simp [go_sem]; done) | (simp [go_sem, *]; done))
          have k2_1_1 : w2.cell? ⟨w1.heap.size + 1, 1, none⟩ = some (.int .i64 (y2)) := (b2.cell (p := ⟨w1.heap.size + 1, 1, none⟩) (by first | (simp; done) | (simp; omega) | omega)).trans (by first | with_reducible assumption | (simp [go_sem]; done) | (simp [go_sem, *]; done))
          have g2_1_1 : w2.frozen? ⟨w1.heap.size + 1, 1, none⟩ = false := (b2.frozen (p := ⟨w1.heap.size + 1, 1, none⟩) (by first | (simp; done) | (simp; omega) | omega)).trans (by first | with_reducible assumption | (simp [go_sem]; done) | (simp [go_sem, *]; done))
          go_wp2_with fail
          refine (K2.out _).mono ?_
          rintro e w3 ⟨rfl, b3⟩
          have s3 := b3.size
          try simp at s3
          have z3_0 : w1.heap.size < w3.heap.size := by omega
          have k3_0_0 : w3.cell? ⟨w1.heap.size, 0, none⟩ = some (.int .i64 (x1)) := (b3.cell (p := ⟨w1.heap.size, 0, none⟩) (by first | (simp; done) | (simp; omega) | omega)).trans (by first | with_reducible assumption | (simp [go_sem]; done) | (simp [go_sem, *]; done))
          have g3_0_0 : w3.frozen? ⟨w1.heap.size, 0, none⟩ = false := (b3.frozen (p := ⟨w1.heap.size, 0, none⟩) (by first | (simp; done) | (simp; omega) | omega)).trans (by first | with_reducible assumption | (simp [go_sem]; done) | (simp [go_sem, *]; done))
          have k3_0_1 : w3.cell? ⟨w1.heap.size, 1, none⟩ = some (.int .i64 (x2)) := (b3.cell (p := ⟨w1.heap.size, 1, none⟩) (by first | (simp; done) | (simp; omega) | omega)).trans (by first | with_reducible assumption | (simp [go_sem]; done) | (simp [go_sem, *]; done))
          have g3_0_1 : w3.frozen? ⟨w1.heap.size, 1, none⟩ = false := (b3.frozen (p := ⟨w1.heap.size, 1, none⟩) (by first | (simp; done) | (simp; omega) | omega)).trans (by first | with_reducible assumption | (simp [go_sem]; done) | (simp [go_sem, *]; done))
          have z3_1 : w1.heap.size + 1 < w3.heap.size := by omega
          have k3_1_0 : w3.cell? ⟨w1.heap.size + 1, 0, none⟩ = some (.int .i64 (y1)) := (b3.cell (p := ⟨w1.heap.size + 1, 0, none⟩) (by first | (simp; done) | (simp; omega) | omega)).trans (by first | with_reducible assumption | (simp [go_sem]; done) | (simp [go_sem, *]; done))
          have g3_1_0 : w3.frozen? ⟨w1.heap.size + 1, 0, none⟩ = false := (b3.frozen (p := ⟨w1.heap.size + 1, 0, none⟩) (by first | (simp; done) | (simp; omega) | omega)).trans (by first | with_reducible assumption | (simp [go_sem]; done) | (simp [go_sem, *]; done))
          have k3_1_1 : w3.cell? ⟨w1.heap.size + 1, 1, none⟩ = some (.int .i64 (y2)) := (b3.cell (p := ⟨w1.heap.size + 1, 1, none⟩) (by first | (simp; done) | (simp; omega) | omega)).trans (by first | with_reducible assumption | (simp [go_sem]; done) | (simp [go_sem, *]; done))
          have g3_1_1 : w3.frozen? ⟨w1.heap.size + 1, 1, none⟩ = false := (b3.frozen (p := ⟨w1.heap.size + 1, 1, none⟩) (by first | (simp; done) | (simp; omega) | omega)).trans (by first | with_reducible assumption | (simp [go_sem]; done) | (simp [go_sem, *]; done))
          clear k2_0_0 g2_0_0 k2_0_1 g2_0_1 k2_1_0 g2_1_0 k2_1_1 g2_1_1
          go_wp2_with fail
          refine (K3.out _).mono ?_
          rintro e w4 ⟨rfl, b4⟩
          have s4 := b4.size
          try simp at s4
          have z4_0 : w1.heap.size < w4.heap.size := by omega
          have k4_0_0 : w4.cell? ⟨w1.heap.size, 0, none⟩ = some (.int .i64 (x1)) := (b4.cell (p := ⟨w1.heap.size, 0, none⟩) (by first | (simp; done) | (simp; omega) | omega)).trans (by first | with_reducible assumption | (simp [go_sem]; done) | (simp [go_sem, *]; done))
          have g4_0_0 : w4.frozen? ⟨w1.heap.size, 0, none⟩ = false := (b4.frozen (p := ⟨w1.heap.size, 0, none⟩) (by first | (simp; done) | (simp; omega) | omega)).trans (by first | with_reducible assumption | (simp [go_sem]; done) | (simp [go_sem, *]; done))
          have k4_0_1 : w4.cell? ⟨w1.heap.size, 1, none⟩ = some (.int .i64 (x2)) := (b4.cell (p := ⟨w1.heap.size, 1, none⟩) (by first | (simp; done) | (simp; omega) | omega)).trans (by first | with_reducible assumption | (simp [go_sem]; done) | (simp [go_sem, *]; done))
          have g4_0_1 : w4.frozen? ⟨w1.heap.size, 1, none⟩ = false := (b4.frozen (p := ⟨w1.heap.size, 1, none⟩) (by first | (simp; done) | (simp; omega) | omega)).trans (by first | with_reducible assumption | (simp [go_sem]; done) | (simp [go_sem, *]; done))
          have z4_1 : w1.heap.size + 1 < w4.heap.size := by omega
          have k4_1_0 : w4.cell? ⟨w1.heap.size + 1, 0, none⟩ = some (.int .i64 (y1)) := (b4.cell (p := ⟨w1.heap.size + 1, 0, none⟩) (by first | (simp; done) | (simp; omega) | omega)).trans (by first | with_reducible assumption | (simp [go_sem]; done) | (simp [go_sem, *]; done))
          have g4_1_0 : w4.frozen? ⟨w1.heap.size + 1, 0, none⟩ = false := (b4.frozen (p := ⟨w1.heap.size + 1, 0, none⟩) (by first | (simp; done) | (simp; omega) | omega)).trans (by first | with_reducible assumption | (simp [go_sem]; done) | (simp [go_sem, *]; done))
          have k4_1_1 : w4.cell? ⟨w1.heap.size + 1, 1, none⟩ = some (.int .i64 (y2)) := (b4.cell (p := ⟨w1.heap.size + 1, 1, none⟩) (by first | (simp; done) | (simp; omega) | omega)).trans (by first | with_reducible assumption | (simp [go_sem]; done) | (simp [go_sem, *]; done))
          have g4_1_1 : w4.frozen? ⟨w1.heap.size + 1, 1, none⟩ = false := (b4.frozen (p := ⟨w1.heap.size + 1, 1, none⟩) (by first | (simp; done) | (simp; omega) | omega)).trans (by first | with_reducible assumption | (simp [go_sem]; done) | (simp [go_sem, *]; done))
          clear k3_0_0 g3_0_0 k3_0_1 g3_0_1 k3_1_0 g3_1_0 k3_1_1 g3_1_1
          go_wp2
          go_ret
          exact ⟨rfl, (by (repeat (first | with_reducible exact Below.refl _ _ | with_reducible refine bl_alloc ?_ _ | with_reducible refine bl_drew ?_ | with_reducible refine bl_set ?_ (by first | (simp; done) | (simp; omega)) _ | with_reducible refine bl_call (by assumption) ?_)))⟩

  · have hnz : (1048576 : Int) < (n : Int) := by omega
    go_enter Try.func3, Try.ntmps3
    go_wp2
    go_ret
    exact ⟨rfl, Below.refl _ _⟩

set_option maxRecDepth 100000 in
theorem lifted (os : Os) (started : os.Started) (H : Type) (enc : TypeId × Value → H) :
    ReturnsInHanded {} Try.checked os 3 .any (Rows.fnCompareRatsSpec.pre6 enc Try.prog Try.f3 Rows.fnCompareRatsRow.domain false) (Rows.fnCompareRatsSpec.post enc Try.prog Try.f3 false true false false) := by
  refine returnsInHanded_of_change (C := Try.checked) own started (by kernel_rfl) Try.func3
    (ChangeSpec.witness6 (enc := enc) (C := Try.checked) false ⟨#[], #[.slice none 0 0], []⟩ 8 (by kernel_rfl) (by kernel_rfl) (by kernel_rfl) (by kernel_rfl)) ?_
  intro W base args ds gs before hval0 hW hcnd _
  have hval : ∀ (j : Nat) t v, Try.f3.params[j]? = some t → args[j]? = some v → Value.okWide Try.prog W .any base t v := hval0
  have hW' := hW
  obtain ⟨p, q, hA0, hV, rfl, hfz, hnd⟩ := hW
  have hA : DataW.TrodAll enc Try.prog W 0 (fun _ => true) true Try.f3.params.toList args.toList ds p := hA0
  rw [Try.params3] at hA hval
  obtain ⟨v0, vs0, d0, ds0, p0, q0, hargs, rfl, rfl, h0, r0⟩ := trodAll_cons hA
  obtain ⟨rfl, rfl, rfl⟩ := trodAll_nil r0
  obtain rfl : args = #[v0] := by cases args; simp_all
  obtain ⟨rfl, rfl⟩ := trodVars_none hV
  have k0 := h0
  have lt0 : ∀ x ∈ p0, x.block < W.heap.size := by obtain ⟨m, hm⟩ := k0; exact DataW.trod_lt m _ _ _ hm
  obtain ⟨a0, n0, c0, rfl⟩ := okWide_slice Try.underlying22 (hval 0 22 v0 rfl rfl)
  obtain ⟨hs0, hl0, hm0⟩ := open_bytes Try.underlying22 Try.underlying5 (by kernel_rfl) h0
  clear hA0 hval0
  refine (walk a0 n0 c0 W hs0 hl0 hm0).mono fun e W' ⟨he, bel⟩ => ?_
  subst he
  exact ⟨_, rfl, _, _, _, [], _, [], hW', trodAll_mk1 (shut_bool Try.underlying4 _), (trodAll_cons_mk (Below.trod laidOut (by kernel_rfl) (of_decide_eq_true (by kernel_rfl)) k0 bel lt0) trodAll_mk0), rfl, bel.frame _, fun h => by cases h⟩

theorem proved : Rows.FnCompareRatsSaid :=
  OpenClaim.holds_of_wide 3 Try.f3 rfl rfl rfl rfl rfl rfl rfl ⟨rfl, rfl, rfl, rfl, rfl⟩ rfl rfl rfl rfl rfl (by kernel_rfl) Try.func3 (by kernel_rfl)
    (of_decide_eq_true (by kernel_rfl)) (by unfold Func.isWrapper; first | (rw [if_pos (by decide +kernel)]; kernel_rfl) | (rw [if_neg (by decide +kernel)]; exact ⟨rfl, rfl⟩))
    (fun os started H enc _ => lifted os started H enc)

end FnCompareRats

end Go.Proofs.Ytkhocfoggjdccaa
