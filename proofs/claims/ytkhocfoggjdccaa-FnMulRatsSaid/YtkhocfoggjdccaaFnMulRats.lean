/- FnMulRats returns true for every argument, and leaves its arguments as they were. No conditions. -/
import Derived.Test.YtkhocfoggjdccaaFrame
import Derived.Test.YtkhocfoggjdccaaRdr8
import Derived.Test.YtkhocfoggjdccaaT1
import Derived.Test.YtkhocfoggjdccaaPlainQ5
namespace Go.Proofs.Ytkhocfoggjdccaa
open Go.RowKit
set_option linter.unusedVariables false

open Go.ChangeShapes Go.WideShapes Go.ChangeAt
namespace FnMulRats

open Go.Sort
set_option maxRecDepth 100000 in
set_option maxHeartbeats 8000000 in
theorem walk (a : Option Addr) (n c : Nat) (w : World) (hs : BytesOf w.heap.size w a n) (hc : n ≤ c) (hc2 : c ≤ 9223372036854775807) :
    Calls Try.prog 8 #[.slice a n c] w fun e w' => e = .returned (.bool true) ∧ Below w.heap.size w w' := by
  by_cases hn : n ≤ 1048576
  · have hnz : ¬ (1048576 : Int) < (n : Int) := by omega
    have HS := Lib.hid hs
    clear hs
    go_enter Try.func8, Try.ntmps8
    go_wp2_with fail
    refine (rdr_DrawMulRats w.heap.size a n c w (Nat.le_refl _) HS.out hc hc2).mono ?_
    rintro e w1 ⟨x1, x2, y1, y2, rfl, ⟨lx1, ux1⟩, ⟨lx2, ux2⟩, ⟨ly1, uy1⟩, ⟨ly2, uy2⟩, b1⟩
    have s1 := b1.size
    try simp at s1
    cases hv : MuB x1 x2 y1 y2 with
    | false =>
      obtain ⟨sN, sD, sB⟩ := Mu_swap x1 x2 y1 y2
      rw [hv] at sB
      generalize eN : MuN x1 x2 y1 y2 = MN at *
      generalize eD : MuD x1 x2 y1 y2 = MD at *
      have K1 : Hid (∀ W : World, Calls Try.prog 29 #[.agg #[.int .i64 x1, .int .i64 x2], .agg #[.int .i64 y1, .int .i64 y2]] W fun e w' => e = .returned (.tuple #[.agg #[.int .i64 MN, .int .i64 MD], .bool false]) ∧ Below W.heap.size W w') := Lib.hid fun W => by
        have h := impl_MulRats (x1) (x2) (y1) (y2) W
        rw [eN, eD, hv] at h
        exact h
      have K2 : Hid (∀ W : World, Calls Try.prog 30 #[.agg #[.int .i64 x1, .int .i64 x2], .agg #[.int .i64 y1, .int .i64 y2]] W fun e w' => e = .returned (.tuple #[.agg #[.int .i64 MN, .int .i64 MD], .bool false]) ∧ Below W.heap.size W w') := Lib.hid fun W => by
        have h := spec_MulRats (x1) (x2) (y1) (y2) W
        rw [eN, eD, hv] at h
        exact h
      have K3 : Hid (∀ W : World, Calls Try.prog 29 #[.agg #[.int .i64 y1, .int .i64 y2], .agg #[.int .i64 x1, .int .i64 x2]] W fun e w' => e = .returned (.tuple #[.agg #[.int .i64 MN, .int .i64 MD], .bool false]) ∧ Below W.heap.size W w') := Lib.hid fun W => by
        have h := impl_MulRats (y1) (y2) (x1) (x2) W
        rw [sN, sD, sB] at h
        exact h
      clear eN eD hv sN sD sB
      go_wp2_with fail
      refine (K1.out _).mono ?_
      rintro e w2 ⟨rfl, b2⟩
      have s2 := b2.size
      try simp at s2
      have z2_0 : w1.heap.size < w2.heap.size := by omega
      have k2_0_0 : w2.cell? ⟨w1.heap.size, 0, none⟩ = some (.int .i64 (x1)) := (b2.cell (p := ⟨w1.heap.size, 0, none⟩) (by first | (simp; done) | (simp; omega) | omega)).trans (by first | with_reducible assumption | (simp [go_sem]; done) | (simp [go_sem, *]; done))
      have g2_0_0 : w2.frozen? ⟨w1.heap.size, 0, none⟩ = false := (b2.frozen (p := ⟨w1.heap.size, 0, none⟩) (by first | (simp; done) | (simp; omega) | omega)).trans (by first | with_reducible assumption | (simp [go_sem]; done) | (simp [go_sem, *]; done))
      have k2_0_1 : w2.cell? ⟨w1.heap.size, 1, none⟩ = some (.int .i64 (x2)) := (b2.cell (p := ⟨w1.heap.size, 1, none⟩) (by first | (simp; done) | (simp; omega) | omega)).trans (by first | with_reducible assumption | (simp [go_sem]; done) | (simp [go_sem, *]; done))
      have g2_0_1 : w2.frozen? ⟨w1.heap.size, 1, none⟩ = false := (b2.frozen (p := ⟨w1.heap.size, 1, none⟩) (by first | (simp; done) | (simp; omega) | omega)).trans (by first | with_reducible assumption | (simp [go_sem]; done) | (simp [go_sem, *]; done))
      have z2_1 : w1.heap.size + 1 < w2.heap.size := by omega
      have k2_1_0 : w2.cell? ⟨w1.heap.size + 1, 0, none⟩ = some (.int .i64 (y1)) := (b2.cell (p := ⟨w1.heap.size + 1, 0, none⟩) (by first | (simp; done) | (simp; omega) | omega)).trans (by first | with_reducible assumption | (simp [go_sem]; done) | (simp [go_sem, *]; done))
      have g2_1_0 : w2.frozen? ⟨w1.heap.size + 1, 0, none⟩ = false := (b2.frozen (p := ⟨w1.heap.size + 1, 0, none⟩) (by first | (simp; done) | (simp; omega) | omega)).trans (by first | with_reducible assumption | (simp [go_sem]; done) | (simp [go_sem, *]; done))
      have k2_1_1 : w2.cell? ⟨w1.heap.size + 1, 1, none⟩ = some (.int .i64 (y2)) := (b2.cell (p := ⟨w1.heap.size + 1, 1, none⟩) (by first | (simp; done) | (simp; omega) | omega)).trans (by first | with_reducible assumption | (simp [go_sem]; done) | (simp [go_sem, *]; done))
      have g2_1_1 : w2.frozen? ⟨w1.heap.size + 1, 1, none⟩ = false := (b2.frozen (p := ⟨w1.heap.size + 1, 1, none⟩) (by first | (simp; done) | (simp; omega) | omega)).trans (by first | with_reducible assumption | (simp [go_sem]; done) | (simp [go_sem, *]; done))
      go_wp2_with fail
      refine (K2.out _).mono ?_
      rintro e w3 ⟨rfl, b3⟩
      have s3 := b3.size
      try simp at s3
      have z3_0 : w1.heap.size < w3.heap.size := by omega
      have k3_0_0 : w3.cell? ⟨w1.heap.size, 0, none⟩ = some (.int .i64 (x1)) := (b3.cell (p := ⟨w1.heap.size, 0, none⟩) (by first | (simp; done) | (simp; omega) | omega)).trans (by first | with_reducible assumption | (simp [go_sem]; done) | (simp [go_sem, *]; done))
      have g3_0_0 : w3.frozen? ⟨w1.heap.size, 0, none⟩ = false := (b3.frozen (p := ⟨w1.heap.size, 0, none⟩) (by first | (simp; done) | (simp; omega) | omega)).trans (by first | with_reducible assumption | (simp [go_sem]; done) | (simp [go_sem, *]; done))
      have k3_0_1 : w3.cell? ⟨w1.heap.size, 1, none⟩ = some (.int .i64 (x2)) := (b3.cell (p := ⟨w1.heap.size, 1, none⟩) (by first | (simp; done) | (simp; omega) | omega)).trans (by first | with_reducible assumption | (simp [go_sem]; done) | (simp [go_sem, *]; done))
      have g3_0_1 : w3.frozen? ⟨w1.heap.size, 1, none⟩ = false := (b3.frozen (p := ⟨w1.heap.size, 1, none⟩) (by first | (simp; done) | (simp; omega) | omega)).trans (by first | with_reducible assumption | (simp [go_sem]; done) | (simp [go_sem, *]; done))
      have z3_1 : w1.heap.size + 1 < w3.heap.size := by omega
      have k3_1_0 : w3.cell? ⟨w1.heap.size + 1, 0, none⟩ = some (.int .i64 (y1)) := (b3.cell (p := ⟨w1.heap.size + 1, 0, none⟩) (by first | (simp; done) | (simp; omega) | omega)).trans (by first | with_reducible assumption | (simp [go_sem]; done) | (simp [go_sem, *]; done))
      have g3_1_0 : w3.frozen? ⟨w1.heap.size + 1, 0, none⟩ = false := (b3.frozen (p := ⟨w1.heap.size + 1, 0, none⟩) (by first | (simp; done) | (simp; omega) | omega)).trans (by first | with_reducible assumption | (simp [go_sem]; done) | (simp [go_sem, *]; done))
      have k3_1_1 : w3.cell? ⟨w1.heap.size + 1, 1, none⟩ = some (.int .i64 (y2)) := (b3.cell (p := ⟨w1.heap.size + 1, 1, none⟩) (by first | (simp; done) | (simp; omega) | omega)).trans (by first | with_reducible assumption | (simp [go_sem]; done) | (simp [go_sem, *]; done))
      have g3_1_1 : w3.frozen? ⟨w1.heap.size + 1, 1, none⟩ = false := (b3.frozen (p := ⟨w1.heap.size + 1, 1, none⟩) (by first | (simp; done) | (simp; omega) | omega)).trans (by first | with_reducible assumption | (simp [go_sem]; done) | (simp [go_sem, *]; done))
      have z3_2 : w2.heap.size < w3.heap.size := by omega
      have k3_2_0 : w3.cell? ⟨w2.heap.size, 0, none⟩ = some (.int .i64 (MN)) := (b3.cell (p := ⟨w2.heap.size, 0, none⟩) (by first | (simp; done) | (simp; omega) | omega)).trans (by first | with_reducible assumption | (simp [go_sem]; done) | (simp [go_sem, *]; done))
      have g3_2_0 : w3.frozen? ⟨w2.heap.size, 0, none⟩ = false := (b3.frozen (p := ⟨w2.heap.size, 0, none⟩) (by first | (simp; done) | (simp; omega) | omega)).trans (by first | with_reducible assumption | (simp [go_sem]; done) | (simp [go_sem, *]; done))
      have k3_2_1 : w3.cell? ⟨w2.heap.size, 1, none⟩ = some (.int .i64 (MD)) := (b3.cell (p := ⟨w2.heap.size, 1, none⟩) (by first | (simp; done) | (simp; omega) | omega)).trans (by first | with_reducible assumption | (simp [go_sem]; done) | (simp [go_sem, *]; done))
      have g3_2_1 : w3.frozen? ⟨w2.heap.size, 1, none⟩ = false := (b3.frozen (p := ⟨w2.heap.size, 1, none⟩) (by first | (simp; done) | (simp; omega) | omega)).trans (by first | with_reducible assumption | (simp [go_sem]; done) | (simp [go_sem, *]; done))
      clear k2_0_0 g2_0_0 k2_0_1 g2_0_1 k2_1_0 g2_1_0 k2_1_1 g2_1_1
      go_wp2_with fail
      refine (K3.out _).mono ?_
      rintro e w4 ⟨rfl, b4⟩
      have s4 := b4.size
      try simp at s4
      have z4_0 : w1.heap.size < w4.heap.size := by omega
      have k4_0_0 : w4.cell? ⟨w1.heap.size, 0, none⟩ = some (.int .i64 (x1)) := (b4.cell (p := ⟨w1.heap.size, 0, none⟩) (by first | (simp; done) | (simp; omega) | omega)).trans (by first | with_reducible assumption | (simp [go_sem]; done) | (simp [go_sem, *]; done))
      have g4_0_0 : w4.frozen? ⟨w1.heap.size, 0, none⟩ = false := (b4.frozen (p := ⟨w1.heap.size, 0, none⟩) (by first | (simp; done) | (simp; omega) | omega)).trans (by first | with_reducible assumption | (simp [go_sem]; done) | (simp [go_sem, *]; done))
      have k4_0_1 : w4.cell? ⟨w1.heap.size, 1, none⟩ = some (.int .i64 (x2)) := (b4.cell (p := ⟨w1.heap.size, 1, none⟩) (by first | (simp; done) | (simp; omega) | omega)).trans (by first | with_reducible assumption | (simp [go_sem]; done) | (simp [go_sem, *]; done))
      have g4_0_1 : w4.frozen? ⟨w1.heap.size, 1, none⟩ = false := (b4.frozen (p := ⟨w1.heap.size, 1, none⟩) (by first | (simp; done) | (simp; omega) | omega)).trans (by first | with_reducible assumption | (simp [go_sem]; done) | (simp [go_sem, *]; done))
      have z4_1 : w1.heap.size + 1 < w4.heap.size := by omega
      have k4_1_0 : w4.cell? ⟨w1.heap.size + 1, 0, none⟩ = some (.int .i64 (y1)) := (b4.cell (p := ⟨w1.heap.size + 1, 0, none⟩) (by first | (simp; done) | (simp; omega) | omega)).trans (by first | with_reducible assumption | (simp [go_sem]; done) | (simp [go_sem, *]; done))
      have g4_1_0 : w4.frozen? ⟨w1.heap.size + 1, 0, none⟩ = false := (b4.frozen (p := ⟨w1.heap.size + 1, 0, none⟩) (by first | (simp; done) | (simp; omega) | omega)).trans (by first | with_reducible assumption | (simp [go_sem]; done) | (simp [go_sem, *]; done))
      have k4_1_1 : w4.cell? ⟨w1.heap.size + 1, 1, none⟩ = some (.int .i64 (y2)) := (b4.cell (p := ⟨w1.heap.size + 1, 1, none⟩) (by first | (simp; done) | (simp; omega) | omega)).trans (by first | with_reducible assumption | (simp [go_sem]; done) | (simp [go_sem, *]; done))
      have g4_1_1 : w4.frozen? ⟨w1.heap.size + 1, 1, none⟩ = false := (b4.frozen (p := ⟨w1.heap.size + 1, 1, none⟩) (by first | (simp; done) | (simp; omega) | omega)).trans (by first | with_reducible assumption | (simp [go_sem]; done) | (simp [go_sem, *]; done))
      have z4_2 : w2.heap.size < w4.heap.size := by omega
      have k4_2_0 : w4.cell? ⟨w2.heap.size, 0, none⟩ = some (.int .i64 (MN)) := (b4.cell (p := ⟨w2.heap.size, 0, none⟩) (by first | (simp; done) | (simp; omega) | omega)).trans (by first | with_reducible assumption | (simp [go_sem]; done) | (simp [go_sem, *]; done))
      have g4_2_0 : w4.frozen? ⟨w2.heap.size, 0, none⟩ = false := (b4.frozen (p := ⟨w2.heap.size, 0, none⟩) (by first | (simp; done) | (simp; omega) | omega)).trans (by first | with_reducible assumption | (simp [go_sem]; done) | (simp [go_sem, *]; done))
      have k4_2_1 : w4.cell? ⟨w2.heap.size, 1, none⟩ = some (.int .i64 (MD)) := (b4.cell (p := ⟨w2.heap.size, 1, none⟩) (by first | (simp; done) | (simp; omega) | omega)).trans (by first | with_reducible assumption | (simp [go_sem]; done) | (simp [go_sem, *]; done))
      have g4_2_1 : w4.frozen? ⟨w2.heap.size, 1, none⟩ = false := (b4.frozen (p := ⟨w2.heap.size, 1, none⟩) (by first | (simp; done) | (simp; omega) | omega)).trans (by first | with_reducible assumption | (simp [go_sem]; done) | (simp [go_sem, *]; done))
      have z4_3 : w3.heap.size < w4.heap.size := by omega
      have k4_3_0 : w4.cell? ⟨w3.heap.size, 0, none⟩ = some (.int .i64 (MN)) := (b4.cell (p := ⟨w3.heap.size, 0, none⟩) (by first | (simp; done) | (simp; omega) | omega)).trans (by first | with_reducible assumption | (simp [go_sem]; done) | (simp [go_sem, *]; done))
      have g4_3_0 : w4.frozen? ⟨w3.heap.size, 0, none⟩ = false := (b4.frozen (p := ⟨w3.heap.size, 0, none⟩) (by first | (simp; done) | (simp; omega) | omega)).trans (by first | with_reducible assumption | (simp [go_sem]; done) | (simp [go_sem, *]; done))
      have k4_3_1 : w4.cell? ⟨w3.heap.size, 1, none⟩ = some (.int .i64 (MD)) := (b4.cell (p := ⟨w3.heap.size, 1, none⟩) (by first | (simp; done) | (simp; omega) | omega)).trans (by first | with_reducible assumption | (simp [go_sem]; done) | (simp [go_sem, *]; done))
      have g4_3_1 : w4.frozen? ⟨w3.heap.size, 1, none⟩ = false := (b4.frozen (p := ⟨w3.heap.size, 1, none⟩) (by first | (simp; done) | (simp; omega) | omega)).trans (by first | with_reducible assumption | (simp [go_sem]; done) | (simp [go_sem, *]; done))
      clear k3_0_0 g3_0_0 k3_0_1 g3_0_1 k3_1_0 g3_1_0 k3_1_1 g3_1_1 k3_2_0 g3_2_0 k3_2_1 g3_2_1
      go_wp2
      go_ret
      exact ⟨rfl, (by (repeat (first | with_reducible exact Below.refl _ _ | with_reducible refine bl_alloc ?_ _ | with_reducible refine bl_drew ?_ | with_reducible refine bl_set ?_ (by first | (simp; done) | (simp; omega)) _ | with_reducible refine bl_call (by assumption) ?_)))⟩

    | true =>
      obtain ⟨sN, sD, sB⟩ := Mu_swap x1 x2 y1 y2
      rw [hv] at sB
      obtain ⟨hX, hY, hM, -⟩ := MuB_t hv
      obtain ⟨o1, o2, o3⟩ := mu_one x1 x2 hX
      have hz := mu_zero x1 x2 y1 y2 hv
      have hp := mu_pos x1 x2 y1 y2 hv
      generalize eN : MuN x1 x2 y1 y2 = MN at *
      generalize eD : MuD x1 x2 y1 y2 = MD at *
      have K1 : Hid (∀ W : World, Calls Try.prog 29 #[.agg #[.int .i64 x1, .int .i64 x2], .agg #[.int .i64 y1, .int .i64 y2]] W fun e w' => e = .returned (.tuple #[.agg #[.int .i64 MN, .int .i64 MD], .bool true]) ∧ Below W.heap.size W w') := Lib.hid fun W => by
        have h := impl_MulRats (x1) (x2) (y1) (y2) W
        rw [eN, eD, hv] at h
        exact h
      have K2 : Hid (∀ W : World, Calls Try.prog 30 #[.agg #[.int .i64 x1, .int .i64 x2], .agg #[.int .i64 y1, .int .i64 y2]] W fun e w' => e = .returned (.tuple #[.agg #[.int .i64 MN, .int .i64 MD], .bool true]) ∧ Below W.heap.size W w') := Lib.hid fun W => by
        have h := spec_MulRats (x1) (x2) (y1) (y2) W
        rw [eN, eD, hv] at h
        exact h
      have K3 : Hid (∀ W : World, Calls Try.prog 29 #[.agg #[.int .i64 y1, .int .i64 y2], .agg #[.int .i64 x1, .int .i64 x2]] W fun e w' => e = .returned (.tuple #[.agg #[.int .i64 MN, .int .i64 MD], .bool true]) ∧ Below W.heap.size W w') := Lib.hid fun W => by
        have h := impl_MulRats (y1) (y2) (x1) (x2) W
        rw [sN, sD, sB] at h
        exact h
      have K4 : Hid (∀ W : World, Calls Try.prog 29 #[.agg #[.int .i64 x1, .int .i64 x2], .agg #[.int .i64 1, .int .i64 1]] W fun e w' => e = .returned (.tuple #[.agg #[.int .i64 x1, .int .i64 x2], .bool true]) ∧ Below W.heap.size W w') := Lib.hid fun W => by
        have h := impl_MulRats (x1) (x2) (1) (1) W
        rw [o1, o2, o3] at h
        exact h
      have K5 : Hid (∀ W : World, Calls Try.prog 21 #[.agg #[.int .i64 MN, .int .i64 MD]] W fun e w' => e = .returned (.bool true) ∧ Below W.heap.size W w') := Lib.hid fun W => by
        have h := impl_ValidRat (MN) (MD) W
        rw [hM] at h
        exact h
      clear eN eD hv sN sD sB o1 o2 o3 hX hY hM
      have HZ := Lib.hid hz
      have HP := Lib.hid hp
      clear hz hp
      go_wp2_with fail
      refine (K1.out _).mono ?_
      rintro e w2 ⟨rfl, b2⟩
      have s2 := b2.size
      try simp at s2
      have z2_0 : w1.heap.size < w2.heap.size := by omega
      have k2_0_0 : w2.cell? ⟨w1.heap.size, 0, none⟩ = some (.int .i64 (x1)) := (b2.cell (p := ⟨w1.heap.size, 0, none⟩) (by first | (simp; done) | (simp; omega) | omega)).trans (by first | with_reducible assumption | (simp [go_sem]; done) | (simp [go_sem, *]; done))
      have g2_0_0 : w2.frozen? ⟨w1.heap.size, 0, none⟩ = false := (b2.frozen (p := ⟨w1.heap.size, 0, none⟩) (by first | (simp; done) | (simp; omega) | omega)).trans (by first | with_reducible assumption | (simp [go_sem]; done) | (simp [go_sem, *]; done))
      have k2_0_1 : w2.cell? ⟨w1.heap.size, 1, none⟩ = some (.int .i64 (x2)) := (b2.cell (p := ⟨w1.heap.size, 1, none⟩) (by first | (simp; done) | (simp; omega) | omega)).trans (by first | with_reducible assumption | (simp [go_sem]; done) | (simp [go_sem, *]; done))
      have g2_0_1 : w2.frozen? ⟨w1.heap.size, 1, none⟩ = false := (b2.frozen (p := ⟨w1.heap.size, 1, none⟩) (by first | (simp; done) | (simp; omega) | omega)).trans (by first | with_reducible assumption | (simp [go_sem]; done) | (simp [go_sem, *]; done))
      have z2_1 : w1.heap.size + 1 < w2.heap.size := by omega
      have k2_1_0 : w2.cell? ⟨w1.heap.size + 1, 0, none⟩ = some (.int .i64 (y1)) := (b2.cell (p := ⟨w1.heap.size + 1, 0, none⟩) (by first | (simp; done) | (simp; omega) | omega)).trans (by first | with_reducible assumption | (simp [go_sem]; done) | (simp [go_sem, *]; done))
      have g2_1_0 : w2.frozen? ⟨w1.heap.size + 1, 0, none⟩ = false := (b2.frozen (p := ⟨w1.heap.size + 1, 0, none⟩) (by first | (simp; done) | (simp; omega) | omega)).trans (by first | with_reducible assumption | (simp [go_sem]; done) | (simp [go_sem, *]; done))
      have k2_1_1 : w2.cell? ⟨w1.heap.size + 1, 1, none⟩ = some (.int .i64 (y2)) := (b2.cell (p := ⟨w1.heap.size + 1, 1, none⟩) (by first | (simp; done) | (simp; omega) | omega)).trans (by first | with_reducible assumption | (simp [go_sem]; done) | (simp [go_sem, *]; done))
      have g2_1_1 : w2.frozen? ⟨w1.heap.size + 1, 1, none⟩ = false := (b2.frozen (p := ⟨w1.heap.size + 1, 1, none⟩) (by first | (simp; done) | (simp; omega) | omega)).trans (by first | with_reducible assumption | (simp [go_sem]; done) | (simp [go_sem, *]; done))
      go_wp2_with fail
      refine (K2.out _).mono ?_
      rintro e w3 ⟨rfl, b3⟩
      have s3 := b3.size
      try simp at s3
      have z3_0 : w1.heap.size < w3.heap.size := by omega
      have k3_0_0 : w3.cell? ⟨w1.heap.size, 0, none⟩ = some (.int .i64 (x1)) := (b3.cell (p := ⟨w1.heap.size, 0, none⟩) (by first | (simp; done) | (simp; omega) | omega)).trans (by first | with_reducible assumption | (simp [go_sem]; done) | (simp [go_sem, *]; done))
      have g3_0_0 : w3.frozen? ⟨w1.heap.size, 0, none⟩ = false := (b3.frozen (p := ⟨w1.heap.size, 0, none⟩) (by first | (simp; done) | (simp; omega) | omega)).trans (by first | with_reducible assumption | (simp [go_sem]; done) | (simp [go_sem, *]; done))
      have k3_0_1 : w3.cell? ⟨w1.heap.size, 1, none⟩ = some (.int .i64 (x2)) := (b3.cell (p := ⟨w1.heap.size, 1, none⟩) (by first | (simp; done) | (simp; omega) | omega)).trans (by first | with_reducible assumption | (simp [go_sem]; done) | (simp [go_sem, *]; done))
      have g3_0_1 : w3.frozen? ⟨w1.heap.size, 1, none⟩ = false := (b3.frozen (p := ⟨w1.heap.size, 1, none⟩) (by first | (simp; done) | (simp; omega) | omega)).trans (by first | with_reducible assumption | (simp [go_sem]; done) | (simp [go_sem, *]; done))
      have z3_1 : w1.heap.size + 1 < w3.heap.size := by omega
      have k3_1_0 : w3.cell? ⟨w1.heap.size + 1, 0, none⟩ = some (.int .i64 (y1)) := (b3.cell (p := ⟨w1.heap.size + 1, 0, none⟩) (by first | (simp; done) | (simp; omega) | omega)).trans (by first | with_reducible assumption | (simp [go_sem]; done) | (simp [go_sem, *]; done))
      have g3_1_0 : w3.frozen? ⟨w1.heap.size + 1, 0, none⟩ = false := (b3.frozen (p := ⟨w1.heap.size + 1, 0, none⟩) (by first | (simp; done) | (simp; omega) | omega)).trans (by first | with_reducible assumption | (simp [go_sem]; done) | (simp [go_sem, *]; done))
      have k3_1_1 : w3.cell? ⟨w1.heap.size + 1, 1, none⟩ = some (.int .i64 (y2)) := (b3.cell (p := ⟨w1.heap.size + 1, 1, none⟩) (by first | (simp; done) | (simp; omega) | omega)).trans (by first | with_reducible assumption | (simp [go_sem]; done) | (simp [go_sem, *]; done))
      have g3_1_1 : w3.frozen? ⟨w1.heap.size + 1, 1, none⟩ = false := (b3.frozen (p := ⟨w1.heap.size + 1, 1, none⟩) (by first | (simp; done) | (simp; omega) | omega)).trans (by first | with_reducible assumption | (simp [go_sem]; done) | (simp [go_sem, *]; done))
      have z3_2 : w2.heap.size < w3.heap.size := by omega
      have k3_2_0 : w3.cell? ⟨w2.heap.size, 0, none⟩ = some (.int .i64 (MN)) := (b3.cell (p := ⟨w2.heap.size, 0, none⟩) (by first | (simp; done) | (simp; omega) | omega)).trans (by first | with_reducible assumption | (simp [go_sem]; done) | (simp [go_sem, *]; done))
      have g3_2_0 : w3.frozen? ⟨w2.heap.size, 0, none⟩ = false := (b3.frozen (p := ⟨w2.heap.size, 0, none⟩) (by first | (simp; done) | (simp; omega) | omega)).trans (by first | with_reducible assumption | (simp [go_sem]; done) | (simp [go_sem, *]; done))
      have k3_2_1 : w3.cell? ⟨w2.heap.size, 1, none⟩ = some (.int .i64 (MD)) := (b3.cell (p := ⟨w2.heap.size, 1, none⟩) (by first | (simp; done) | (simp; omega) | omega)).trans (by first | with_reducible assumption | (simp [go_sem]; done) | (simp [go_sem, *]; done))
      have g3_2_1 : w3.frozen? ⟨w2.heap.size, 1, none⟩ = false := (b3.frozen (p := ⟨w2.heap.size, 1, none⟩) (by first | (simp; done) | (simp; omega) | omega)).trans (by first | with_reducible assumption | (simp [go_sem]; done) | (simp [go_sem, *]; done))
      clear k2_0_0 g2_0_0 k2_0_1 g2_0_1 k2_1_0 g2_1_0 k2_1_1 g2_1_1
      go_wp2_with fail
      refine (K3.out _).mono ?_
      rintro e w4 ⟨rfl, b4⟩
      have s4 := b4.size
      try simp at s4
      have z4_0 : w1.heap.size < w4.heap.size := by omega
      have k4_0_0 : w4.cell? ⟨w1.heap.size, 0, none⟩ = some (.int .i64 (x1)) := (b4.cell (p := ⟨w1.heap.size, 0, none⟩) (by first | (simp; done) | (simp; omega) | omega)).trans (by first | with_reducible assumption | (simp [go_sem]; done) | (simp [go_sem, *]; done))
      have g4_0_0 : w4.frozen? ⟨w1.heap.size, 0, none⟩ = false := (b4.frozen (p := ⟨w1.heap.size, 0, none⟩) (by first | (simp; done) | (simp; omega) | omega)).trans (by first | with_reducible assumption | (simp [go_sem]; done) | (simp [go_sem, *]; done))
      have k4_0_1 : w4.cell? ⟨w1.heap.size, 1, none⟩ = some (.int .i64 (x2)) := (b4.cell (p := ⟨w1.heap.size, 1, none⟩) (by first | (simp; done) | (simp; omega) | omega)).trans (by first | with_reducible assumption | (simp [go_sem]; done) | (simp [go_sem, *]; done))
      have g4_0_1 : w4.frozen? ⟨w1.heap.size, 1, none⟩ = false := (b4.frozen (p := ⟨w1.heap.size, 1, none⟩) (by first | (simp; done) | (simp; omega) | omega)).trans (by first | with_reducible assumption | (simp [go_sem]; done) | (simp [go_sem, *]; done))
      have z4_1 : w1.heap.size + 1 < w4.heap.size := by omega
      have k4_1_0 : w4.cell? ⟨w1.heap.size + 1, 0, none⟩ = some (.int .i64 (y1)) := (b4.cell (p := ⟨w1.heap.size + 1, 0, none⟩) (by first | (simp; done) | (simp; omega) | omega)).trans (by first | with_reducible assumption | (simp [go_sem]; done) | (simp [go_sem, *]; done))
      have g4_1_0 : w4.frozen? ⟨w1.heap.size + 1, 0, none⟩ = false := (b4.frozen (p := ⟨w1.heap.size + 1, 0, none⟩) (by first | (simp; done) | (simp; omega) | omega)).trans (by first | with_reducible assumption | (simp [go_sem]; done) | (simp [go_sem, *]; done))
      have k4_1_1 : w4.cell? ⟨w1.heap.size + 1, 1, none⟩ = some (.int .i64 (y2)) := (b4.cell (p := ⟨w1.heap.size + 1, 1, none⟩) (by first | (simp; done) | (simp; omega) | omega)).trans (by first | with_reducible assumption | (simp [go_sem]; done) | (simp [go_sem, *]; done))
      have g4_1_1 : w4.frozen? ⟨w1.heap.size + 1, 1, none⟩ = false := (b4.frozen (p := ⟨w1.heap.size + 1, 1, none⟩) (by first | (simp; done) | (simp; omega) | omega)).trans (by first | with_reducible assumption | (simp [go_sem]; done) | (simp [go_sem, *]; done))
      have z4_2 : w2.heap.size < w4.heap.size := by omega
      have k4_2_0 : w4.cell? ⟨w2.heap.size, 0, none⟩ = some (.int .i64 (MN)) := (b4.cell (p := ⟨w2.heap.size, 0, none⟩) (by first | (simp; done) | (simp; omega) | omega)).trans (by first | with_reducible assumption | (simp [go_sem]; done) | (simp [go_sem, *]; done))
      have g4_2_0 : w4.frozen? ⟨w2.heap.size, 0, none⟩ = false := (b4.frozen (p := ⟨w2.heap.size, 0, none⟩) (by first | (simp; done) | (simp; omega) | omega)).trans (by first | with_reducible assumption | (simp [go_sem]; done) | (simp [go_sem, *]; done))
      have k4_2_1 : w4.cell? ⟨w2.heap.size, 1, none⟩ = some (.int .i64 (MD)) := (b4.cell (p := ⟨w2.heap.size, 1, none⟩) (by first | (simp; done) | (simp; omega) | omega)).trans (by first | with_reducible assumption | (simp [go_sem]; done) | (simp [go_sem, *]; done))
      have g4_2_1 : w4.frozen? ⟨w2.heap.size, 1, none⟩ = false := (b4.frozen (p := ⟨w2.heap.size, 1, none⟩) (by first | (simp; done) | (simp; omega) | omega)).trans (by first | with_reducible assumption | (simp [go_sem]; done) | (simp [go_sem, *]; done))
      have z4_3 : w3.heap.size < w4.heap.size := by omega
      have k4_3_0 : w4.cell? ⟨w3.heap.size, 0, none⟩ = some (.int .i64 (MN)) := (b4.cell (p := ⟨w3.heap.size, 0, none⟩) (by first | (simp; done) | (simp; omega) | omega)).trans (by first | with_reducible assumption | (simp [go_sem]; done) | (simp [go_sem, *]; done))
      have g4_3_0 : w4.frozen? ⟨w3.heap.size, 0, none⟩ = false := (b4.frozen (p := ⟨w3.heap.size, 0, none⟩) (by first | (simp; done) | (simp; omega) | omega)).trans (by first | with_reducible assumption | (simp [go_sem]; done) | (simp [go_sem, *]; done))
      have k4_3_1 : w4.cell? ⟨w3.heap.size, 1, none⟩ = some (.int .i64 (MD)) := (b4.cell (p := ⟨w3.heap.size, 1, none⟩) (by first | (simp; done) | (simp; omega) | omega)).trans (by first | with_reducible assumption | (simp [go_sem]; done) | (simp [go_sem, *]; done))
      have g4_3_1 : w4.frozen? ⟨w3.heap.size, 1, none⟩ = false := (b4.frozen (p := ⟨w3.heap.size, 1, none⟩) (by first | (simp; done) | (simp; omega) | omega)).trans (by first | with_reducible assumption | (simp [go_sem]; done) | (simp [go_sem, *]; done))
      clear k3_0_0 g3_0_0 k3_0_1 g3_0_1 k3_1_0 g3_1_0 k3_1_1 g3_1_1 k3_2_0 g3_2_0 k3_2_1 g3_2_1
      go_wp2_with fail
      refine (K4.out _).mono ?_
      rintro e w5 ⟨rfl, b5⟩
      have s5 := b5.size
      try simp at s5
      have z5_0 : w1.heap.size < w5.heap.size := by omega
      have k5_0_0 : w5.cell? ⟨w1.heap.size, 0, none⟩ = some (.int .i64 (x1)) := (b5.cell (p := ⟨w1.heap.size, 0, none⟩) (by first | (simp; done) | (simp; omega) | omega)).trans (by first | with_reducible assumption | (simp [go_sem]; done) | (simp [go_sem, *]; done))
      have g5_0_0 : w5.frozen? ⟨w1.heap.size, 0, none⟩ = false := (b5.frozen (p := ⟨w1.heap.size, 0, none⟩) (by first | (simp; done) | (simp; omega) | omega)).trans (by first | with_reducible assumption | (simp [go_sem]; done) | (simp [go_sem, *]; done))
      have k5_0_1 : w5.cell? ⟨w1.heap.size, 1, none⟩ = some (.int .i64 (x2)) := (b5.cell (p := ⟨w1.heap.size, 1, none⟩) (by first | (simp; done) | (simp; omega) | omega)).trans (by first | with_reducible assumption | (simp [go_sem]; done) | (simp [go_sem, *]; done))
      have g5_0_1 : w5.frozen? ⟨w1.heap.size, 1, none⟩ = false := (b5.frozen (p := ⟨w1.heap.size, 1, none⟩) (by first | (simp; done) | (simp; omega) | omega)).trans (by first | with_reducible assumption | (simp [go_sem]; done) | (simp [go_sem, *]; done))
      have z5_1 : w1.heap.size + 1 < w5.heap.size := by omega
      have k5_1_0 : w5.cell? ⟨w1.heap.size + 1, 0, none⟩ = some (.int .i64 (y1)) := (b5.cell (p := ⟨w1.heap.size + 1, 0, none⟩) (by first | (simp; done) | (simp; omega) | omega)).trans (by first | with_reducible assumption | (simp [go_sem]; done) | (simp [go_sem, *]; done))
      have g5_1_0 : w5.frozen? ⟨w1.heap.size + 1, 0, none⟩ = false := (b5.frozen (p := ⟨w1.heap.size + 1, 0, none⟩) (by first | (simp; done) | (simp; omega) | omega)).trans (by first | with_reducible assumption | (simp [go_sem]; done) | (simp [go_sem, *]; done))
      have k5_1_1 : w5.cell? ⟨w1.heap.size + 1, 1, none⟩ = some (.int .i64 (y2)) := (b5.cell (p := ⟨w1.heap.size + 1, 1, none⟩) (by first | (simp; done) | (simp; omega) | omega)).trans (by first | with_reducible assumption | (simp [go_sem]; done) | (simp [go_sem, *]; done))
      have g5_1_1 : w5.frozen? ⟨w1.heap.size + 1, 1, none⟩ = false := (b5.frozen (p := ⟨w1.heap.size + 1, 1, none⟩) (by first | (simp; done) | (simp; omega) | omega)).trans (by first | with_reducible assumption | (simp [go_sem]; done) | (simp [go_sem, *]; done))
      have z5_2 : w2.heap.size < w5.heap.size := by omega
      have k5_2_0 : w5.cell? ⟨w2.heap.size, 0, none⟩ = some (.int .i64 (MN)) := (b5.cell (p := ⟨w2.heap.size, 0, none⟩) (by first | (simp; done) | (simp; omega) | omega)).trans (by first | with_reducible assumption | (simp [go_sem]; done) | (simp [go_sem, *]; done))
      have g5_2_0 : w5.frozen? ⟨w2.heap.size, 0, none⟩ = false := (b5.frozen (p := ⟨w2.heap.size, 0, none⟩) (by first | (simp; done) | (simp; omega) | omega)).trans (by first | with_reducible assumption | (simp [go_sem]; done) | (simp [go_sem, *]; done))
      have k5_2_1 : w5.cell? ⟨w2.heap.size, 1, none⟩ = some (.int .i64 (MD)) := (b5.cell (p := ⟨w2.heap.size, 1, none⟩) (by first | (simp; done) | (simp; omega) | omega)).trans (by first | with_reducible assumption | (simp [go_sem]; done) | (simp [go_sem, *]; done))
      have g5_2_1 : w5.frozen? ⟨w2.heap.size, 1, none⟩ = false := (b5.frozen (p := ⟨w2.heap.size, 1, none⟩) (by first | (simp; done) | (simp; omega) | omega)).trans (by first | with_reducible assumption | (simp [go_sem]; done) | (simp [go_sem, *]; done))
      have z5_3 : w3.heap.size < w5.heap.size := by omega
      have k5_3_0 : w5.cell? ⟨w3.heap.size, 0, none⟩ = some (.int .i64 (MN)) := (b5.cell (p := ⟨w3.heap.size, 0, none⟩) (by first | (simp; done) | (simp; omega) | omega)).trans (by first | with_reducible assumption | (simp [go_sem]; done) | (simp [go_sem, *]; done))
      have g5_3_0 : w5.frozen? ⟨w3.heap.size, 0, none⟩ = false := (b5.frozen (p := ⟨w3.heap.size, 0, none⟩) (by first | (simp; done) | (simp; omega) | omega)).trans (by first | with_reducible assumption | (simp [go_sem]; done) | (simp [go_sem, *]; done))
      have k5_3_1 : w5.cell? ⟨w3.heap.size, 1, none⟩ = some (.int .i64 (MD)) := (b5.cell (p := ⟨w3.heap.size, 1, none⟩) (by first | (simp; done) | (simp; omega) | omega)).trans (by first | with_reducible assumption | (simp [go_sem]; done) | (simp [go_sem, *]; done))
      have g5_3_1 : w5.frozen? ⟨w3.heap.size, 1, none⟩ = false := (b5.frozen (p := ⟨w3.heap.size, 1, none⟩) (by first | (simp; done) | (simp; omega) | omega)).trans (by first | with_reducible assumption | (simp [go_sem]; done) | (simp [go_sem, *]; done))
      have z5_4 : w4.heap.size < w5.heap.size := by omega
      have k5_4_0 : w5.cell? ⟨w4.heap.size, 0, none⟩ = some (.int .i64 (MN)) := (b5.cell (p := ⟨w4.heap.size, 0, none⟩) (by first | (simp; done) | (simp; omega) | omega)).trans (by first | with_reducible assumption | (simp [go_sem]; done) | (simp [go_sem, *]; done))
      have g5_4_0 : w5.frozen? ⟨w4.heap.size, 0, none⟩ = false := (b5.frozen (p := ⟨w4.heap.size, 0, none⟩) (by first | (simp; done) | (simp; omega) | omega)).trans (by first | with_reducible assumption | (simp [go_sem]; done) | (simp [go_sem, *]; done))
      have k5_4_1 : w5.cell? ⟨w4.heap.size, 1, none⟩ = some (.int .i64 (MD)) := (b5.cell (p := ⟨w4.heap.size, 1, none⟩) (by first | (simp; done) | (simp; omega) | omega)).trans (by first | with_reducible assumption | (simp [go_sem]; done) | (simp [go_sem, *]; done))
      have g5_4_1 : w5.frozen? ⟨w4.heap.size, 1, none⟩ = false := (b5.frozen (p := ⟨w4.heap.size, 1, none⟩) (by first | (simp; done) | (simp; omega) | omega)).trans (by first | with_reducible assumption | (simp [go_sem]; done) | (simp [go_sem, *]; done))
      clear k4_0_0 g4_0_0 k4_0_1 g4_0_1 k4_1_0 g4_1_0 k4_1_1 g4_1_1 k4_2_0 g4_2_0 k4_2_1 g4_2_1 k4_3_0 g4_3_0 k4_3_1 g4_3_1
      rcases Int.lt_trichotomy x1 0 with hx | hx | hx
      · rcases Int.lt_trichotomy y1 0 with hy | hy | hy
        ·
          have hz := HZ.out
          have hp := HP.out
          clear HZ HP
          have hM : 0 < MN := by omega
          clear hz hp
          have i_x1 : (x1 == 0) = false := by simp; omega
          have p_x1 : decide (0 < x1) = false := by simp; omega
          have q_x1 : decide (x1 < 0) = true := by simp; omega
          have r_x1 : ¬ 0 < x1 := by omega
          have t_x1 : x1 < 0 := by omega
          have i_y1 : (y1 == 0) = false := by simp; omega
          have p_y1 : decide (0 < y1) = false := by simp; omega
          have q_y1 : decide (y1 < 0) = true := by simp; omega
          have r_y1 : ¬ 0 < y1 := by omega
          have t_y1 : y1 < 0 := by omega
          have i_MN : (MN == 0) = false := by simp; omega
          have p_MN : decide (0 < MN) = true := by simp; omega
          have q_MN : decide (MN < 0) = false := by simp; omega
          have r_MN : 0 < MN := by omega
          have t_MN : ¬ MN < 0 := by omega
          clear hx hy hM
          go_wp2_with fail
          refine (K5.out _).mono ?_
          rintro e w6 ⟨rfl, b6⟩
          have s6 := b6.size
          try simp at s6
          have z6_0 : w1.heap.size < w6.heap.size := by omega
          have k6_0_0 : w6.cell? ⟨w1.heap.size, 0, none⟩ = some (.int .i64 (x1)) := (b6.cell (p := ⟨w1.heap.size, 0, none⟩) (by first | (simp; done) | (simp; omega) | omega)).trans (by first | with_reducible assumption | (simp [go_sem]; done) | (simp [go_sem, *]; done))
          have g6_0_0 : w6.frozen? ⟨w1.heap.size, 0, none⟩ = false := (b6.frozen (p := ⟨w1.heap.size, 0, none⟩) (by first | (simp; done) | (simp; omega) | omega)).trans (by first | with_reducible assumption | (simp [go_sem]; done) | (simp [go_sem, *]; done))
          have k6_0_1 : w6.cell? ⟨w1.heap.size, 1, none⟩ = some (.int .i64 (x2)) := (b6.cell (p := ⟨w1.heap.size, 1, none⟩) (by first | (simp; done) | (simp; omega) | omega)).trans (by first | with_reducible assumption | (simp [go_sem]; done) | (simp [go_sem, *]; done))
          have g6_0_1 : w6.frozen? ⟨w1.heap.size, 1, none⟩ = false := (b6.frozen (p := ⟨w1.heap.size, 1, none⟩) (by first | (simp; done) | (simp; omega) | omega)).trans (by first | with_reducible assumption | (simp [go_sem]; done) | (simp [go_sem, *]; done))
          have z6_1 : w1.heap.size + 1 < w6.heap.size := by omega
          have k6_1_0 : w6.cell? ⟨w1.heap.size + 1, 0, none⟩ = some (.int .i64 (y1)) := (b6.cell (p := ⟨w1.heap.size + 1, 0, none⟩) (by first | (simp; done) | (simp; omega) | omega)).trans (by first | with_reducible assumption | (simp [go_sem]; done) | (simp [go_sem, *]; done))
          have g6_1_0 : w6.frozen? ⟨w1.heap.size + 1, 0, none⟩ = false := (b6.frozen (p := ⟨w1.heap.size + 1, 0, none⟩) (by first | (simp; done) | (simp; omega) | omega)).trans (by first | with_reducible assumption | (simp [go_sem]; done) | (simp [go_sem, *]; done))
          have k6_1_1 : w6.cell? ⟨w1.heap.size + 1, 1, none⟩ = some (.int .i64 (y2)) := (b6.cell (p := ⟨w1.heap.size + 1, 1, none⟩) (by first | (simp; done) | (simp; omega) | omega)).trans (by first | with_reducible assumption | (simp [go_sem]; done) | (simp [go_sem, *]; done))
          have g6_1_1 : w6.frozen? ⟨w1.heap.size + 1, 1, none⟩ = false := (b6.frozen (p := ⟨w1.heap.size + 1, 1, none⟩) (by first | (simp; done) | (simp; omega) | omega)).trans (by first | with_reducible assumption | (simp [go_sem]; done) | (simp [go_sem, *]; done))
          have z6_2 : w2.heap.size < w6.heap.size := by omega
          have k6_2_0 : w6.cell? ⟨w2.heap.size, 0, none⟩ = some (.int .i64 (MN)) := (b6.cell (p := ⟨w2.heap.size, 0, none⟩) (by first | (simp; done) | (simp; omega) | omega)).trans (by first | with_reducible assumption | (simp [go_sem]; done) | (simp [go_sem, *]; done))
          have g6_2_0 : w6.frozen? ⟨w2.heap.size, 0, none⟩ = false := (b6.frozen (p := ⟨w2.heap.size, 0, none⟩) (by first | (simp; done) | (simp; omega) | omega)).trans (by first | with_reducible assumption | (simp [go_sem]; done) | (simp [go_sem, *]; done))
          have k6_2_1 : w6.cell? ⟨w2.heap.size, 1, none⟩ = some (.int .i64 (MD)) := (b6.cell (p := ⟨w2.heap.size, 1, none⟩) (by first | (simp; done) | (simp; omega) | omega)).trans (by first | with_reducible assumption | (simp [go_sem]; done) | (simp [go_sem, *]; done))
          have g6_2_1 : w6.frozen? ⟨w2.heap.size, 1, none⟩ = false := (b6.frozen (p := ⟨w2.heap.size, 1, none⟩) (by first | (simp; done) | (simp; omega) | omega)).trans (by first | with_reducible assumption | (simp [go_sem]; done) | (simp [go_sem, *]; done))
          have z6_3 : w3.heap.size < w6.heap.size := by omega
          have k6_3_0 : w6.cell? ⟨w3.heap.size, 0, none⟩ = some (.int .i64 (MN)) := (b6.cell (p := ⟨w3.heap.size, 0, none⟩) (by first | (simp; done) | (simp; omega) | omega)).trans (by first | with_reducible assumption | (simp [go_sem]; done) | (simp [go_sem, *]; done))
          have g6_3_0 : w6.frozen? ⟨w3.heap.size, 0, none⟩ = false := (b6.frozen (p := ⟨w3.heap.size, 0, none⟩) (by first | (simp; done) | (simp; omega) | omega)).trans (by first | with_reducible assumption | (simp [go_sem]; done) | (simp [go_sem, *]; done))
          have k6_3_1 : w6.cell? ⟨w3.heap.size, 1, none⟩ = some (.int .i64 (MD)) := (b6.cell (p := ⟨w3.heap.size, 1, none⟩) (by first | (simp; done) | (simp; omega) | omega)).trans (by first | with_reducible assumption | (simp [go_sem]; done) | (simp [go_sem, *]; done))
          have g6_3_1 : w6.frozen? ⟨w3.heap.size, 1, none⟩ = false := (b6.frozen (p := ⟨w3.heap.size, 1, none⟩) (by first | (simp; done) | (simp; omega) | omega)).trans (by first | with_reducible assumption | (simp [go_sem]; done) | (simp [go_sem, *]; done))
          have z6_4 : w4.heap.size < w6.heap.size := by omega
          have k6_4_0 : w6.cell? ⟨w4.heap.size, 0, none⟩ = some (.int .i64 (MN)) := (b6.cell (p := ⟨w4.heap.size, 0, none⟩) (by first | (simp; done) | (simp; omega) | omega)).trans (by first | with_reducible assumption | (simp [go_sem]; done) | (simp [go_sem, *]; done))
          have g6_4_0 : w6.frozen? ⟨w4.heap.size, 0, none⟩ = false := (b6.frozen (p := ⟨w4.heap.size, 0, none⟩) (by first | (simp; done) | (simp; omega) | omega)).trans (by first | with_reducible assumption | (simp [go_sem]; done) | (simp [go_sem, *]; done))
          have k6_4_1 : w6.cell? ⟨w4.heap.size, 1, none⟩ = some (.int .i64 (MD)) := (b6.cell (p := ⟨w4.heap.size, 1, none⟩) (by first | (simp; done) | (simp; omega) | omega)).trans (by first | with_reducible assumption | (simp [go_sem]; done) | (simp [go_sem, *]; done))
          have g6_4_1 : w6.frozen? ⟨w4.heap.size, 1, none⟩ = false := (b6.frozen (p := ⟨w4.heap.size, 1, none⟩) (by first | (simp; done) | (simp; omega) | omega)).trans (by first | with_reducible assumption | (simp [go_sem]; done) | (simp [go_sem, *]; done))
          have z6_5 : w5.heap.size < w6.heap.size := by omega
          have k6_5_0 : w6.cell? ⟨w5.heap.size, 0, none⟩ = some (.int .i64 (x1)) := (b6.cell (p := ⟨w5.heap.size, 0, none⟩) (by first | (simp; done) | (simp; omega) | omega)).trans (by first | with_reducible assumption | (simp [go_sem]; done) | (simp [go_sem, *]; done))
          have g6_5_0 : w6.frozen? ⟨w5.heap.size, 0, none⟩ = false := (b6.frozen (p := ⟨w5.heap.size, 0, none⟩) (by first | (simp; done) | (simp; omega) | omega)).trans (by first | with_reducible assumption | (simp [go_sem]; done) | (simp [go_sem, *]; done))
          have k6_5_1 : w6.cell? ⟨w5.heap.size, 1, none⟩ = some (.int .i64 (x2)) := (b6.cell (p := ⟨w5.heap.size, 1, none⟩) (by first | (simp; done) | (simp; omega) | omega)).trans (by first | with_reducible assumption | (simp [go_sem]; done) | (simp [go_sem, *]; done))
          have g6_5_1 : w6.frozen? ⟨w5.heap.size, 1, none⟩ = false := (b6.frozen (p := ⟨w5.heap.size, 1, none⟩) (by first | (simp; done) | (simp; omega) | omega)).trans (by first | with_reducible assumption | (simp [go_sem]; done) | (simp [go_sem, *]; done))
          clear k5_0_0 g5_0_0 k5_0_1 g5_0_1 k5_1_0 g5_1_0 k5_1_1 g5_1_1 k5_2_0 g5_2_0 k5_2_1 g5_2_1 k5_3_0 g5_3_0 k5_3_1 g5_3_1 k5_4_0 g5_4_0 k5_4_1 g5_4_1
          go_wp2
          all_goals first | (exfalso; omega) | (go_ret; exact ⟨rfl, (by (repeat (first | with_reducible exact Below.refl _ _ | with_reducible refine bl_alloc ?_ _ | with_reducible refine bl_drew ?_ | with_reducible refine bl_set ?_ (by first | (simp; done) | (simp; omega)) _ | with_reducible refine bl_call (by assumption) ?_)))⟩)
        ·
          have hz := HZ.out
          have hp := HP.out
          clear HZ HP
          have hM : MN = 0 := by omega
          clear hz hp
          have i_x1 : (x1 == 0) = false := by simp; omega
          have p_x1 : decide (0 < x1) = false := by simp; omega
          have q_x1 : decide (x1 < 0) = true := by simp; omega
          have r_x1 : ¬ 0 < x1 := by omega
          have t_x1 : x1 < 0 := by omega
          have i_y1 : (y1 == 0) = true := by simp [hy]
          have p_y1 : decide (0 < y1) = false := by simp; omega
          have q_y1 : decide (y1 < 0) = false := by simp; omega
          have r_y1 : ¬ 0 < y1 := by omega
          have t_y1 : ¬ y1 < 0 := by omega
          have i_MN : (MN == 0) = true := by simp [hM]
          have p_MN : decide (0 < MN) = false := by simp; omega
          have q_MN : decide (MN < 0) = false := by simp; omega
          have r_MN : ¬ 0 < MN := by omega
          have t_MN : ¬ MN < 0 := by omega
          clear hx hy hM
          go_wp2_with fail
          refine (K5.out _).mono ?_
          rintro e w6 ⟨rfl, b6⟩
          have s6 := b6.size
          try simp at s6
          have z6_0 : w1.heap.size < w6.heap.size := by omega
          have k6_0_0 : w6.cell? ⟨w1.heap.size, 0, none⟩ = some (.int .i64 (x1)) := (b6.cell (p := ⟨w1.heap.size, 0, none⟩) (by first | (simp; done) | (simp; omega) | omega)).trans (by first | with_reducible assumption | (simp [go_sem]; done) | (simp [go_sem, *]; done))
          have g6_0_0 : w6.frozen? ⟨w1.heap.size, 0, none⟩ = false := (b6.frozen (p := ⟨w1.heap.size, 0, none⟩) (by first | (simp; done) | (simp; omega) | omega)).trans (by first | with_reducible assumption | (simp [go_sem]; done) | (simp [go_sem, *]; done))
          have k6_0_1 : w6.cell? ⟨w1.heap.size, 1, none⟩ = some (.int .i64 (x2)) := (b6.cell (p := ⟨w1.heap.size, 1, none⟩) (by first | (simp; done) | (simp; omega) | omega)).trans (by first | with_reducible assumption | (simp [go_sem]; done) | (simp [go_sem, *]; done))
          have g6_0_1 : w6.frozen? ⟨w1.heap.size, 1, none⟩ = false := (b6.frozen (p := ⟨w1.heap.size, 1, none⟩) (by first | (simp; done) | (simp; omega) | omega)).trans (by first | with_reducible assumption | (simp [go_sem]; done) | (simp [go_sem, *]; done))
          have z6_1 : w1.heap.size + 1 < w6.heap.size := by omega
          have k6_1_0 : w6.cell? ⟨w1.heap.size + 1, 0, none⟩ = some (.int .i64 (y1)) := (b6.cell (p := ⟨w1.heap.size + 1, 0, none⟩) (by first | (simp; done) | (simp; omega) | omega)).trans (by first | with_reducible assumption | (simp [go_sem]; done) | (simp [go_sem, *]; done))
          have g6_1_0 : w6.frozen? ⟨w1.heap.size + 1, 0, none⟩ = false := (b6.frozen (p := ⟨w1.heap.size + 1, 0, none⟩) (by first | (simp; done) | (simp; omega) | omega)).trans (by first | with_reducible assumption | (simp [go_sem]; done) | (simp [go_sem, *]; done))
          have k6_1_1 : w6.cell? ⟨w1.heap.size + 1, 1, none⟩ = some (.int .i64 (y2)) := (b6.cell (p := ⟨w1.heap.size + 1, 1, none⟩) (by first | (simp; done) | (simp; omega) | omega)).trans (by first | with_reducible assumption | (simp [go_sem]; done) | (simp [go_sem, *]; done))
          have g6_1_1 : w6.frozen? ⟨w1.heap.size + 1, 1, none⟩ = false := (b6.frozen (p := ⟨w1.heap.size + 1, 1, none⟩) (by first | (simp; done) | (simp; omega) | omega)).trans (by first | with_reducible assumption | (simp [go_sem]; done) | (simp [go_sem, *]; done))
          have z6_2 : w2.heap.size < w6.heap.size := by omega
          have k6_2_0 : w6.cell? ⟨w2.heap.size, 0, none⟩ = some (.int .i64 (MN)) := (b6.cell (p := ⟨w2.heap.size, 0, none⟩) (by first | (simp; done) | (simp; omega) | omega)).trans (by first | with_reducible assumption | (simp [go_sem]; done) | (simp [go_sem, *]; done))
          have g6_2_0 : w6.frozen? ⟨w2.heap.size, 0, none⟩ = false := (b6.frozen (p := ⟨w2.heap.size, 0, none⟩) (by first | (simp; done) | (simp; omega) | omega)).trans (by first | with_reducible assumption | (simp [go_sem]; done) | (simp [go_sem, *]; done))
          have k6_2_1 : w6.cell? ⟨w2.heap.size, 1, none⟩ = some (.int .i64 (MD)) := (b6.cell (p := ⟨w2.heap.size, 1, none⟩) (by first | (simp; done) | (simp; omega) | omega)).trans (by first | with_reducible assumption | (simp [go_sem]; done) | (simp [go_sem, *]; done))
          have g6_2_1 : w6.frozen? ⟨w2.heap.size, 1, none⟩ = false := (b6.frozen (p := ⟨w2.heap.size, 1, none⟩) (by first | (simp; done) | (simp; omega) | omega)).trans (by first | with_reducible assumption | (simp [go_sem]; done) | (simp [go_sem, *]; done))
          have z6_3 : w3.heap.size < w6.heap.size := by omega
          have k6_3_0 : w6.cell? ⟨w3.heap.size, 0, none⟩ = some (.int .i64 (MN)) := (b6.cell (p := ⟨w3.heap.size, 0, none⟩) (by first | (simp; done) | (simp; omega) | omega)).trans (by first | with_reducible assumption | (simp [go_sem]; done) | (simp [go_sem, *]; done))
          have g6_3_0 : w6.frozen? ⟨w3.heap.size, 0, none⟩ = false := (b6.frozen (p := ⟨w3.heap.size, 0, none⟩) (by first | (simp; done) | (simp; omega) | omega)).trans (by first | with_reducible assumption | (simp [go_sem]; done) | (simp [go_sem, *]; done))
          have k6_3_1 : w6.cell? ⟨w3.heap.size, 1, none⟩ = some (.int .i64 (MD)) := (b6.cell (p := ⟨w3.heap.size, 1, none⟩) (by first | (simp; done) | (simp; omega) | omega)).trans (by first | with_reducible assumption | (simp [go_sem]; done) | (simp [go_sem, *]; done))
          have g6_3_1 : w6.frozen? ⟨w3.heap.size, 1, none⟩ = false := (b6.frozen (p := ⟨w3.heap.size, 1, none⟩) (by first | (simp; done) | (simp; omega) | omega)).trans (by first | with_reducible assumption | (simp [go_sem]; done) | (simp [go_sem, *]; done))
          have z6_4 : w4.heap.size < w6.heap.size := by omega
          have k6_4_0 : w6.cell? ⟨w4.heap.size, 0, none⟩ = some (.int .i64 (MN)) := (b6.cell (p := ⟨w4.heap.size, 0, none⟩) (by first | (simp; done) | (simp; omega) | omega)).trans (by first | with_reducible assumption | (simp [go_sem]; done) | (simp [go_sem, *]; done))
          have g6_4_0 : w6.frozen? ⟨w4.heap.size, 0, none⟩ = false := (b6.frozen (p := ⟨w4.heap.size, 0, none⟩) (by first | (simp; done) | (simp; omega) | omega)).trans (by first | with_reducible assumption | (simp [go_sem]; done) | (simp [go_sem, *]; done))
          have k6_4_1 : w6.cell? ⟨w4.heap.size, 1, none⟩ = some (.int .i64 (MD)) := (b6.cell (p := ⟨w4.heap.size, 1, none⟩) (by first | (simp; done) | (simp; omega) | omega)).trans (by first | with_reducible assumption | (simp [go_sem]; done) | (simp [go_sem, *]; done))
          have g6_4_1 : w6.frozen? ⟨w4.heap.size, 1, none⟩ = false := (b6.frozen (p := ⟨w4.heap.size, 1, none⟩) (by first | (simp; done) | (simp; omega) | omega)).trans (by first | with_reducible assumption | (simp [go_sem]; done) | (simp [go_sem, *]; done))
          have z6_5 : w5.heap.size < w6.heap.size := by omega
          have k6_5_0 : w6.cell? ⟨w5.heap.size, 0, none⟩ = some (.int .i64 (x1)) := (b6.cell (p := ⟨w5.heap.size, 0, none⟩) (by first | (simp; done) | (simp; omega) | omega)).trans (by first | with_reducible assumption | (simp [go_sem]; done) | (simp [go_sem, *]; done))
          have g6_5_0 : w6.frozen? ⟨w5.heap.size, 0, none⟩ = false := (b6.frozen (p := ⟨w5.heap.size, 0, none⟩) (by first | (simp; done) | (simp; omega) | omega)).trans (by first | with_reducible assumption | (simp [go_sem]; done) | (simp [go_sem, *]; done))
          have k6_5_1 : w6.cell? ⟨w5.heap.size, 1, none⟩ = some (.int .i64 (x2)) := (b6.cell (p := ⟨w5.heap.size, 1, none⟩) (by first | (simp; done) | (simp; omega) | omega)).trans (by first | with_reducible assumption | (simp [go_sem]; done) | (simp [go_sem, *]; done))
          have g6_5_1 : w6.frozen? ⟨w5.heap.size, 1, none⟩ = false := (b6.frozen (p := ⟨w5.heap.size, 1, none⟩) (by first | (simp; done) | (simp; omega) | omega)).trans (by first | with_reducible assumption | (simp [go_sem]; done) | (simp [go_sem, *]; done))
          clear k5_0_0 g5_0_0 k5_0_1 g5_0_1 k5_1_0 g5_1_0 k5_1_1 g5_1_1 k5_2_0 g5_2_0 k5_2_1 g5_2_1 k5_3_0 g5_3_0 k5_3_1 g5_3_1 k5_4_0 g5_4_0 k5_4_1 g5_4_1
          go_wp2
          all_goals first | (exfalso; omega) | (go_ret; exact ⟨rfl, (by (repeat (first | with_reducible exact Below.refl _ _ | with_reducible refine bl_alloc ?_ _ | with_reducible refine bl_drew ?_ | with_reducible refine bl_set ?_ (by first | (simp; done) | (simp; omega)) _ | with_reducible refine bl_call (by assumption) ?_)))⟩)
        ·
          have hz := HZ.out
          have hp := HP.out
          clear HZ HP
          have hM : MN < 0 := by omega
          clear hz hp
          have i_x1 : (x1 == 0) = false := by simp; omega
          have p_x1 : decide (0 < x1) = false := by simp; omega
          have q_x1 : decide (x1 < 0) = true := by simp; omega
          have r_x1 : ¬ 0 < x1 := by omega
          have t_x1 : x1 < 0 := by omega
          have i_y1 : (y1 == 0) = false := by simp; omega
          have p_y1 : decide (0 < y1) = true := by simp; omega
          have q_y1 : decide (y1 < 0) = false := by simp; omega
          have r_y1 : 0 < y1 := by omega
          have t_y1 : ¬ y1 < 0 := by omega
          have i_MN : (MN == 0) = false := by simp; omega
          have p_MN : decide (0 < MN) = false := by simp; omega
          have q_MN : decide (MN < 0) = true := by simp; omega
          have r_MN : ¬ 0 < MN := by omega
          have t_MN : MN < 0 := by omega
          clear hx hy hM
          go_wp2_with fail
          refine (K5.out _).mono ?_
          rintro e w6 ⟨rfl, b6⟩
          have s6 := b6.size
          try simp at s6
          have z6_0 : w1.heap.size < w6.heap.size := by omega
          have k6_0_0 : w6.cell? ⟨w1.heap.size, 0, none⟩ = some (.int .i64 (x1)) := (b6.cell (p := ⟨w1.heap.size, 0, none⟩) (by first | (simp; done) | (simp; omega) | omega)).trans (by first | with_reducible assumption | (simp [go_sem]; done) | (simp [go_sem, *]; done))
          have g6_0_0 : w6.frozen? ⟨w1.heap.size, 0, none⟩ = false := (b6.frozen (p := ⟨w1.heap.size, 0, none⟩) (by first | (simp; done) | (simp; omega) | omega)).trans (by first | with_reducible assumption | (simp [go_sem]; done) | (simp [go_sem, *]; done))
          have k6_0_1 : w6.cell? ⟨w1.heap.size, 1, none⟩ = some (.int .i64 (x2)) := (b6.cell (p := ⟨w1.heap.size, 1, none⟩) (by first | (simp; done) | (simp; omega) | omega)).trans (by first | with_reducible assumption | (simp [go_sem]; done) | (simp [go_sem, *]; done))
          have g6_0_1 : w6.frozen? ⟨w1.heap.size, 1, none⟩ = false := (b6.frozen (p := ⟨w1.heap.size, 1, none⟩) (by first | (simp; done) | (simp; omega) | omega)).trans (by first | with_reducible assumption | (simp [go_sem]; done) | (simp [go_sem, *]; done))
          have z6_1 : w1.heap.size + 1 < w6.heap.size := by omega
          have k6_1_0 : w6.cell? ⟨w1.heap.size + 1, 0, none⟩ = some (.int .i64 (y1)) := (b6.cell (p := ⟨w1.heap.size + 1, 0, none⟩) (by first | (simp; done) | (simp; omega) | omega)).trans (by first | with_reducible assumption | (simp [go_sem]; done) | (simp [go_sem, *]; done))
          have g6_1_0 : w6.frozen? ⟨w1.heap.size + 1, 0, none⟩ = false := (b6.frozen (p := ⟨w1.heap.size + 1, 0, none⟩) (by first | (simp; done) | (simp; omega) | omega)).trans (by first | with_reducible assumption | (simp [go_sem]; done) | (simp [go_sem, *]; done))
          have k6_1_1 : w6.cell? ⟨w1.heap.size + 1, 1, none⟩ = some (.int .i64 (y2)) := (b6.cell (p := ⟨w1.heap.size + 1, 1, none⟩) (by first | (simp; done) | (simp; omega) | omega)).trans (by first | with_reducible assumption | (simp [go_sem]; done) | (simp [go_sem, *]; done))
          have g6_1_1 : w6.frozen? ⟨w1.heap.size + 1, 1, none⟩ = false := (b6.frozen (p := ⟨w1.heap.size + 1, 1, none⟩) (by first | (simp; done) | (simp; omega) | omega)).trans (by first | with_reducible assumption | (simp [go_sem]; done) | (simp [go_sem, *]; done))
          have z6_2 : w2.heap.size < w6.heap.size := by omega
          have k6_2_0 : w6.cell? ⟨w2.heap.size, 0, none⟩ = some (.int .i64 (MN)) := (b6.cell (p := ⟨w2.heap.size, 0, none⟩) (by first | (simp; done) | (simp; omega) | omega)).trans (by first | with_reducible assumption | (simp [go_sem]; done) | (simp [go_sem, *]; done))
          have g6_2_0 : w6.frozen? ⟨w2.heap.size, 0, none⟩ = false := (b6.frozen (p := ⟨w2.heap.size, 0, none⟩) (by first | (simp; done) | (simp; omega) | omega)).trans (by first | with_reducible assumption | (simp [go_sem]; done) | (simp [go_sem, *]; done))
          have k6_2_1 : w6.cell? ⟨w2.heap.size, 1, none⟩ = some (.int .i64 (MD)) := (b6.cell (p := ⟨w2.heap.size, 1, none⟩) (by first | (simp; done) | (simp; omega) | omega)).trans (by first | with_reducible assumption | (simp [go_sem]; done) | (simp [go_sem, *]; done))
          have g6_2_1 : w6.frozen? ⟨w2.heap.size, 1, none⟩ = false := (b6.frozen (p := ⟨w2.heap.size, 1, none⟩) (by first | (simp; done) | (simp; omega) | omega)).trans (by first | with_reducible assumption | (simp [go_sem]; done) | (simp [go_sem, *]; done))
          have z6_3 : w3.heap.size < w6.heap.size := by omega
          have k6_3_0 : w6.cell? ⟨w3.heap.size, 0, none⟩ = some (.int .i64 (MN)) := (b6.cell (p := ⟨w3.heap.size, 0, none⟩) (by first | (simp; done) | (simp; omega) | omega)).trans (by first | with_reducible assumption | (simp [go_sem]; done) | (simp [go_sem, *]; done))
          have g6_3_0 : w6.frozen? ⟨w3.heap.size, 0, none⟩ = false := (b6.frozen (p := ⟨w3.heap.size, 0, none⟩) (by first | (simp; done) | (simp; omega) | omega)).trans (by first | with_reducible assumption | (simp [go_sem]; done) | (simp [go_sem, *]; done))
          have k6_3_1 : w6.cell? ⟨w3.heap.size, 1, none⟩ = some (.int .i64 (MD)) := (b6.cell (p := ⟨w3.heap.size, 1, none⟩) (by first | (simp; done) | (simp; omega) | omega)).trans (by first | with_reducible assumption | (simp [go_sem]; done) | (simp [go_sem, *]; done))
          have g6_3_1 : w6.frozen? ⟨w3.heap.size, 1, none⟩ = false := (b6.frozen (p := ⟨w3.heap.size, 1, none⟩) (by first | (simp; done) | (simp; omega) | omega)).trans (by first | with_reducible assumption | (simp [go_sem]; done) | (simp [go_sem, *]; done))
          have z6_4 : w4.heap.size < w6.heap.size := by omega
          have k6_4_0 : w6.cell? ⟨w4.heap.size, 0, none⟩ = some (.int .i64 (MN)) := (b6.cell (p := ⟨w4.heap.size, 0, none⟩) (by first | (simp; done) | (simp; omega) | omega)).trans (by first | with_reducible assumption | (simp [go_sem]; done) | (simp [go_sem, *]; done))
          have g6_4_0 : w6.frozen? ⟨w4.heap.size, 0, none⟩ = false := (b6.frozen (p := ⟨w4.heap.size, 0, none⟩) (by first | (simp; done) | (simp; omega) | omega)).trans (by first | with_reducible assumption | (simp [go_sem]; done) | (simp [go_sem, *]; done))
          have k6_4_1 : w6.cell? ⟨w4.heap.size, 1, none⟩ = some (.int .i64 (MD)) := (b6.cell (p := ⟨w4.heap.size, 1, none⟩) (by first | (simp; done) | (simp; omega) | omega)).trans (by first | with_reducible assumption | (simp [go_sem]; done) | (simp [go_sem, *]; done))
          have g6_4_1 : w6.frozen? ⟨w4.heap.size, 1, none⟩ = false := (b6.frozen (p := ⟨w4.heap.size, 1, none⟩) (by first | (simp; done) | (simp; omega) | omega)).trans (by first | with_reducible assumption | (simp [go_sem]; done) | (simp [go_sem, *]; done))
          have z6_5 : w5.heap.size < w6.heap.size := by omega
          have k6_5_0 : w6.cell? ⟨w5.heap.size, 0, none⟩ = some (.int .i64 (x1)) := (b6.cell (p := ⟨w5.heap.size, 0, none⟩) (by first | (simp; done) | (simp; omega) | omega)).trans (by first | with_reducible assumption | (simp [go_sem]; done) | (simp [go_sem, *]; done))
          have g6_5_0 : w6.frozen? ⟨w5.heap.size, 0, none⟩ = false := (b6.frozen (p := ⟨w5.heap.size, 0, none⟩) (by first | (simp; done) | (simp; omega) | omega)).trans (by first | with_reducible assumption | (simp [go_sem]; done) | (simp [go_sem, *]; done))
          have k6_5_1 : w6.cell? ⟨w5.heap.size, 1, none⟩ = some (.int .i64 (x2)) := (b6.cell (p := ⟨w5.heap.size, 1, none⟩) (by first | (simp; done) | (simp; omega) | omega)).trans (by first | with_reducible assumption | (simp [go_sem]; done) | (simp [go_sem, *]; done))
          have g6_5_1 : w6.frozen? ⟨w5.heap.size, 1, none⟩ = false := (b6.frozen (p := ⟨w5.heap.size, 1, none⟩) (by first | (simp; done) | (simp; omega) | omega)).trans (by first | with_reducible assumption | (simp [go_sem]; done) | (simp [go_sem, *]; done))
          clear k5_0_0 g5_0_0 k5_0_1 g5_0_1 k5_1_0 g5_1_0 k5_1_1 g5_1_1 k5_2_0 g5_2_0 k5_2_1 g5_2_1 k5_3_0 g5_3_0 k5_3_1 g5_3_1 k5_4_0 g5_4_0 k5_4_1 g5_4_1
          go_wp2
          all_goals first | (exfalso; omega) | (go_ret; exact ⟨rfl, (by (repeat (first | with_reducible exact Below.refl _ _ | with_reducible refine bl_alloc ?_ _ | with_reducible refine bl_drew ?_ | with_reducible refine bl_set ?_ (by first | (simp; done) | (simp; omega)) _ | with_reducible refine bl_call (by assumption) ?_)))⟩)
      · rcases Int.lt_trichotomy y1 0 with hy | hy | hy
        ·
          have hz := HZ.out
          have hp := HP.out
          clear HZ HP
          have hM : MN = 0 := by omega
          clear hz hp
          have i_x1 : (x1 == 0) = true := by simp [hx]
          have p_x1 : decide (0 < x1) = false := by simp; omega
          have q_x1 : decide (x1 < 0) = false := by simp; omega
          have r_x1 : ¬ 0 < x1 := by omega
          have t_x1 : ¬ x1 < 0 := by omega
          have i_y1 : (y1 == 0) = false := by simp; omega
          have p_y1 : decide (0 < y1) = false := by simp; omega
          have q_y1 : decide (y1 < 0) = true := by simp; omega
          have r_y1 : ¬ 0 < y1 := by omega
          have t_y1 : y1 < 0 := by omega
          have i_MN : (MN == 0) = true := by simp [hM]
          have p_MN : decide (0 < MN) = false := by simp; omega
          have q_MN : decide (MN < 0) = false := by simp; omega
          have r_MN : ¬ 0 < MN := by omega
          have t_MN : ¬ MN < 0 := by omega
          clear hx hy hM
          go_wp2_with fail
          refine (K5.out _).mono ?_
          rintro e w6 ⟨rfl, b6⟩
          have s6 := b6.size
          try simp at s6
          have z6_0 : w1.heap.size < w6.heap.size := by omega
          have k6_0_0 : w6.cell? ⟨w1.heap.size, 0, none⟩ = some (.int .i64 (x1)) := (b6.cell (p := ⟨w1.heap.size, 0, none⟩) (by first | (simp; done) | (simp; omega) | omega)).trans (by first | with_reducible assumption | (simp [go_sem]; done) | (simp [go_sem, *]; done))
          have g6_0_0 : w6.frozen? ⟨w1.heap.size, 0, none⟩ = false := (b6.frozen (p := ⟨w1.heap.size, 0, none⟩) (by first | (simp; done) | (simp; omega) | omega)).trans (by first | with_reducible assumption | (simp [go_sem]; done) | (simp [go_sem, *]; done))
          have k6_0_1 : w6.cell? ⟨w1.heap.size, 1, none⟩ = some (.int .i64 (x2)) := (b6.cell (p := ⟨w1.heap.size, 1, none⟩) (by first | (simp; done) | (simp; omega) | omega)).trans (by first | with_reducible assumption | (simp [go_sem]; done) | (simp [go_sem, *]; done))
          have g6_0_1 : w6.frozen? ⟨w1.heap.size, 1, none⟩ = false := (b6.frozen (p := ⟨w1.heap.size, 1, none⟩) (by first | (simp; done) | (simp; omega) | omega)).trans (by first | with_reducible assumption | (simp [go_sem]; done) | (simp [go_sem, *]; done))
          have z6_1 : w1.heap.size + 1 < w6.heap.size := by omega
          have k6_1_0 : w6.cell? ⟨w1.heap.size + 1, 0, none⟩ = some (.int .i64 (y1)) := (b6.cell (p := ⟨w1.heap.size + 1, 0, none⟩) (by first | (simp; done) | (simp; omega) | omega)).trans (by first | with_reducible assumption | (simp [go_sem]; done) | (simp [go_sem, *]; done))
          have g6_1_0 : w6.frozen? ⟨w1.heap.size + 1, 0, none⟩ = false := (b6.frozen (p := ⟨w1.heap.size + 1, 0, none⟩) (by first | (simp; done) | (simp; omega) | omega)).trans (by first | with_reducible assumption | (simp [go_sem]; done) | (simp [go_sem, *]; done))
          have k6_1_1 : w6.cell? ⟨w1.heap.size + 1, 1, none⟩ = some (.int .i64 (y2)) := (b6.cell (p := ⟨w1.heap.size + 1, 1, none⟩) (by first | (simp; done) | (simp; omega) | omega)).trans (by first | with_reducible assumption | (simp [go_sem]; done) | (simp [go_sem, *]; done))
          have g6_1_1 : w6.frozen? ⟨w1.heap.size + 1, 1, none⟩ = false := (b6.frozen (p := ⟨w1.heap.size + 1, 1, none⟩) (by first | (simp; done) | (simp; omega) | omega)).trans (by first | with_reducible assumption | (simp [go_sem]; done) | (simp [go_sem, *]; done))
          have z6_2 : w2.heap.size < w6.heap.size := by omega
          have k6_2_0 : w6.cell? ⟨w2.heap.size, 0, none⟩ = some (.int .i64 (MN)) := (b6.cell (p := ⟨w2.heap.size, 0, none⟩) (by first | (simp; done) | (simp; omega) | omega)).trans (by first | with_reducible assumption | (simp [go_sem]; done) | (simp [go_sem, *]; done))
          have g6_2_0 : w6.frozen? ⟨w2.heap.size, 0, none⟩ = false := (b6.frozen (p := ⟨w2.heap.size, 0, none⟩) (by first | (simp; done) | (simp; omega) | omega)).trans (by first | with_reducible assumption | (simp [go_sem]; done) | (simp [go_sem, *]; done))
          have k6_2_1 : w6.cell? ⟨w2.heap.size, 1, none⟩ = some (.int .i64 (MD)) := (b6.cell (p := ⟨w2.heap.size, 1, none⟩) (by first | (simp; done) | (simp; omega) | omega)).trans (by first | with_reducible assumption | (simp [go_sem]; done) | (simp [go_sem, *]; done))
          have g6_2_1 : w6.frozen? ⟨w2.heap.size, 1, none⟩ = false := (b6.frozen (p := ⟨w2.heap.size, 1, none⟩) (by first | (simp; done) | (simp; omega) | omega)).trans (by first | with_reducible assumption | (simp [go_sem]; done) | (simp [go_sem, *]; done))
          have z6_3 : w3.heap.size < w6.heap.size := by omega
          have k6_3_0 : w6.cell? ⟨w3.heap.size, 0, none⟩ = some (.int .i64 (MN)) := (b6.cell (p := ⟨w3.heap.size, 0, none⟩) (by first | (simp; done) | (simp; omega) | omega)).trans (by first | with_reducible assumption | (simp [go_sem]; done) | (simp [go_sem, *]; done))
          have g6_3_0 : w6.frozen? ⟨w3.heap.size, 0, none⟩ = false := (b6.frozen (p := ⟨w3.heap.size, 0, none⟩) (by first | (simp; done) | (simp; omega) | omega)).trans (by first | with_reducible assumption | (simp [go_sem]; done) | (simp [go_sem, *]; done))
          have k6_3_1 : w6.cell? ⟨w3.heap.size, 1, none⟩ = some (.int .i64 (MD)) := (b6.cell (p := ⟨w3.heap.size, 1, none⟩) (by first | (simp; done) | (simp; omega) | omega)).trans (by first | with_reducible assumption | (simp [go_sem]; done) | (simp [go_sem, *]; done))
          have g6_3_1 : w6.frozen? ⟨w3.heap.size, 1, none⟩ = false := (b6.frozen (p := ⟨w3.heap.size, 1, none⟩) (by first | (simp; done) | (simp; omega) | omega)).trans (by first | with_reducible assumption | (simp [go_sem]; done) | (simp [go_sem, *]; done))
          have z6_4 : w4.heap.size < w6.heap.size := by omega
          have k6_4_0 : w6.cell? ⟨w4.heap.size, 0, none⟩ = some (.int .i64 (MN)) := (b6.cell (p := ⟨w4.heap.size, 0, none⟩) (by first | (simp; done) | (simp; omega) | omega)).trans (by first | with_reducible assumption | (simp [go_sem]; done) | (simp [go_sem, *]; done))
          have g6_4_0 : w6.frozen? ⟨w4.heap.size, 0, none⟩ = false := (b6.frozen (p := ⟨w4.heap.size, 0, none⟩) (by first | (simp; done) | (simp; omega) | omega)).trans (by first | with_reducible assumption | (simp [go_sem]; done) | (simp [go_sem, *]; done))
          have k6_4_1 : w6.cell? ⟨w4.heap.size, 1, none⟩ = some (.int .i64 (MD)) := (b6.cell (p := ⟨w4.heap.size, 1, none⟩) (by first | (simp; done) | (simp; omega) | omega)).trans (by first | with_reducible assumption | (simp [go_sem]; done) | (simp [go_sem, *]; done))
          have g6_4_1 : w6.frozen? ⟨w4.heap.size, 1, none⟩ = false := (b6.frozen (p := ⟨w4.heap.size, 1, none⟩) (by first | (simp; done) | (simp; omega) | omega)).trans (by first | with_reducible assumption | (simp [go_sem]; done) | (simp [go_sem, *]; done))
          have z6_5 : w5.heap.size < w6.heap.size := by omega
          have k6_5_0 : w6.cell? ⟨w5.heap.size, 0, none⟩ = some (.int .i64 (x1)) := (b6.cell (p := ⟨w5.heap.size, 0, none⟩) (by first | (simp; done) | (simp; omega) | omega)).trans (by first | with_reducible assumption | (simp [go_sem]; done) | (simp [go_sem, *]; done))
          have g6_5_0 : w6.frozen? ⟨w5.heap.size, 0, none⟩ = false := (b6.frozen (p := ⟨w5.heap.size, 0, none⟩) (by first | (simp; done) | (simp; omega) | omega)).trans (by first | with_reducible assumption | (simp [go_sem]; done) | (simp [go_sem, *]; done))
          have k6_5_1 : w6.cell? ⟨w5.heap.size, 1, none⟩ = some (.int .i64 (x2)) := (b6.cell (p := ⟨w5.heap.size, 1, none⟩) (by first | (simp; done) | (simp; omega) | omega)).trans (by first | with_reducible assumption | (simp [go_sem]; done) | (simp [go_sem, *]; done))
          have g6_5_1 : w6.frozen? ⟨w5.heap.size, 1, none⟩ = false := (b6.frozen (p := ⟨w5.heap.size, 1, none⟩) (by first | (simp; done) | (simp; omega) | omega)).trans (by first | with_reducible assumption | (simp [go_sem]; done) | (simp [go_sem, *]; done))
          clear k5_0_0 g5_0_0 k5_0_1 g5_0_1 k5_1_0 g5_1_0 k5_1_1 g5_1_1 k5_2_0 g5_2_0 k5_2_1 g5_2_1 k5_3_0 g5_3_0 k5_3_1 g5_3_1 k5_4_0 g5_4_0 k5_4_1 g5_4_1
          go_wp2
          all_goals first | (exfalso; omega) | (go_ret; exact ⟨rfl, (by (repeat (first | with_reducible exact Below.refl _ _ | with_reducible refine bl_alloc ?_ _ | with_reducible refine bl_drew ?_ | with_reducible refine bl_set ?_ (by first | (simp; done) | (simp; omega)) _ | with_reducible refine bl_call (by assumption) ?_)))⟩)
        ·
          have hz := HZ.out
          have hp := HP.out
          clear HZ HP
          have hM : MN = 0 := by omega
          clear hz hp
          have i_x1 : (x1 == 0) = true := by simp [hx]
          have p_x1 : decide (0 < x1) = false := by simp; omega
          have q_x1 : decide (x1 < 0) = false := by simp; omega
          have r_x1 : ¬ 0 < x1 := by omega
          have t_x1 : ¬ x1 < 0 := by omega
          have i_y1 : (y1 == 0) = true := by simp [hy]
          have p_y1 : decide (0 < y1) = false := by simp; omega
          have q_y1 : decide (y1 < 0) = false := by simp; omega
          have r_y1 : ¬ 0 < y1 := by omega
          have t_y1 : ¬ y1 < 0 := by omega
          have i_MN : (MN == 0) = true := by simp [hM]
          have p_MN : decide (0 < MN) = false := by simp; omega
          have q_MN : decide (MN < 0) = false := by simp; omega
          have r_MN : ¬ 0 < MN := by omega
          have t_MN : ¬ MN < 0 := by omega
          clear hx hy hM
          go_wp2_with fail
          refine (K5.out _).mono ?_
          rintro e w6 ⟨rfl, b6⟩
          have s6 := b6.size
          try simp at s6
          have z6_0 : w1.heap.size < w6.heap.size := by omega
          have k6_0_0 : w6.cell? ⟨w1.heap.size, 0, none⟩ = some (.int .i64 (x1)) := (b6.cell (p := ⟨w1.heap.size, 0, none⟩) (by first | (simp; done) | (simp; omega) | omega)).trans (by first | with_reducible assumption | (simp [go_sem]; done) | (simp [go_sem, *]; done))
          have g6_0_0 : w6.frozen? ⟨w1.heap.size, 0, none⟩ = false := (b6.frozen (p := ⟨w1.heap.size, 0, none⟩) (by first | (simp; done) | (simp; omega) | omega)).trans (by first | with_reducible assumption | (simp [go_sem]; done) | (simp [go_sem, *]; done))
          have k6_0_1 : w6.cell? ⟨w1.heap.size, 1, none⟩ = some (.int .i64 (x2)) := (b6.cell (p := ⟨w1.heap.size, 1, none⟩) (by first | (simp; done) | (simp; omega) | omega)).trans (by first | with_reducible assumption | (simp [go_sem]; done) | (simp [go_sem, *]; done))
          have g6_0_1 : w6.frozen? ⟨w1.heap.size, 1, none⟩ = false := (b6.frozen (p := ⟨w1.heap.size, 1, none⟩) (by first | (simp; done) | (simp; omega) | omega)).trans (by first | with_reducible assumption | (simp [go_sem]; done) | (simp [go_sem, *]; done))
          have z6_1 : w1.heap.size + 1 < w6.heap.size := by omega
          have k6_1_0 : w6.cell? ⟨w1.heap.size + 1, 0, none⟩ = some (.int .i64 (y1)) := (b6.cell (p := ⟨w1.heap.size + 1, 0, none⟩) (by first | (simp; done) | (simp; omega) | omega)).trans (by first | with_reducible assumption | (simp [go_sem]; done) | (simp [go_sem, *]; done))
          have g6_1_0 : w6.frozen? ⟨w1.heap.size + 1, 0, none⟩ = false := (b6.frozen (p := ⟨w1.heap.size + 1, 0, none⟩) (by first | (simp; done) | (simp; omega) | omega)).trans (by first | with_reducible assumption | (simp [go_sem]; done) | (simp [go_sem, *]; done))
          have k6_1_1 : w6.cell? ⟨w1.heap.size + 1, 1, none⟩ = some (.int .i64 (y2)) := (b6.cell (p := ⟨w1.heap.size + 1, 1, none⟩) (by first | (simp; done) | (simp; omega) | omega)).trans (by first | with_reducible assumption | (simp [go_sem]; done) | (simp [go_sem, *]; done))
          have g6_1_1 : w6.frozen? ⟨w1.heap.size + 1, 1, none⟩ = false := (b6.frozen (p := ⟨w1.heap.size + 1, 1, none⟩) (by first | (simp; done) | (simp; omega) | omega)).trans (by first | with_reducible assumption | (simp [go_sem]; done) | (simp [go_sem, *]; done))
          have z6_2 : w2.heap.size < w6.heap.size := by omega
          have k6_2_0 : w6.cell? ⟨w2.heap.size, 0, none⟩ = some (.int .i64 (MN)) := (b6.cell (p := ⟨w2.heap.size, 0, none⟩) (by first | (simp; done) | (simp; omega) | omega)).trans (by first | with_reducible assumption | (simp [go_sem]; done) | (simp [go_sem, *]; done))
          have g6_2_0 : w6.frozen? ⟨w2.heap.size, 0, none⟩ = false := (b6.frozen (p := ⟨w2.heap.size, 0, none⟩) (by first | (simp; done) | (simp; omega) | omega)).trans (by first | with_reducible assumption | (simp [go_sem]; done) | (simp [go_sem, *]; done))
          have k6_2_1 : w6.cell? ⟨w2.heap.size, 1, none⟩ = some (.int .i64 (MD)) := (b6.cell (p := ⟨w2.heap.size, 1, none⟩) (by first | (simp; done) | (simp; omega) | omega)).trans (by first | with_reducible assumption | (simp [go_sem]; done) | (simp [go_sem, *]; done))
          have g6_2_1 : w6.frozen? ⟨w2.heap.size, 1, none⟩ = false := (b6.frozen (p := ⟨w2.heap.size, 1, none⟩) (by first | (simp; done) | (simp; omega) | omega)).trans (by first | with_reducible assumption | (simp [go_sem]; done) | (simp [go_sem, *]; done))
          have z6_3 : w3.heap.size < w6.heap.size := by omega
          have k6_3_0 : w6.cell? ⟨w3.heap.size, 0, none⟩ = some (.int .i64 (MN)) := (b6.cell (p := ⟨w3.heap.size, 0, none⟩) (by first | (simp; done) | (simp; omega) | omega)).trans (by first | with_reducible assumption | (simp [go_sem]; done) | (simp [go_sem, *]; done))
          have g6_3_0 : w6.frozen? ⟨w3.heap.size, 0, none⟩ = false := (b6.frozen (p := ⟨w3.heap.size, 0, none⟩) (by first | (simp; done) | (simp; omega) | omega)).trans (by first | with_reducible assumption | (simp [go_sem]; done) | (simp [go_sem, *]; done))
          have k6_3_1 : w6.cell? ⟨w3.heap.size, 1, none⟩ = some (.int .i64 (MD)) := (b6.cell (p := ⟨w3.heap.size, 1, none⟩) (by first | (simp; done) | (simp; omega) | omega)).trans (by first | with_reducible assumption | (simp [go_sem]; done) | (simp [go_sem, *]; done))
          have g6_3_1 : w6.frozen? ⟨w3.heap.size, 1, none⟩ = false := (b6.frozen (p := ⟨w3.heap.size, 1, none⟩) (by first | (simp; done) | (simp; omega) | omega)).trans (by first | with_reducible assumption | (simp [go_sem]; done) | (simp [go_sem, *]; done))
          have z6_4 : w4.heap.size < w6.heap.size := by omega
          have k6_4_0 : w6.cell? ⟨w4.heap.size, 0, none⟩ = some (.int .i64 (MN)) := (b6.cell (p := ⟨w4.heap.size, 0, none⟩) (by first | (simp; done) | (simp; omega) | omega)).trans (by first | with_reducible assumption | (simp [go_sem]; done) | (simp [go_sem, *]; done))
          have g6_4_0 : w6.frozen? ⟨w4.heap.size, 0, none⟩ = false := (b6.frozen (p := ⟨w4.heap.size, 0, none⟩) (by first | (simp; done) | (simp; omega) | omega)).trans (by first | with_reducible assumption | (simp [go_sem]; done) | (simp [go_sem, *]; done))
          have k6_4_1 : w6.cell? ⟨w4.heap.size, 1, none⟩ = some (.int .i64 (MD)) := (b6.cell (p := ⟨w4.heap.size, 1, none⟩) (by first | (simp; done) | (simp; omega) | omega)).trans (by first | with_reducible assumption | (simp [go_sem]; done) | (simp [go_sem, *]; done))
          have g6_4_1 : w6.frozen? ⟨w4.heap.size, 1, none⟩ = false := (b6.frozen (p := ⟨w4.heap.size, 1, none⟩) (by first | (simp; done) | (simp; omega) | omega)).trans (by first | with_reducible assumption | (simp [go_sem]; done) | (simp [go_sem, *]; done))
          have z6_5 : w5.heap.size < w6.heap.size := by omega
          have k6_5_0 : w6.cell? ⟨w5.heap.size, 0, none⟩ = some (.int .i64 (x1)) := (b6.cell (p := ⟨w5.heap.size, 0, none⟩) (by first | (simp; done) | (simp; omega) | omega)).trans (by first | with_reducible assumption | (simp [go_sem]; done) | (simp [go_sem, *]; done))
          have g6_5_0 : w6.frozen? ⟨w5.heap.size, 0, none⟩ = false := (b6.frozen (p := ⟨w5.heap.size, 0, none⟩) (by first | (simp; done) | (simp; omega) | omega)).trans (by first | with_reducible assumption | (simp [go_sem]; done) | (simp [go_sem, *]; done))
          have k6_5_1 : w6.cell? ⟨w5.heap.size, 1, none⟩ = some (.int .i64 (x2)) := (b6.cell (p := ⟨w5.heap.size, 1, none⟩) (by first | (simp; done) | (simp; omega) | omega)).trans (by first | with_reducible assumption | (simp [go_sem]; done) | (simp [go_sem, *]; done))
          have g6_5_1 : w6.frozen? ⟨w5.heap.size, 1, none⟩ = false := (b6.frozen (p := ⟨w5.heap.size, 1, none⟩) (by first | (simp; done) | (simp; omega) | omega)).trans (by first | with_reducible assumption | (simp [go_sem]; done) | (simp [go_sem, *]; done))
          clear k5_0_0 g5_0_0 k5_0_1 g5_0_1 k5_1_0 g5_1_0 k5_1_1 g5_1_1 k5_2_0 g5_2_0 k5_2_1 g5_2_1 k5_3_0 g5_3_0 k5_3_1 g5_3_1 k5_4_0 g5_4_0 k5_4_1 g5_4_1
          go_wp2
          all_goals first | (exfalso; omega) | (go_ret; exact ⟨rfl, (by (repeat (first | with_reducible exact Below.refl _ _ | with_reducible refine bl_alloc ?_ _ | with_reducible refine bl_drew ?_ | with_reducible refine bl_set ?_ (by first | (simp; done) | (simp; omega)) _ | with_reducible refine bl_call (by assumption) ?_)))⟩)
        ·
          have hz := HZ.out
          have hp := HP.out
          clear HZ HP
          have hM : MN = 0 := by omega
          clear hz hp
          have i_x1 : (x1 == 0) = true := by simp [hx]
          have p_x1 : decide (0 < x1) = false := by simp; omega
          have q_x1 : decide (x1 < 0) = false := by simp; omega
          have r_x1 : ¬ 0 < x1 := by omega
          have t_x1 : ¬ x1 < 0 := by omega
          have i_y1 : (y1 == 0) = false := by simp; omega
          have p_y1 : decide (0 < y1) = true := by simp; omega
          have q_y1 : decide (y1 < 0) = false := by simp; omega
          have r_y1 : 0 < y1 := by omega
          have t_y1 : ¬ y1 < 0 := by omega
          have i_MN : (MN == 0) = true := by simp [hM]
          have p_MN : decide (0 < MN) = false := by simp; omega
          have q_MN : decide (MN < 0) = false := by simp; omega
          have r_MN : ¬ 0 < MN := by omega
          have t_MN : ¬ MN < 0 := by omega
          clear hx hy hM
          go_wp2_with fail
          refine (K5.out _).mono ?_
          rintro e w6 ⟨rfl, b6⟩
          have s6 := b6.size
          try simp at s6
          have z6_0 : w1.heap.size < w6.heap.size := by omega
          have k6_0_0 : w6.cell? ⟨w1.heap.size, 0, none⟩ = some (.int .i64 (x1)) := (b6.cell (p := ⟨w1.heap.size, 0, none⟩) (by first | (simp; done) | (simp; omega) | omega)).trans (by first | with_reducible assumption | (simp [go_sem]; done) | (simp [go_sem, *]; done))
          have g6_0_0 : w6.frozen? ⟨w1.heap.size, 0, none⟩ = false := (b6.frozen (p := ⟨w1.heap.size, 0, none⟩) (by first | (simp; done) | (simp; omega) | omega)).trans (by first | with_reducible assumption | (simp [go_sem]; done) | (simp [go_sem, *]; done))
          have k6_0_1 : w6.cell? ⟨w1.heap.size, 1, none⟩ = some (.int .i64 (x2)) := (b6.cell (p := ⟨w1.heap.size, 1, none⟩) (by first | (simp; done) | (simp; omega) | omega)).trans (by first | with_reducible assumption | (simp [go_sem]; done) | (simp [go_sem, *]; done))
          have g6_0_1 : w6.frozen? ⟨w1.heap.size, 1, none⟩ = false := (b6.frozen (p := ⟨w1.heap.size, 1, none⟩) (by first | (simp; done) | (simp; omega) | omega)).trans (by first | with_reducible assumption | (simp [go_sem]; done) | (simp [go_sem, *]; done))
          have z6_1 : w1.heap.size + 1 < w6.heap.size := by omega
          have k6_1_0 : w6.cell? ⟨w1.heap.size + 1, 0, none⟩ = some (.int .i64 (y1)) := (b6.cell (p := ⟨w1.heap.size + 1, 0, none⟩) (by first | (simp; done) | (simp; omega) | omega)).trans (by first | with_reducible assumption | (simp [go_sem]; done) | (simp [go_sem, *]; done))
          have g6_1_0 : w6.frozen? ⟨w1.heap.size + 1, 0, none⟩ = false := (b6.frozen (p := ⟨w1.heap.size + 1, 0, none⟩) (by first | (simp; done) | (simp; omega) | omega)).trans (by first | with_reducible assumption | (simp [go_sem]; done) | (simp [go_sem, *]; done))
          have k6_1_1 : w6.cell? ⟨w1.heap.size + 1, 1, none⟩ = some (.int .i64 (y2)) := (b6.cell (p := ⟨w1.heap.size + 1, 1, none⟩) (by first | (simp; done) | (simp; omega) | omega)).trans (by first | with_reducible assumption | (simp [go_sem]; done) | (simp [go_sem, *]; done))
          have g6_1_1 : w6.frozen? ⟨w1.heap.size + 1, 1, none⟩ = false := (b6.frozen (p := ⟨w1.heap.size + 1, 1, none⟩) (by first | (simp; done) | (simp; omega) | omega)).trans (by first | with_reducible assumption | (simp [go_sem]; done) | (simp [go_sem, *]; done))
          have z6_2 : w2.heap.size < w6.heap.size := by omega
          have k6_2_0 : w6.cell? ⟨w2.heap.size, 0, none⟩ = some (.int .i64 (MN)) := (b6.cell (p := ⟨w2.heap.size, 0, none⟩) (by first | (simp; done) | (simp; omega) | omega)).trans (by first | with_reducible assumption | (simp [go_sem]; done) | (simp [go_sem, *]; done))
          have g6_2_0 : w6.frozen? ⟨w2.heap.size, 0, none⟩ = false := (b6.frozen (p := ⟨w2.heap.size, 0, none⟩) (by first | (simp; done) | (simp; omega) | omega)).trans (by first | with_reducible assumption | (simp [go_sem]; done) | (simp [go_sem, *]; done))
          have k6_2_1 : w6.cell? ⟨w2.heap.size, 1, none⟩ = some (.int .i64 (MD)) := (b6.cell (p := ⟨w2.heap.size, 1, none⟩) (by first | (simp; done) | (simp; omega) | omega)).trans (by first | with_reducible assumption | (simp [go_sem]; done) | (simp [go_sem, *]; done))
          have g6_2_1 : w6.frozen? ⟨w2.heap.size, 1, none⟩ = false := (b6.frozen (p := ⟨w2.heap.size, 1, none⟩) (by first | (simp; done) | (simp; omega) | omega)).trans (by first | with_reducible assumption | (simp [go_sem]; done) | (simp [go_sem, *]; done))
          have z6_3 : w3.heap.size < w6.heap.size := by omega
          have k6_3_0 : w6.cell? ⟨w3.heap.size, 0, none⟩ = some (.int .i64 (MN)) := (b6.cell (p := ⟨w3.heap.size, 0, none⟩) (by first | (simp; done) | (simp; omega) | omega)).trans (by first | with_reducible assumption | (simp [go_sem]; done) | (simp [go_sem, *]; done))
          have g6_3_0 : w6.frozen? ⟨w3.heap.size, 0, none⟩ = false := (b6.frozen (p := ⟨w3.heap.size, 0, none⟩) (by first | (simp; done) | (simp; omega) | omega)).trans (by first | with_reducible assumption | (simp [go_sem]; done) | (simp [go_sem, *]; done))
          have k6_3_1 : w6.cell? ⟨w3.heap.size, 1, none⟩ = some (.int .i64 (MD)) := (b6.cell (p := ⟨w3.heap.size, 1, none⟩) (by first | (simp; done) | (simp; omega) | omega)).trans (by first | with_reducible assumption | (simp [go_sem]; done) | (simp [go_sem, *]; done))
          have g6_3_1 : w6.frozen? ⟨w3.heap.size, 1, none⟩ = false := (b6.frozen (p := ⟨w3.heap.size, 1, none⟩) (by first | (simp; done) | (simp; omega) | omega)).trans (by first | with_reducible assumption | (simp [go_sem]; done) | (simp [go_sem, *]; done))
          have z6_4 : w4.heap.size < w6.heap.size := by omega
          have k6_4_0 : w6.cell? ⟨w4.heap.size, 0, none⟩ = some (.int .i64 (MN)) := (b6.cell (p := ⟨w4.heap.size, 0, none⟩) (by first | (simp; done) | (simp; omega) | omega)).trans (by first | with_reducible assumption | (simp [go_sem]; done) | (simp [go_sem, *]; done))
          have g6_4_0 : w6.frozen? ⟨w4.heap.size, 0, none⟩ = false := (b6.frozen (p := ⟨w4.heap.size, 0, none⟩) (by first | (simp; done) | (simp; omega) | omega)).trans (by first | with_reducible assumption | (simp [go_sem]; done) | (simp [go_sem, *]; done))
          have k6_4_1 : w6.cell? ⟨w4.heap.size, 1, none⟩ = some (.int .i64 (MD)) := (b6.cell (p := ⟨w4.heap.size, 1, none⟩) (by first | (simp; done) | (simp; omega) | omega)).trans (by first | with_reducible assumption | (simp [go_sem]; done) | (simp [go_sem, *]; done))
          have g6_4_1 : w6.frozen? ⟨w4.heap.size, 1, none⟩ = false := (b6.frozen (p := ⟨w4.heap.size, 1, none⟩) (by first | (simp; done) | (simp; omega) | omega)).trans (by first | with_reducible assumption | (simp [go_sem]; done) | (simp [go_sem, *]; done))
          have z6_5 : w5.heap.size < w6.heap.size := by omega
          have k6_5_0 : w6.cell? ⟨w5.heap.size, 0, none⟩ = some (.int .i64 (x1)) := (b6.cell (p := ⟨w5.heap.size, 0, none⟩) (by first | (simp; done) | (simp; omega) | omega)).trans (by first | with_reducible assumption | (simp [go_sem]; done) | (simp [go_sem, *]; done))
          have g6_5_0 : w6.frozen? ⟨w5.heap.size, 0, none⟩ = false := (b6.frozen (p := ⟨w5.heap.size, 0, none⟩) (by first | (simp; done) | (simp; omega) | omega)).trans (by first | with_reducible assumption | (simp [go_sem]; done) | (simp [go_sem, *]; done))
          have k6_5_1 : w6.cell? ⟨w5.heap.size, 1, none⟩ = some (.int .i64 (x2)) := (b6.cell (p := ⟨w5.heap.size, 1, none⟩) (by first | (simp; done) | (simp; omega) | omega)).trans (by first | with_reducible assumption | (simp [go_sem]; done) | (simp [go_sem, *]; done))
          have g6_5_1 : w6.frozen? ⟨w5.heap.size, 1, none⟩ = false := (b6.frozen (p := ⟨w5.heap.size, 1, none⟩) (by first | (simp; done) | (simp; omega) | omega)).trans (by first | with_reducible assumption | (simp [go_sem]; done) | (simp [go_sem, *]; done))
          clear k5_0_0 g5_0_0 k5_0_1 g5_0_1 k5_1_0 g5_1_0 k5_1_1 g5_1_1 k5_2_0 g5_2_0 k5_2_1 g5_2_1 k5_3_0 g5_3_0 k5_3_1 g5_3_1 k5_4_0 g5_4_0 k5_4_1 g5_4_1
          go_wp2
          all_goals first | (exfalso; omega) | (go_ret; exact ⟨rfl, (by (repeat (first | with_reducible exact Below.refl _ _ | with_reducible refine bl_alloc ?_ _ | with_reducible refine bl_drew ?_ | with_reducible refine bl_set ?_ (by first | (simp; done) | (simp; omega)) _ | with_reducible refine bl_call (by assumption) ?_)))⟩)
      · rcases Int.lt_trichotomy y1 0 with hy | hy | hy
        ·
          have hz := HZ.out
          have hp := HP.out
          clear HZ HP
          have hM : MN < 0 := by omega
          clear hz hp
          have i_x1 : (x1 == 0) = false := by simp; omega
          have p_x1 : decide (0 < x1) = true := by simp; omega
          have q_x1 : decide (x1 < 0) = false := by simp; omega
          have r_x1 : 0 < x1 := by omega
          have t_x1 : ¬ x1 < 0 := by omega
          have i_y1 : (y1 == 0) = false := by simp; omega
          have p_y1 : decide (0 < y1) = false := by simp; omega
          have q_y1 : decide (y1 < 0) = true := by simp; omega
          have r_y1 : ¬ 0 < y1 := by omega
          have t_y1 : y1 < 0 := by omega
          have i_MN : (MN == 0) = false := by simp; omega
          have p_MN : decide (0 < MN) = false := by simp; omega
          have q_MN : decide (MN < 0) = true := by simp; omega
          have r_MN : ¬ 0 < MN := by omega
          have t_MN : MN < 0 := by omega
          clear hx hy hM
          go_wp2_with fail
          refine (K5.out _).mono ?_
          rintro e w6 ⟨rfl, b6⟩
          have s6 := b6.size
          try simp at s6
          have z6_0 : w1.heap.size < w6.heap.size := by omega
          have k6_0_0 : w6.cell? ⟨w1.heap.size, 0, none⟩ = some (.int .i64 (x1)) := (b6.cell (p := ⟨w1.heap.size, 0, none⟩) (by first | (simp; done) | (simp; omega) | omega)).trans (by first | with_reducible assumption | (simp [go_sem]; done) | (simp [go_sem, *]; done))
          have g6_0_0 : w6.frozen? ⟨w1.heap.size, 0, none⟩ = false := (b6.frozen (p := ⟨w1.heap.size, 0, none⟩) (by first | (simp; done) | (simp; omega) | omega)).trans (by first | with_reducible assumption | (simp [go_sem]; done) | (simp [go_sem, *]; done))
          have k6_0_1 : w6.cell? ⟨w1.heap.size, 1, none⟩ = some (.int .i64 (x2)) := (b6.cell (p := ⟨w1.heap.size, 1, none⟩) (by first | (simp; done) | (simp; omega) | omega)).trans (by first | with_reducible assumption | (simp [go_sem]; done) | (simp [go_sem, *]; done))
          have g6_0_1 : w6.frozen? ⟨w1.heap.size, 1, none⟩ = false := (b6.frozen (p := ⟨w1.heap.size, 1, none⟩) (by first | (simp; done) | (simp; omega) | omega)).trans (by first | with_reducible assumption | (simp [go_sem]; done) | (simp [go_sem, *]; done))
          have z6_1 : w1.heap.size + 1 < w6.heap.size := by omega
          have k6_1_0 : w6.cell? ⟨w1.heap.size + 1, 0, none⟩ = some (.int .i64 (y1)) := (b6.cell (p := ⟨w1.heap.size + 1, 0, none⟩) (by first | (simp; done) | (simp; omega) | omega)).trans (by first | with_reducible assumption | (simp [go_sem]; done) | (simp [go_sem, *]; done))
          have g6_1_0 : w6.frozen? ⟨w1.heap.size + 1, 0, none⟩ = false := (b6.frozen (p := ⟨w1.heap.size + 1, 0, none⟩) (by first | (simp; done) | (simp; omega) | omega)).trans (by first | with_reducible assumption | (simp [go_sem]; done) | (simp [go_sem, *]; done))
          have k6_1_1 : w6.cell? ⟨w1.heap.size + 1, 1, none⟩ = some (.int .i64 (y2)) := (b6.cell (p := ⟨w1.heap.size + 1, 1, none⟩) (by first | (simp; done) | (simp; omega) | omega)).trans (by first | with_reducible assumption | (simp [go_sem]; done) | (simp [go_sem, *]; done))
          have g6_1_1 : w6.frozen? ⟨w1.heap.size + 1, 1, none⟩ = false := (b6.frozen (p := ⟨w1.heap.size + 1, 1, none⟩) (by first | (simp; done) | (simp; omega) | omega)).trans (by first | with_reducible assumption | (simp [go_sem]; done) | (simp [go_sem, *]; done))
          have z6_2 : w2.heap.size < w6.heap.size := by omega
          have k6_2_0 : w6.cell? ⟨w2.heap.size, 0, none⟩ = some (.int .i64 (MN)) := (b6.cell (p := ⟨w2.heap.size, 0, none⟩) (by first | (simp; done) | (simp; omega) | omega)).trans (by first | with_reducible assumption | (simp [go_sem]; done) | (simp [go_sem, *]; done))
          have g6_2_0 : w6.frozen? ⟨w2.heap.size, 0, none⟩ = false := (b6.frozen (p := ⟨w2.heap.size, 0, none⟩) (by first | (simp; done) | (simp; omega) | omega)).trans (by first | with_reducible assumption | (simp [go_sem]; done) | (simp [go_sem, *]; done))
          have k6_2_1 : w6.cell? ⟨w2.heap.size, 1, none⟩ = some (.int .i64 (MD)) := (b6.cell (p := ⟨w2.heap.size, 1, none⟩) (by first | (simp; done) | (simp; omega) | omega)).trans (by first | with_reducible assumption | (simp [go_sem]; done) | (simp [go_sem, *]; done))
          have g6_2_1 : w6.frozen? ⟨w2.heap.size, 1, none⟩ = false := (b6.frozen (p := ⟨w2.heap.size, 1, none⟩) (by first | (simp; done) | (simp; omega) | omega)).trans (by first | with_reducible assumption | (simp [go_sem]; done) | (simp [go_sem, *]; done))
          have z6_3 : w3.heap.size < w6.heap.size := by omega
          have k6_3_0 : w6.cell? ⟨w3.heap.size, 0, none⟩ = some (.int .i64 (MN)) := (b6.cell (p := ⟨w3.heap.size, 0, none⟩) (by first | (simp; done) | (simp; omega) | omega)).trans (by first | with_reducible assumption | (simp [go_sem]; done) | (simp [go_sem, *]; done))
          have g6_3_0 : w6.frozen? ⟨w3.heap.size, 0, none⟩ = false := (b6.frozen (p := ⟨w3.heap.size, 0, none⟩) (by first | (simp; done) | (simp; omega) | omega)).trans (by first | with_reducible assumption | (simp [go_sem]; done) | (simp [go_sem, *]; done))
          have k6_3_1 : w6.cell? ⟨w3.heap.size, 1, none⟩ = some (.int .i64 (MD)) := (b6.cell (p := ⟨w3.heap.size, 1, none⟩) (by first | (simp; done) | (simp; omega) | omega)).trans (by first | with_reducible assumption | (simp [go_sem]; done) | (simp [go_sem, *]; done))
          have g6_3_1 : w6.frozen? ⟨w3.heap.size, 1, none⟩ = false := (b6.frozen (p := ⟨w3.heap.size, 1, none⟩) (by first | (simp; done) | (simp; omega) | omega)).trans (by first | with_reducible assumption | (simp [go_sem]; done) | (simp [go_sem, *]; done))
          have z6_4 : w4.heap.size < w6.heap.size := by omega
          have k6_4_0 : w6.cell? ⟨w4.heap.size, 0, none⟩ = some (.int .i64 (MN)) := (b6.cell (p := ⟨w4.heap.size, 0, none⟩) (by first | (simp; done) | (simp; omega) | omega)).trans (by first | with_reducible assumption | (simp [go_sem]; done) | (simp [go_sem, *]; done))
          have g6_4_0 : w6.frozen? ⟨w4.heap.size, 0, none⟩ = false := (b6.frozen (p := ⟨w4.heap.size, 0, none⟩) (by first | (simp; done) | (simp; omega) | omega)).trans (by first | with_reducible assumption | (simp [go_sem]; done) | (simp [go_sem, *]; done))
          have k6_4_1 : w6.cell? ⟨w4.heap.size, 1, none⟩ = some (.int .i64 (MD)) := (b6.cell (p := ⟨w4.heap.size, 1, none⟩) (by first | (simp; done) | (simp; omega) | omega)).trans (by first | with_reducible assumption | (simp [go_sem]; done) | (simp [go_sem, *]; done))
          have g6_4_1 : w6.frozen? ⟨w4.heap.size, 1, none⟩ = false := (b6.frozen (p := ⟨w4.heap.size, 1, none⟩) (by first | (simp; done) | (simp; omega) | omega)).trans (by first | with_reducible assumption | (simp [go_sem]; done) | (simp [go_sem, *]; done))
          have z6_5 : w5.heap.size < w6.heap.size := by omega
          have k6_5_0 : w6.cell? ⟨w5.heap.size, 0, none⟩ = some (.int .i64 (x1)) := (b6.cell (p := ⟨w5.heap.size, 0, none⟩) (by first | (simp; done) | (simp; omega) | omega)).trans (by first | with_reducible assumption | (simp [go_sem]; done) | (simp [go_sem, *]; done))
          have g6_5_0 : w6.frozen? ⟨w5.heap.size, 0, none⟩ = false := (b6.frozen (p := ⟨w5.heap.size, 0, none⟩) (by first | (simp; done) | (simp; omega) | omega)).trans (by first | with_reducible assumption | (simp [go_sem]; done) | (simp [go_sem, *]; done))
          have k6_5_1 : w6.cell? ⟨w5.heap.size, 1, none⟩ = some (.int .i64 (x2)) := (b6.cell (p := ⟨w5.heap.size, 1, none⟩) (by first | (simp; done) | (simp; omega) | omega)).trans (by first | with_reducible assumption | (simp [go_sem]; done) | (simp [go_sem, *]; done))
          have g6_5_1 : w6.frozen? ⟨w5.heap.size, 1, none⟩ = false := (b6.frozen (p := ⟨w5.heap.size, 1, none⟩) (by first | (simp; done) | (simp; omega) | omega)).trans (by first | with_reducible assumption | (simp [go_sem]; done) | (simp [go_sem, *]; done))
          clear k5_0_0 g5_0_0 k5_0_1 g5_0_1 k5_1_0 g5_1_0 k5_1_1 g5_1_1 k5_2_0 g5_2_0 k5_2_1 g5_2_1 k5_3_0 g5_3_0 k5_3_1 g5_3_1 k5_4_0 g5_4_0 k5_4_1 g5_4_1
          go_wp2
          all_goals first | (exfalso; omega) | (go_ret; exact ⟨rfl, (by (repeat (first | with_reducible exact Below.refl _ _ | with_reducible refine bl_alloc ?_ _ | with_reducible refine bl_drew ?_ | with_reducible refine bl_set ?_ (by first | (simp; done) | (simp; omega)) _ | with_reducible refine bl_call (by assumption) ?_)))⟩)
        ·
          have hz := HZ.out
          have hp := HP.out
          clear HZ HP
          have hM : MN = 0 := by omega
          clear hz hp
          have i_x1 : (x1 == 0) = false := by simp; omega
          have p_x1 : decide (0 < x1) = true := by simp; omega
          have q_x1 : decide (x1 < 0) = false := by simp; omega
          have r_x1 : 0 < x1 := by omega
          have t_x1 : ¬ x1 < 0 := by omega
          have i_y1 : (y1 == 0) = true := by simp [hy]
          have p_y1 : decide (0 < y1) = false := by simp; omega
          have q_y1 : decide (y1 < 0) = false := by simp; omega
          have r_y1 : ¬ 0 < y1 := by omega
          have t_y1 : ¬ y1 < 0 := by omega
          have i_MN : (MN == 0) = true := by simp [hM]
          have p_MN : decide (0 < MN) = false := by simp; omega
          have q_MN : decide (MN < 0) = false := by simp; omega
          have r_MN : ¬ 0 < MN := by omega
          have t_MN : ¬ MN < 0 := by omega
          clear hx hy hM
          go_wp2_with fail
          refine (K5.out _).mono ?_
          rintro e w6 ⟨rfl, b6⟩
          have s6 := b6.size
          try simp at s6
          have z6_0 : w1.heap.size < w6.heap.size := by omega
          have k6_0_0 : w6.cell? ⟨w1.heap.size, 0, none⟩ = some (.int .i64 (x1)) := (b6.cell (p := ⟨w1.heap.size, 0, none⟩) (by first | (simp; done) | (simp; omega) | omega)).trans (by first | with_reducible assumption | (simp [go_sem]; done) | (simp [go_sem, *]; done))
          have g6_0_0 : w6.frozen? ⟨w1.heap.size, 0, none⟩ = false := (b6.frozen (p := ⟨w1.heap.size, 0, none⟩) (by first | (simp; done) | (simp; omega) | omega)).trans (by first | with_reducible assumption | (simp [go_sem]; done) | (simp [go_sem, *]; done))
          have k6_0_1 : w6.cell? ⟨w1.heap.size, 1, none⟩ = some (.int .i64 (x2)) := (b6.cell (p := ⟨w1.heap.size, 1, none⟩) (by first | (simp; done) | (simp; omega) | omega)).trans (by first | with_reducible assumption | (simp [go_sem]; done) | (simp [go_sem, *]; done))
          have g6_0_1 : w6.frozen? ⟨w1.heap.size, 1, none⟩ = false := (b6.frozen (p := ⟨w1.heap.size, 1, none⟩) (by first | (simp; done) | (simp; omega) | omega)).trans (by first | with_reducible assumption | (simp [go_sem]; done) | (simp [go_sem, *]; done))
          have z6_1 : w1.heap.size + 1 < w6.heap.size := by omega
          have k6_1_0 : w6.cell? ⟨w1.heap.size + 1, 0, none⟩ = some (.int .i64 (y1)) := (b6.cell (p := ⟨w1.heap.size + 1, 0, none⟩) (by first | (simp; done) | (simp; omega) | omega)).trans (by first | with_reducible assumption | (simp [go_sem]; done) | (simp [go_sem, *]; done))
          have g6_1_0 : w6.frozen? ⟨w1.heap.size + 1, 0, none⟩ = false := (b6.frozen (p := ⟨w1.heap.size + 1, 0, none⟩) (by first | (simp; done) | (simp; omega) | omega)).trans (by first | with_reducible assumption | (simp [go_sem]; done) | (simp [go_sem, *]; done))
          have k6_1_1 : w6.cell? ⟨w1.heap.size + 1, 1, none⟩ = some (.int .i64 (y2)) := (b6.cell (p := ⟨w1.heap.size + 1, 1, none⟩) (by first | (simp; done) | (simp; omega) | omega)).trans (by first | with_reducible assumption | (simp [go_sem]; done) | (simp [go_sem, *]; done))
          have g6_1_1 : w6.frozen? ⟨w1.heap.size + 1, 1, none⟩ = false := (b6.frozen (p := ⟨w1.heap.size + 1, 1, none⟩) (by first | (simp; done) | (simp; omega) | omega)).trans (by first | with_reducible assumption | (simp [go_sem]; done) | (simp [go_sem, *]; done))
          have z6_2 : w2.heap.size < w6.heap.size := by omega
          have k6_2_0 : w6.cell? ⟨w2.heap.size, 0, none⟩ = some (.int .i64 (MN)) := (b6.cell (p := ⟨w2.heap.size, 0, none⟩) (by first | (simp; done) | (simp; omega) | omega)).trans (by first | with_reducible assumption | (simp [go_sem]; done) | (simp [go_sem, *]; done))
          have g6_2_0 : w6.frozen? ⟨w2.heap.size, 0, none⟩ = false := (b6.frozen (p := ⟨w2.heap.size, 0, none⟩) (by first | (simp; done) | (simp; omega) | omega)).trans (by first | with_reducible assumption | (simp [go_sem]; done) | (simp [go_sem, *]; done))
          have k6_2_1 : w6.cell? ⟨w2.heap.size, 1, none⟩ = some (.int .i64 (MD)) := (b6.cell (p := ⟨w2.heap.size, 1, none⟩) (by first | (simp; done) | (simp; omega) | omega)).trans (by first | with_reducible assumption | (simp [go_sem]; done) | (simp [go_sem, *]; done))
          have g6_2_1 : w6.frozen? ⟨w2.heap.size, 1, none⟩ = false := (b6.frozen (p := ⟨w2.heap.size, 1, none⟩) (by first | (simp; done) | (simp; omega) | omega)).trans (by first | with_reducible assumption | (simp [go_sem]; done) | (simp [go_sem, *]; done))
          have z6_3 : w3.heap.size < w6.heap.size := by omega
          have k6_3_0 : w6.cell? ⟨w3.heap.size, 0, none⟩ = some (.int .i64 (MN)) := (b6.cell (p := ⟨w3.heap.size, 0, none⟩) (by first | (simp; done) | (simp; omega) | omega)).trans (by first | with_reducible assumption | (simp [go_sem]; done) | (simp [go_sem, *]; done))
          have g6_3_0 : w6.frozen? ⟨w3.heap.size, 0, none⟩ = false := (b6.frozen (p := ⟨w3.heap.size, 0, none⟩) (by first | (simp; done) | (simp; omega) | omega)).trans (by first | with_reducible assumption | (simp [go_sem]; done) | (simp [go_sem, *]; done))
          have k6_3_1 : w6.cell? ⟨w3.heap.size, 1, none⟩ = some (.int .i64 (MD)) := (b6.cell (p := ⟨w3.heap.size, 1, none⟩) (by first | (simp; done) | (simp; omega) | omega)).trans (by first | with_reducible assumption | (simp [go_sem]; done) | (simp [go_sem, *]; done))
          have g6_3_1 : w6.frozen? ⟨w3.heap.size, 1, none⟩ = false := (b6.frozen (p := ⟨w3.heap.size, 1, none⟩) (by first | (simp; done) | (simp; omega) | omega)).trans (by first | with_reducible assumption | (simp [go_sem]; done) | (simp [go_sem, *]; done))
          have z6_4 : w4.heap.size < w6.heap.size := by omega
          have k6_4_0 : w6.cell? ⟨w4.heap.size, 0, none⟩ = some (.int .i64 (MN)) := (b6.cell (p := ⟨w4.heap.size, 0, none⟩) (by first | (simp; done) | (simp; omega) | omega)).trans (by first | with_reducible assumption | (simp [go_sem]; done) | (simp [go_sem, *]; done))
          have g6_4_0 : w6.frozen? ⟨w4.heap.size, 0, none⟩ = false := (b6.frozen (p := ⟨w4.heap.size, 0, none⟩) (by first | (simp; done) | (simp; omega) | omega)).trans (by first | with_reducible assumption | (simp [go_sem]; done) | (simp [go_sem, *]; done))
          have k6_4_1 : w6.cell? ⟨w4.heap.size, 1, none⟩ = some (.int .i64 (MD)) := (b6.cell (p := ⟨w4.heap.size, 1, none⟩) (by first | (simp; done) | (simp; omega) | omega)).trans (by first | with_reducible assumption | (simp [go_sem]; done) | (simp [go_sem, *]; done))
          have g6_4_1 : w6.frozen? ⟨w4.heap.size, 1, none⟩ = false := (b6.frozen (p := ⟨w4.heap.size, 1, none⟩) (by first | (simp; done) | (simp; omega) | omega)).trans (by first | with_reducible assumption | (simp [go_sem]; done) | (simp [go_sem, *]; done))
          have z6_5 : w5.heap.size < w6.heap.size := by omega
          have k6_5_0 : w6.cell? ⟨w5.heap.size, 0, none⟩ = some (.int .i64 (x1)) := (b6.cell (p := ⟨w5.heap.size, 0, none⟩) (by first | (simp; done) | (simp; omega) | omega)).trans (by first | with_reducible assumption | (simp [go_sem]; done) | (simp [go_sem, *]; done))
          have g6_5_0 : w6.frozen? ⟨w5.heap.size, 0, none⟩ = false := (b6.frozen (p := ⟨w5.heap.size, 0, none⟩) (by first | (simp; done) | (simp; omega) | omega)).trans (by first | with_reducible assumption | (simp [go_sem]; done) | (simp [go_sem, *]; done))
          have k6_5_1 : w6.cell? ⟨w5.heap.size, 1, none⟩ = some (.int .i64 (x2)) := (b6.cell (p := ⟨w5.heap.size, 1, none⟩) (by first | (simp; done) | (simp; omega) | omega)).trans (by first | with_reducible assumption | (simp [go_sem]; done) | (simp [go_sem, *]; done))
          have g6_5_1 : w6.frozen? ⟨w5.heap.size, 1, none⟩ = false := (b6.frozen (p := ⟨w5.heap.size, 1, none⟩) (by first | (simp; done) | (simp; omega) | omega)).trans (by first | with_reducible assumption | (simp [go_sem]; done) | (simp [go_sem, *]; done))
          clear k5_0_0 g5_0_0 k5_0_1 g5_0_1 k5_1_0 g5_1_0 k5_1_1 g5_1_1 k5_2_0 g5_2_0 k5_2_1 g5_2_1 k5_3_0 g5_3_0 k5_3_1 g5_3_1 k5_4_0 g5_4_0 k5_4_1 g5_4_1
          go_wp2
          all_goals first | (exfalso; omega) | (go_ret; exact ⟨rfl, (by (repeat (first | with_reducible exact Below.refl _ _ | with_reducible refine bl_alloc ?_ _ | with_reducible refine bl_drew ?_ | with_reducible refine bl_set ?_ (by first | (simp; done) | (simp; omega)) _ | with_reducible refine bl_call (by assumption) ?_)))⟩)
        ·
          have hz := HZ.out
          have hp := HP.out
          clear HZ HP
          have hM : 0 < MN := by omega
          clear hz hp
          have i_x1 : (x1 == 0) = false := by simp; omega
          have p_x1 : decide (0 < x1) = true := by simp; omega
          have q_x1 : decide (x1 < 0) = false := by simp; omega
          have r_x1 : 0 < x1 := by omega
          have t_x1 : ¬ x1 < 0 := by omega
          have i_y1 : (y1 == 0) = false := by simp; omega
          have p_y1 : decide (0 < y1) = true := by simp; omega
          have q_y1 : decide (y1 < 0) = false := by simp; omega
          have r_y1 : 0 < y1 := by omega
          have t_y1 : ¬ y1 < 0 := by omega
          have i_MN : (MN == 0) = false := by simp; omega
          have p_MN : decide (0 < MN) = true := by simp; omega
          have q_MN : decide (MN < 0) = false := by simp; omega
          have r_MN : 0 < MN := by omega
          have t_MN : ¬ MN < 0 := by omega
          clear hx hy hM
          go_wp2_with fail
          refine (K5.out _).mono ?_
          rintro e w6 ⟨rfl, b6⟩
          have s6 := b6.size
          try simp at s6
          have z6_0 : w1.heap.size < w6.heap.size := by omega
          have k6_0_0 : w6.cell? ⟨w1.heap.size, 0, none⟩ = some (.int .i64 (x1)) := (b6.cell (p := ⟨w1.heap.size, 0, none⟩) (by first | (simp; done) | (simp; omega) | omega)).trans (by first | with_reducible assumption | (simp [go_sem]; done) | (simp [go_sem, *]; done))
          have g6_0_0 : w6.frozen? ⟨w1.heap.size, 0, none⟩ = false := (b6.frozen (p := ⟨w1.heap.size, 0, none⟩) (by first | (simp; done) | (simp; omega) | omega)).trans (by first | with_reducible assumption | (simp [go_sem]; done) | (simp [go_sem, *]; done))
          have k6_0_1 : w6.cell? ⟨w1.heap.size, 1, none⟩ = some (.int .i64 (x2)) := (b6.cell (p := ⟨w1.heap.size, 1, none⟩) (by first | (simp; done) | (simp; omega) | omega)).trans (by first | with_reducible assumption | (simp [go_sem]; done) | (simp [go_sem, *]; done))
          have g6_0_1 : w6.frozen? ⟨w1.heap.size, 1, none⟩ = false := (b6.frozen (p := ⟨w1.heap.size, 1, none⟩) (by first | (simp; done) | (simp; omega) | omega)).trans (by first | with_reducible assumption | (simp [go_sem]; done) | (simp [go_sem, *]; done))
          have z6_1 : w1.heap.size + 1 < w6.heap.size := by omega
          have k6_1_0 : w6.cell? ⟨w1.heap.size + 1, 0, none⟩ = some (.int .i64 (y1)) := (b6.cell (p := ⟨w1.heap.size + 1, 0, none⟩) (by first | (simp; done) | (simp; omega) | omega)).trans (by first | with_reducible assumption | (simp [go_sem]; done) | (simp [go_sem, *]; done))
          have g6_1_0 : w6.frozen? ⟨w1.heap.size + 1, 0, none⟩ = false := (b6.frozen (p := ⟨w1.heap.size + 1, 0, none⟩) (by first | (simp; done) | (simp; omega) | omega)).trans (by first | with_reducible assumption | (simp [go_sem]; done) | (simp [go_sem, *]; done))
          have k6_1_1 : w6.cell? ⟨w1.heap.size + 1, 1, none⟩ = some (.int .i64 (y2)) := (b6.cell (p := ⟨w1.heap.size + 1, 1, none⟩) (by first | (simp; done) | (simp; omega) | omega)).trans (by first | with_reducible assumption | (simp [go_sem]; done) | (simp [go_sem, *]; done))
          have g6_1_1 : w6.frozen? ⟨w1.heap.size + 1, 1, none⟩ = false := (b6.frozen (p := ⟨w1.heap.size + 1, 1, none⟩) (by first | (simp; done) | (simp; omega) | omega)).trans (by first | with_reducible assumption | (simp [go_sem]; done) | (simp [go_sem, *]; done))
          have z6_2 : w2.heap.size < w6.heap.size := by omega
          have k6_2_0 : w6.cell? ⟨w2.heap.size, 0, none⟩ = some (.int .i64 (MN)) := (b6.cell (p := ⟨w2.heap.size, 0, none⟩) (by first | (simp; done) | (simp; omega) | omega)).trans (by first | with_reducible assumption | (simp [go_sem]; done) | (simp [go_sem, *]; done))
          have g6_2_0 : w6.frozen? ⟨w2.heap.size, 0, none⟩ = false := (b6.frozen (p := ⟨w2.heap.size, 0, none⟩) (by first | (simp; done) | (simp; omega) | omega)).trans (by first | with_reducible assumption | (simp [go_sem]; done) | (simp [go_sem, *]; done))
          have k6_2_1 : w6.cell? ⟨w2.heap.size, 1, none⟩ = some (.int .i64 (MD)) := (b6.cell (p := ⟨w2.heap.size, 1, none⟩) (by first | (simp; done) | (simp; omega) | omega)).trans (by first | with_reducible assumption | (simp [go_sem]; done) | (simp [go_sem, *]; done))
          have g6_2_1 : w6.frozen? ⟨w2.heap.size, 1, none⟩ = false := (b6.frozen (p := ⟨w2.heap.size, 1, none⟩) (by first | (simp; done) | (simp; omega) | omega)).trans (by first | with_reducible assumption | (simp [go_sem]; done) | (simp [go_sem, *]; done))
          have z6_3 : w3.heap.size < w6.heap.size := by omega
          have k6_3_0 : w6.cell? ⟨w3.heap.size, 0, none⟩ = some (.int .i64 (MN)) := (b6.cell (p := ⟨w3.heap.size, 0, none⟩) (by first | (simp; done) | (simp; omega) | omega)).trans (by first | with_reducible assumption | (simp [go_sem]; done) | (simp [go_sem, *]; done))
          have g6_3_0 : w6.frozen? ⟨w3.heap.size, 0, none⟩ = false := (b6.frozen (p := ⟨w3.heap.size, 0, none⟩) (by first | (simp; done) | (simp; omega) | omega)).trans (by first | with_reducible assumption | (simp [go_sem]; done) | (simp [go_sem, *]; done))
          have k6_3_1 : w6.cell? ⟨w3.heap.size, 1, none⟩ = some (.int .i64 (MD)) := (b6.cell (p := ⟨w3.heap.size, 1, none⟩) (by first | (simp; done) | (simp; omega) | omega)).trans (by first | with_reducible assumption | (simp [go_sem]; done) | (simp [go_sem, *]; done))
          have g6_3_1 : w6.frozen? ⟨w3.heap.size, 1, none⟩ = false := (b6.frozen (p := ⟨w3.heap.size, 1, none⟩) (by first | (simp; done) | (simp; omega) | omega)).trans (by first | with_reducible assumption | (simp [go_sem]; done) | (simp [go_sem, *]; done))
          have z6_4 : w4.heap.size < w6.heap.size := by omega
          have k6_4_0 : w6.cell? ⟨w4.heap.size, 0, none⟩ = some (.int .i64 (MN)) := (b6.cell (p := ⟨w4.heap.size, 0, none⟩) (by first | (simp; done) | (simp; omega) | omega)).trans (by first | with_reducible assumption | (simp [go_sem]; done) | (simp [go_sem, *]; done))
          have g6_4_0 : w6.frozen? ⟨w4.heap.size, 0, none⟩ = false := (b6.frozen (p := ⟨w4.heap.size, 0, none⟩) (by first | (simp; done) | (simp; omega) | omega)).trans (by first | with_reducible assumption | (simp [go_sem]; done) | (simp [go_sem, *]; done))
          have k6_4_1 : w6.cell? ⟨w4.heap.size, 1, none⟩ = some (.int .i64 (MD)) := (b6.cell (p := ⟨w4.heap.size, 1, none⟩) (by first | (simp; done) | (simp; omega) | omega)).trans (by first | with_reducible assumption | (simp [go_sem]; done) | (simp [go_sem, *]; done))
          have g6_4_1 : w6.frozen? ⟨w4.heap.size, 1, none⟩ = false := (b6.frozen (p := ⟨w4.heap.size, 1, none⟩) (by first | (simp; done) | (simp; omega) | omega)).trans (by first | with_reducible assumption | (simp [go_sem]; done) | (simp [go_sem, *]; done))
          have z6_5 : w5.heap.size < w6.heap.size := by omega
          have k6_5_0 : w6.cell? ⟨w5.heap.size, 0, none⟩ = some (.int .i64 (x1)) := (b6.cell (p := ⟨w5.heap.size, 0, none⟩) (by first | (simp; done) | (simp; omega) | omega)).trans (by first | with_reducible assumption | (simp [go_sem]; done) | (simp [go_sem, *]; done))
          have g6_5_0 : w6.frozen? ⟨w5.heap.size, 0, none⟩ = false := (b6.frozen (p := ⟨w5.heap.size, 0, none⟩) (by first | (simp; done) | (simp; omega) | omega)).trans (by first | with_reducible assumption | (simp [go_sem]; done) | (simp [go_sem, *]; done))
          have k6_5_1 : w6.cell? ⟨w5.heap.size, 1, none⟩ = some (.int .i64 (x2)) := (b6.cell (p := ⟨w5.heap.size, 1, none⟩) (by first | (simp; done) | (simp; omega) | omega)).trans (by first | with_reducible assumption | (simp [go_sem]; done) | (simp [go_sem, *]; done))
          have g6_5_1 : w6.frozen? ⟨w5.heap.size, 1, none⟩ = false := (b6.frozen (p := ⟨w5.heap.size, 1, none⟩) (by first | (simp; done) | (simp; omega) | omega)).trans (by first | with_reducible assumption | (simp [go_sem]; done) | (simp [go_sem, *]; done))
          clear k5_0_0 g5_0_0 k5_0_1 g5_0_1 k5_1_0 g5_1_0 k5_1_1 g5_1_1 k5_2_0 g5_2_0 k5_2_1 g5_2_1 k5_3_0 g5_3_0 k5_3_1 g5_3_1 k5_4_0 g5_4_0 k5_4_1 g5_4_1
          go_wp2
          all_goals first | (exfalso; omega) | (go_ret; exact ⟨rfl, (by (repeat (first | with_reducible exact Below.refl _ _ | with_reducible refine bl_alloc ?_ _ | with_reducible refine bl_drew ?_ | with_reducible refine bl_set ?_ (by first | (simp; done) | (simp; omega)) _ | with_reducible refine bl_call (by assumption) ?_)))⟩)

  · have hnz : (1048576 : Int) < (n : Int) := by omega
    go_enter Try.func8, Try.ntmps8
    go_wp2
    go_ret
    exact ⟨rfl, Below.refl _ _⟩

set_option maxRecDepth 100000 in
theorem lifted (os : Os) (started : os.Started) (H : Type) (enc : TypeId × Value → H) :
    ReturnsInHanded {} Try.checked os 8 .any (Rows.fnMulRatsSpec.pre6 enc Try.prog Try.f8 Rows.fnMulRatsRow.domain false) (Rows.fnMulRatsSpec.post enc Try.prog Try.f8 false true false false) := by
  refine returnsInHanded_of_change (C := Try.checked) own started (by kernel_rfl) Try.func8
    (ChangeSpec.witness6 (enc := enc) (C := Try.checked) false ⟨#[], #[.slice none 0 0], []⟩ 8 (by kernel_rfl) (by kernel_rfl) (by kernel_rfl) (by kernel_rfl)) ?_
  intro W base args ds gs before hval0 hW hcnd _
  have hval : ∀ (j : Nat) t v, Try.f8.params[j]? = some t → args[j]? = some v → Value.okWide Try.prog W .any base t v := hval0
  have hW' := hW
  obtain ⟨p, q, hA0, hV, rfl, hfz, hnd⟩ := hW
  have hA : DataW.TrodAll enc Try.prog W 0 (fun _ => true) true Try.f8.params.toList args.toList ds p := hA0
  rw [Try.params8] at hA hval
  obtain ⟨v0, vs0, d0, ds0, p0, q0, hargs, rfl, rfl, h0, r0⟩ := trodAll_cons hA
  obtain ⟨rfl, rfl, rfl⟩ := trodAll_nil r0
  obtain rfl : args = #[v0] := by cases args; simp_all
  obtain ⟨rfl, rfl⟩ := trodVars_none hV
  have k0 := h0
  have lt0 : ∀ x ∈ p0, x.block < W.heap.size := by obtain ⟨m, hm⟩ := k0; exact DataW.trod_lt m _ _ _ hm
  obtain ⟨a0, n0, c0, rfl⟩ := okWide_slice Try.underlying22 (hval 0 22 v0 rfl rfl)
  obtain ⟨hs0, hl0, hm0⟩ := open_bytes Try.underlying22 Try.underlying5 (by kernel_rfl) h0
  clear hA0 hval0
  refine (walk a0 n0 c0 W hs0 hl0 hm0).mono fun e W' ⟨he, bel⟩ => ?_
  subst he
  exact ⟨_, rfl, _, _, _, [], _, [], hW', trodAll_mk1 (shut_bool Try.underlying4 _), (trodAll_cons_mk (Below.trod laidOut (by kernel_rfl) (of_decide_eq_true (by kernel_rfl)) k0 bel lt0) trodAll_mk0), rfl, bel.frame _, fun h => by cases h⟩

theorem proved : Rows.FnMulRatsSaid :=
  OpenClaim.holds_of_wide 8 Try.f8 rfl rfl rfl rfl rfl rfl rfl ⟨rfl, rfl, rfl, rfl, rfl⟩ rfl rfl rfl rfl rfl (by kernel_rfl) Try.func8 (by kernel_rfl)
    (of_decide_eq_true (by kernel_rfl)) (by unfold Func.isWrapper; first | (rw [if_pos (by decide +kernel)]; kernel_rfl) | (rw [if_neg (by decide +kernel)]; exact ⟨rfl, rfl⟩))
    (fun os started H enc _ => lifted os started H enc)

end FnMulRats

end Go.Proofs.Ytkhocfoggjdccaa
