/- FnMakeRat returns true for every argument, and leaves its arguments as they were. No conditions. -/
import Derived.Test.YtkhocfoggjdccaaFrame
import Derived.Test.YtkhocfoggjdccaaRdr10
import Derived.Test.YtkhocfoggjdccaaB4
import Derived.Test.YtkhocfoggjdccaaPlainQ7
namespace Go.Proofs.Ytkhocfoggjdccaa
open Go.RowKit
set_option linter.unusedVariables false

open Go.ChangeShapes Go.WideShapes Go.ChangeAt
namespace FnMakeRat

open Go.Sort
set_option maxRecDepth 100000 in
set_option maxHeartbeats 2000000 in
theorem walk (a : Option Addr) (n c : Nat) (w : World) (hs : BytesOf w.heap.size w a n) (hc : n ≤ c) (hc2 : c ≤ 9223372036854775807) :
    Calls Try.prog 4 #[.slice a n c] w fun e w' => e = .returned (.bool true) ∧ Below w.heap.size w w' := by
  by_cases hn : n ≤ 1048576
  · have hnz : ¬ (1048576 : Int) < (n : Int) := by omega
    have HS := Lib.hid hs
    clear hs
    go_enter Try.func4, Try.ntmps4
    go_wp2_with fail
    refine (rdr_DrawMakeRat w.heap.size a n c w (Nat.le_refl _) HS.out hc hc2).mono ?_
    rintro e w1 ⟨x, y, rfl, ⟨lx, ux⟩, ⟨ly, uy⟩, b1⟩
    have s1 := b1.size
    try simp at s1
    cases hv : MkB x y with
    | false =>
      obtain ⟨N, eN⟩ : ∃ v, MkN x y = v := ⟨_, rfl⟩
      obtain ⟨D, eD⟩ : ∃ v, MkD x y = v := ⟨_, rfl⟩
      have K1 : Hid (∀ W : World, Calls Try.prog 19 #[.int .i64 x, .int .i64 y] W fun e w' => e = .returned (.tuple #[.agg #[.int .i64 N, .int .i64 D], .bool false]) ∧ Below W.heap.size W w') := Lib.hid fun W => by
        have h := impl_MakeRat (x) (y) W
        rw [eN, eD, hv] at h
        exact h
      have K2 : Hid (∀ W : World, Calls Try.prog 20 #[.int .i64 x, .int .i64 y] W fun e w' => e = .returned (.tuple #[.agg #[.int .i64 N, .int .i64 D], .bool false]) ∧ Below W.heap.size W w') := Lib.hid fun W => by
        have h := spec_MakeRat (x) (y) W
        rw [eN, eD, hv] at h
        exact h
      clear eN eD hv
      go_wp2_with fail
      refine (K1.out _).mono ?_
      rintro e w2 ⟨rfl, b2⟩
      have s2 := b2.size
      try simp at s2
      go_wp2_with fail
      refine (K2.out _).mono ?_
      rintro e w3 ⟨rfl, b3⟩
      have s3 := b3.size
      try simp at s3
      have z3_0 : w2.heap.size < w3.heap.size := by omega
      have k3_0_0 : w3.cell? ⟨w2.heap.size, 0, none⟩ = some (.int .i64 (N)) := (b3.cell (p := ⟨w2.heap.size, 0, none⟩) (by first | (simp; done) | (simp; omega) | omega)).trans (by first | with_reducible assumption | (simp [go_sem]; done) | (simp [go_sem, *]; done))
      have g3_0_0 : w3.frozen? ⟨w2.heap.size, 0, none⟩ = false := (b3.frozen (p := ⟨w2.heap.size, 0, none⟩) (by first | (simp; done) | (simp; omega) | omega)).trans (by first | with_reducible assumption | (simp [go_sem]; done) | (simp [go_sem, *]; done))
      have k3_0_1 : w3.cell? ⟨w2.heap.size, 1, none⟩ = some (.int .i64 (D)) := (b3.cell (p := ⟨w2.heap.size, 1, none⟩) (by first | (simp; done) | (simp; omega) | omega)).trans (by first | with_reducible assumption | (simp [go_sem]; done) | (simp [go_sem, *]; done))
      have g3_0_1 : w3.frozen? ⟨w2.heap.size, 1, none⟩ = false := (b3.frozen (p := ⟨w2.heap.size, 1, none⟩) (by first | (simp; done) | (simp; omega) | omega)).trans (by first | with_reducible assumption | (simp [go_sem]; done) | (simp [go_sem, *]; done))
      go_wp2
      go_ret
      exact ⟨rfl, (by (repeat (first | with_reducible exact Below.refl _ _ | with_reducible refine bl_alloc ?_ _ | with_reducible refine bl_drew ?_ | with_reducible refine bl_set ?_ (by first | (simp; done) | (simp; omega)) _ | with_reducible refine bl_call (by assumption) ?_)))⟩

    | true =>
      obtain ⟨h0, e1, e2, hr⟩ := MkB_t hv
      obtain ⟨f1, f2, f3⟩ := mk_flip x y
      rw [hv] at f3
      have hp := red_prop x y h0
      rw [← e1, ← e2] at hp
      obtain ⟨⟨_, _⟩, ⟨_, _⟩⟩ := ratB_true hr
      have hb : ∀ m : Int, (-m ≤ x ∧ x ≤ m) → -m ≤ MkN x y ∧ MkN x y ≤ m := fun m h => by rw [e1]; exact redN_bd x y m h
      clear e1 e2
      generalize eN : MkN x y = N at *
      generalize eD : MkD x y = D at *
      have K1 : Hid (∀ W : World, Calls Try.prog 19 #[.int .i64 x, .int .i64 y] W fun e w' => e = .returned (.tuple #[.agg #[.int .i64 N, .int .i64 D], .bool true]) ∧ Below W.heap.size W w') := Lib.hid fun W => by
        have h := impl_MakeRat (x) (y) W
        rw [eN, eD, hv] at h
        exact h
      have K2 : Hid (∀ W : World, Calls Try.prog 20 #[.int .i64 x, .int .i64 y] W fun e w' => e = .returned (.tuple #[.agg #[.int .i64 N, .int .i64 D], .bool true]) ∧ Below W.heap.size W w') := Lib.hid fun W => by
        have h := spec_MakeRat (x) (y) W
        rw [eN, eD, hv] at h
        exact h
      have K3 : Hid (∀ W : World, Calls Try.prog 19 #[.int .i64 (-x), .int .i64 (-y)] W fun e w' => e = .returned (.tuple #[.agg #[.int .i64 N, .int .i64 D], .bool true]) ∧ Below W.heap.size W w') := Lib.hid fun W => by
        have h := impl_MakeRat (-x) (-y) W
        rw [f1, f2, f3] at h
        exact h
      have K4 : Hid (∀ W : World, Calls Try.prog 21 #[.agg #[.int .i64 N, .int .i64 D]] W fun e w' => e = .returned (.bool true) ∧ Below W.heap.size W w') := Lib.hid fun W => by
        have h := impl_ValidRat (N) (D) W
        rw [hr] at h
        exact h
      clear eN eD hv f1 f2 f3 hr
      by_cases g1 : 1000000 < x
      ·
        clear hp hb
        go_wp2_with fail
        refine (K1.out _).mono ?_
        rintro e w2 ⟨rfl, b2⟩
        have s2 := b2.size
        try simp at s2
        go_wp2_with fail
        refine (K2.out _).mono ?_
        rintro e w3 ⟨rfl, b3⟩
        have s3 := b3.size
        try simp at s3
        have z3_0 : w2.heap.size < w3.heap.size := by omega
        have k3_0_0 : w3.cell? ⟨w2.heap.size, 0, none⟩ = some (.int .i64 (N)) := (b3.cell (p := ⟨w2.heap.size, 0, none⟩) (by first | (simp; done) | (simp; omega) | omega)).trans (by first | with_reducible assumption | (simp [go_sem]; done) | (simp [go_sem, *]; done))
        have g3_0_0 : w3.frozen? ⟨w2.heap.size, 0, none⟩ = false := (b3.frozen (p := ⟨w2.heap.size, 0, none⟩) (by first | (simp; done) | (simp; omega) | omega)).trans (by first | with_reducible assumption | (simp [go_sem]; done) | (simp [go_sem, *]; done))
        have k3_0_1 : w3.cell? ⟨w2.heap.size, 1, none⟩ = some (.int .i64 (D)) := (b3.cell (p := ⟨w2.heap.size, 1, none⟩) (by first | (simp; done) | (simp; omega) | omega)).trans (by first | with_reducible assumption | (simp [go_sem]; done) | (simp [go_sem, *]; done))
        have g3_0_1 : w3.frozen? ⟨w2.heap.size, 1, none⟩ = false := (b3.frozen (p := ⟨w2.heap.size, 1, none⟩) (by first | (simp; done) | (simp; omega) | omega)).trans (by first | with_reducible assumption | (simp [go_sem]; done) | (simp [go_sem, *]; done))
        go_wp2_with fail
        refine (K3.out _).mono ?_
        rintro e w4 ⟨rfl, b4⟩
        have s4 := b4.size
        try simp at s4
        have z4_0 : w2.heap.size < w4.heap.size := by omega
        have k4_0_0 : w4.cell? ⟨w2.heap.size, 0, none⟩ = some (.int .i64 (N)) := (b4.cell (p := ⟨w2.heap.size, 0, none⟩) (by first | (simp; done) | (simp; omega) | omega)).trans (by first | with_reducible assumption | (simp [go_sem]; done) | (simp [go_sem, *]; done))
        have g4_0_0 : w4.frozen? ⟨w2.heap.size, 0, none⟩ = false := (b4.frozen (p := ⟨w2.heap.size, 0, none⟩) (by first | (simp; done) | (simp; omega) | omega)).trans (by first | with_reducible assumption | (simp [go_sem]; done) | (simp [go_sem, *]; done))
        have k4_0_1 : w4.cell? ⟨w2.heap.size, 1, none⟩ = some (.int .i64 (D)) := (b4.cell (p := ⟨w2.heap.size, 1, none⟩) (by first | (simp; done) | (simp; omega) | omega)).trans (by first | with_reducible assumption | (simp [go_sem]; done) | (simp [go_sem, *]; done))
        have g4_0_1 : w4.frozen? ⟨w2.heap.size, 1, none⟩ = false := (b4.frozen (p := ⟨w2.heap.size, 1, none⟩) (by first | (simp; done) | (simp; omega) | omega)).trans (by first | with_reducible assumption | (simp [go_sem]; done) | (simp [go_sem, *]; done))
        have z4_1 : w3.heap.size < w4.heap.size := by omega
        have k4_1_0 : w4.cell? ⟨w3.heap.size, 0, none⟩ = some (.int .i64 (N)) := (b4.cell (p := ⟨w3.heap.size, 0, none⟩) (by first | (simp; done) | (simp; omega) | omega)).trans (by first | with_reducible assumption | (simp [go_sem]; done) | (simp [go_sem, *]; done))
        have g4_1_0 : w4.frozen? ⟨w3.heap.size, 0, none⟩ = false := (b4.frozen (p := ⟨w3.heap.size, 0, none⟩) (by first | (simp; done) | (simp; omega) | omega)).trans (by first | with_reducible assumption | (simp [go_sem]; done) | (simp [go_sem, *]; done))
        have k4_1_1 : w4.cell? ⟨w3.heap.size, 1, none⟩ = some (.int .i64 (D)) := (b4.cell (p := ⟨w3.heap.size, 1, none⟩) (by first | (simp; done) | (simp; omega) | omega)).trans (by first | with_reducible assumption | (simp [go_sem]; done) | (simp [go_sem, *]; done))
        have g4_1_1 : w4.frozen? ⟨w3.heap.size, 1, none⟩ = false := (b4.frozen (p := ⟨w3.heap.size, 1, none⟩) (by first | (simp; done) | (simp; omega) | omega)).trans (by first | with_reducible assumption | (simp [go_sem]; done) | (simp [go_sem, *]; done))
        clear k3_0_0 g3_0_0 k3_0_1 g3_0_1
        go_wp2_with fail
        refine (K4.out _).mono ?_
        rintro e w5 ⟨rfl, b5⟩
        have s5 := b5.size
        try simp at s5
        have z5_0 : w2.heap.size < w5.heap.size := by omega
        have k5_0_0 : w5.cell? ⟨w2.heap.size, 0, none⟩ = some (.int .i64 (N)) := (b5.cell (p := ⟨w2.heap.size, 0, none⟩) (by first | (simp; done) | (simp; omega) | omega)).trans (by first | with_reducible assumption | (simp [go_sem]; done) | (simp [go_sem, *]; done))
        have g5_0_0 : w5.frozen? ⟨w2.heap.size, 0, none⟩ = false := (b5.frozen (p := ⟨w2.heap.size, 0, none⟩) (by first | (simp; done) | (simp; omega) | omega)).trans (by first | with_reducible assumption | (simp [go_sem]; done) | (simp [go_sem, *]; done))
        have k5_0_1 : w5.cell? ⟨w2.heap.size, 1, none⟩ = some (.int .i64 (D)) := (b5.cell (p := ⟨w2.heap.size, 1, none⟩) (by first | (simp; done) | (simp; omega) | omega)).trans (by first | with_reducible assumption | (simp [go_sem]; done) | (simp [go_sem, *]; done))
        have g5_0_1 : w5.frozen? ⟨w2.heap.size, 1, none⟩ = false := (b5.frozen (p := ⟨w2.heap.size, 1, none⟩) (by first | (simp; done) | (simp; omega) | omega)).trans (by first | with_reducible assumption | (simp [go_sem]; done) | (simp [go_sem, *]; done))
        have z5_1 : w3.heap.size < w5.heap.size := by omega
        have k5_1_0 : w5.cell? ⟨w3.heap.size, 0, none⟩ = some (.int .i64 (N)) := (b5.cell (p := ⟨w3.heap.size, 0, none⟩) (by first | (simp; done) | (simp; omega) | omega)).trans (by first | with_reducible assumption | (simp [go_sem]; done) | (simp [go_sem, *]; done))
        have g5_1_0 : w5.frozen? ⟨w3.heap.size, 0, none⟩ = false := (b5.frozen (p := ⟨w3.heap.size, 0, none⟩) (by first | (simp; done) | (simp; omega) | omega)).trans (by first | with_reducible assumption | (simp [go_sem]; done) | (simp [go_sem, *]; done))
        have k5_1_1 : w5.cell? ⟨w3.heap.size, 1, none⟩ = some (.int .i64 (D)) := (b5.cell (p := ⟨w3.heap.size, 1, none⟩) (by first | (simp; done) | (simp; omega) | omega)).trans (by first | with_reducible assumption | (simp [go_sem]; done) | (simp [go_sem, *]; done))
        have g5_1_1 : w5.frozen? ⟨w3.heap.size, 1, none⟩ = false := (b5.frozen (p := ⟨w3.heap.size, 1, none⟩) (by first | (simp; done) | (simp; omega) | omega)).trans (by first | with_reducible assumption | (simp [go_sem]; done) | (simp [go_sem, *]; done))
        have z5_2 : w4.heap.size < w5.heap.size := by omega
        have k5_2_0 : w5.cell? ⟨w4.heap.size, 0, none⟩ = some (.int .i64 (N)) := (b5.cell (p := ⟨w4.heap.size, 0, none⟩) (by first | (simp; done) | (simp; omega) | omega)).trans (by first | with_reducible assumption | (simp [go_sem]; done) | (simp [go_sem, *]; done))
        have g5_2_0 : w5.frozen? ⟨w4.heap.size, 0, none⟩ = false := (b5.frozen (p := ⟨w4.heap.size, 0, none⟩) (by first | (simp; done) | (simp; omega) | omega)).trans (by first | with_reducible assumption | (simp [go_sem]; done) | (simp [go_sem, *]; done))
        have k5_2_1 : w5.cell? ⟨w4.heap.size, 1, none⟩ = some (.int .i64 (D)) := (b5.cell (p := ⟨w4.heap.size, 1, none⟩) (by first | (simp; done) | (simp; omega) | omega)).trans (by first | with_reducible assumption | (simp [go_sem]; done) | (simp [go_sem, *]; done))
        have g5_2_1 : w5.frozen? ⟨w4.heap.size, 1, none⟩ = false := (b5.frozen (p := ⟨w4.heap.size, 1, none⟩) (by first | (simp; done) | (simp; omega) | omega)).trans (by first | with_reducible assumption | (simp [go_sem]; done) | (simp [go_sem, *]; done))
        clear k4_0_0 g4_0_0 k4_0_1 g4_0_1 k4_1_0 g4_1_0 k4_1_1 g4_1_1
        go_wp2
        go_ret
        exact ⟨rfl, (by (repeat (first | with_reducible exact Below.refl _ _ | with_reducible refine bl_alloc ?_ _ | with_reducible refine bl_drew ?_ | with_reducible refine bl_set ?_ (by first | (simp; done) | (simp; omega)) _ | with_reducible refine bl_call (by assumption) ?_)))⟩
      · by_cases g2 : x < -1000000
        ·
          clear hp hb
          go_wp2_with fail
          refine (K1.out _).mono ?_
          rintro e w2 ⟨rfl, b2⟩
          have s2 := b2.size
          try simp at s2
          go_wp2_with fail
          refine (K2.out _).mono ?_
          rintro e w3 ⟨rfl, b3⟩
          have s3 := b3.size
          try simp at s3
          have z3_0 : w2.heap.size < w3.heap.size := by omega
          have k3_0_0 : w3.cell? ⟨w2.heap.size, 0, none⟩ = some (.int .i64 (N)) := (b3.cell (p := ⟨w2.heap.size, 0, none⟩) (by first | (simp; done) | (simp; omega) | omega)).trans (by first | with_reducible assumption | (simp [go_sem]; done) | (simp [go_sem, *]; done))
          have g3_0_0 : w3.frozen? ⟨w2.heap.size, 0, none⟩ = false := (b3.frozen (p := ⟨w2.heap.size, 0, none⟩) (by first | (simp; done) | (simp; omega) | omega)).trans (by first | with_reducible assumption | (simp [go_sem]; done) | (simp [go_sem, *]; done))
          have k3_0_1 : w3.cell? ⟨w2.heap.size, 1, none⟩ = some (.int .i64 (D)) := (b3.cell (p := ⟨w2.heap.size, 1, none⟩) (by first | (simp; done) | (simp; omega) | omega)).trans (by first | with_reducible assumption | (simp [go_sem]; done) | (simp [go_sem, *]; done))
          have g3_0_1 : w3.frozen? ⟨w2.heap.size, 1, none⟩ = false := (b3.frozen (p := ⟨w2.heap.size, 1, none⟩) (by first | (simp; done) | (simp; omega) | omega)).trans (by first | with_reducible assumption | (simp [go_sem]; done) | (simp [go_sem, *]; done))
          go_wp2_with fail
          refine (K3.out _).mono ?_
          rintro e w4 ⟨rfl, b4⟩
          have s4 := b4.size
          try simp at s4
          have z4_0 : w2.heap.size < w4.heap.size := by omega
          have k4_0_0 : w4.cell? ⟨w2.heap.size, 0, none⟩ = some (.int .i64 (N)) := (b4.cell (p := ⟨w2.heap.size, 0, none⟩) (by first | (simp; done) | (simp; omega) | omega)).trans (by first | with_reducible assumption | (simp [go_sem]; done) | (simp [go_sem, *]; done))
          have g4_0_0 : w4.frozen? ⟨w2.heap.size, 0, none⟩ = false := (b4.frozen (p := ⟨w2.heap.size, 0, none⟩) (by first | (simp; done) | (simp; omega) | omega)).trans (by first | with_reducible assumption | (simp [go_sem]; done) | (simp [go_sem, *]; done))
          have k4_0_1 : w4.cell? ⟨w2.heap.size, 1, none⟩ = some (.int .i64 (D)) := (b4.cell (p := ⟨w2.heap.size, 1, none⟩) (by first | (simp; done) | (simp; omega) | omega)).trans (by first | with_reducible assumption | (simp [go_sem]; done) | (simp [go_sem, *]; done))
          have g4_0_1 : w4.frozen? ⟨w2.heap.size, 1, none⟩ = false := (b4.frozen (p := ⟨w2.heap.size, 1, none⟩) (by first | (simp; done) | (simp; omega) | omega)).trans (by first | with_reducible assumption | (simp [go_sem]; done) | (simp [go_sem, *]; done))
          have z4_1 : w3.heap.size < w4.heap.size := by omega
          have k4_1_0 : w4.cell? ⟨w3.heap.size, 0, none⟩ = some (.int .i64 (N)) := (b4.cell (p := ⟨w3.heap.size, 0, none⟩) (by first | (simp; done) | (simp; omega) | omega)).trans (by first | with_reducible assumption | (simp [go_sem]; done) | (simp [go_sem, *]; done))
          have g4_1_0 : w4.frozen? ⟨w3.heap.size, 0, none⟩ = false := (b4.frozen (p := ⟨w3.heap.size, 0, none⟩) (by first | (simp; done) | (simp; omega) | omega)).trans (by first | with_reducible assumption | (simp [go_sem]; done) | (simp [go_sem, *]; done))
          have k4_1_1 : w4.cell? ⟨w3.heap.size, 1, none⟩ = some (.int .i64 (D)) := (b4.cell (p := ⟨w3.heap.size, 1, none⟩) (by first | (simp; done) | (simp; omega) | omega)).trans (by first | with_reducible assumption | (simp [go_sem]; done) | (simp [go_sem, *]; done))
          have g4_1_1 : w4.frozen? ⟨w3.heap.size, 1, none⟩ = false := (b4.frozen (p := ⟨w3.heap.size, 1, none⟩) (by first | (simp; done) | (simp; omega) | omega)).trans (by first | with_reducible assumption | (simp [go_sem]; done) | (simp [go_sem, *]; done))
          clear k3_0_0 g3_0_0 k3_0_1 g3_0_1
          go_wp2_with fail
          refine (K4.out _).mono ?_
          rintro e w5 ⟨rfl, b5⟩
          have s5 := b5.size
          try simp at s5
          have z5_0 : w2.heap.size < w5.heap.size := by omega
          have k5_0_0 : w5.cell? ⟨w2.heap.size, 0, none⟩ = some (.int .i64 (N)) := (b5.cell (p := ⟨w2.heap.size, 0, none⟩) (by first | (simp; done) | (simp; omega) | omega)).trans (by first | with_reducible assumption | (simp [go_sem]; done) | (simp [go_sem, *]; done))
          have g5_0_0 : w5.frozen? ⟨w2.heap.size, 0, none⟩ = false := (b5.frozen (p := ⟨w2.heap.size, 0, none⟩) (by first | (simp; done) | (simp; omega) | omega)).trans (by first | with_reducible assumption | (simp [go_sem]; done) | (simp [go_sem, *]; done))
          have k5_0_1 : w5.cell? ⟨w2.heap.size, 1, none⟩ = some (.int .i64 (D)) := (b5.cell (p := ⟨w2.heap.size, 1, none⟩) (by first | (simp; done) | (simp; omega) | omega)).trans (by first | with_reducible assumption | (simp [go_sem]; done) | (simp [go_sem, *]; done))
          have g5_0_1 : w5.frozen? ⟨w2.heap.size, 1, none⟩ = false := (b5.frozen (p := ⟨w2.heap.size, 1, none⟩) (by first | (simp; done) | (simp; omega) | omega)).trans (by first | with_reducible assumption | (simp [go_sem]; done) | (simp [go_sem, *]; done))
          have z5_1 : w3.heap.size < w5.heap.size := by omega
          have k5_1_0 : w5.cell? ⟨w3.heap.size, 0, none⟩ = some (.int .i64 (N)) := (b5.cell (p := ⟨w3.heap.size, 0, none⟩) (by first | (simp; done) | (simp; omega) | omega)).trans (by first | with_reducible assumption | (simp [go_sem]; done) | (simp [go_sem, *]; done))
          have g5_1_0 : w5.frozen? ⟨w3.heap.size, 0, none⟩ = false := (b5.frozen (p := ⟨w3.heap.size, 0, none⟩) (by first | (simp; done) | (simp; omega) | omega)).trans (by first | with_reducible assumption | (simp [go_sem]; done) | (simp [go_sem, *]; done))
          have k5_1_1 : w5.cell? ⟨w3.heap.size, 1, none⟩ = some (.int .i64 (D)) := (b5.cell (p := ⟨w3.heap.size, 1, none⟩) (by first | (simp; done) | (simp; omega) | omega)).trans (by first | with_reducible assumption | (simp [go_sem]; done) | (simp [go_sem, *]; done))
          have g5_1_1 : w5.frozen? ⟨w3.heap.size, 1, none⟩ = false := (b5.frozen (p := ⟨w3.heap.size, 1, none⟩) (by first | (simp; done) | (simp; omega) | omega)).trans (by first | with_reducible assumption | (simp [go_sem]; done) | (simp [go_sem, *]; done))
          have z5_2 : w4.heap.size < w5.heap.size := by omega
          have k5_2_0 : w5.cell? ⟨w4.heap.size, 0, none⟩ = some (.int .i64 (N)) := (b5.cell (p := ⟨w4.heap.size, 0, none⟩) (by first | (simp; done) | (simp; omega) | omega)).trans (by first | with_reducible assumption | (simp [go_sem]; done) | (simp [go_sem, *]; done))
          have g5_2_0 : w5.frozen? ⟨w4.heap.size, 0, none⟩ = false := (b5.frozen (p := ⟨w4.heap.size, 0, none⟩) (by first | (simp; done) | (simp; omega) | omega)).trans (by first | with_reducible assumption | (simp [go_sem]; done) | (simp [go_sem, *]; done))
          have k5_2_1 : w5.cell? ⟨w4.heap.size, 1, none⟩ = some (.int .i64 (D)) := (b5.cell (p := ⟨w4.heap.size, 1, none⟩) (by first | (simp; done) | (simp; omega) | omega)).trans (by first | with_reducible assumption | (simp [go_sem]; done) | (simp [go_sem, *]; done))
          have g5_2_1 : w5.frozen? ⟨w4.heap.size, 1, none⟩ = false := (b5.frozen (p := ⟨w4.heap.size, 1, none⟩) (by first | (simp; done) | (simp; omega) | omega)).trans (by first | with_reducible assumption | (simp [go_sem]; done) | (simp [go_sem, *]; done))
          clear k4_0_0 g4_0_0 k4_0_1 g4_0_1 k4_1_0 g4_1_0 k4_1_1 g4_1_1
          go_wp2
          go_ret
          exact ⟨rfl, (by (repeat (first | with_reducible exact Below.refl _ _ | with_reducible refine bl_alloc ?_ _ | with_reducible refine bl_drew ?_ | with_reducible refine bl_set ?_ (by first | (simp; done) | (simp; omega)) _ | with_reducible refine bl_call (by assumption) ?_)))⟩
        ·
          obtain ⟨_, _⟩ := hb 1000000 ⟨by omega, by omega⟩
          clear hb
          obtain ⟨_, _⟩ := mul_bd N y 1000000 40000000 (by omega) (by omega) (by omega) (by omega)
          obtain ⟨_, _⟩ := mul_bd x D 1000000 20000000 (by omega) (by omega) (by omega) (by omega)
          have iq : (N * y == x * D) = true := by simp [hp]
          clear hp
          go_wp2_with fail
          refine (K1.out _).mono ?_
          rintro e w2 ⟨rfl, b2⟩
          have s2 := b2.size
          try simp at s2
          go_wp2_with fail
          refine (K2.out _).mono ?_
          rintro e w3 ⟨rfl, b3⟩
          have s3 := b3.size
          try simp at s3
          have z3_0 : w2.heap.size < w3.heap.size := by omega
          have k3_0_0 : w3.cell? ⟨w2.heap.size, 0, none⟩ = some (.int .i64 (N)) := (b3.cell (p := ⟨w2.heap.size, 0, none⟩) (by first | (simp; done) | (simp; omega) | omega)).trans (by first | with_reducible assumption | (simp [go_sem]; done) | (simp [go_sem, *]; done))
          have g3_0_0 : w3.frozen? ⟨w2.heap.size, 0, none⟩ = false := (b3.frozen (p := ⟨w2.heap.size, 0, none⟩) (by first | (simp; done) | (simp; omega) | omega)).trans (by first | with_reducible assumption | (simp [go_sem]; done) | (simp [go_sem, *]; done))
          have k3_0_1 : w3.cell? ⟨w2.heap.size, 1, none⟩ = some (.int .i64 (D)) := (b3.cell (p := ⟨w2.heap.size, 1, none⟩) (by first | (simp; done) | (simp; omega) | omega)).trans (by first | with_reducible assumption | (simp [go_sem]; done) | (simp [go_sem, *]; done))
          have g3_0_1 : w3.frozen? ⟨w2.heap.size, 1, none⟩ = false := (b3.frozen (p := ⟨w2.heap.size, 1, none⟩) (by first | (simp; done) | (simp; omega) | omega)).trans (by first | with_reducible assumption | (simp [go_sem]; done) | (simp [go_sem, *]; done))
          go_wp2_with fail
          refine (K3.out _).mono ?_
          rintro e w4 ⟨rfl, b4⟩
          have s4 := b4.size
          try simp at s4
          have z4_0 : w2.heap.size < w4.heap.size := by omega
          have k4_0_0 : w4.cell? ⟨w2.heap.size, 0, none⟩ = some (.int .i64 (N)) := (b4.cell (p := ⟨w2.heap.size, 0, none⟩) (by first | (simp; done) | (simp; omega) | omega)).trans (by first | with_reducible assumption | (simp [go_sem]; done) | (simp [go_sem, *]; done))
          have g4_0_0 : w4.frozen? ⟨w2.heap.size, 0, none⟩ = false := (b4.frozen (p := ⟨w2.heap.size, 0, none⟩) (by first | (simp; done) | (simp; omega) | omega)).trans (by first | with_reducible assumption | (simp [go_sem]; done) | (simp [go_sem, *]; done))
          have k4_0_1 : w4.cell? ⟨w2.heap.size, 1, none⟩ = some (.int .i64 (D)) := (b4.cell (p := ⟨w2.heap.size, 1, none⟩) (by first | (simp; done) | (simp; omega) | omega)).trans (by first | with_reducible assumption | (simp [go_sem]; done) | (simp [go_sem, *]; done))
          have g4_0_1 : w4.frozen? ⟨w2.heap.size, 1, none⟩ = false := (b4.frozen (p := ⟨w2.heap.size, 1, none⟩) (by first | (simp; done) | (simp; omega) | omega)).trans (by first | with_reducible assumption | (simp [go_sem]; done) | (simp [go_sem, *]; done))
          have z4_1 : w3.heap.size < w4.heap.size := by omega
          have k4_1_0 : w4.cell? ⟨w3.heap.size, 0, none⟩ = some (.int .i64 (N)) := (b4.cell (p := ⟨w3.heap.size, 0, none⟩) (by first | (simp; done) | (simp; omega) | omega)).trans (by first | with_reducible assumption | (simp [go_sem]; done) | (simp [go_sem, *]; done))
          have g4_1_0 : w4.frozen? ⟨w3.heap.size, 0, none⟩ = false := (b4.frozen (p := ⟨w3.heap.size, 0, none⟩) (by first | (simp; done) | (simp; omega) | omega)).trans (by first | with_reducible assumption | (simp [go_sem]; done) | (simp [go_sem, *]; done))
          have k4_1_1 : w4.cell? ⟨w3.heap.size, 1, none⟩ = some (.int .i64 (D)) := (b4.cell (p := ⟨w3.heap.size, 1, none⟩) (by first | (simp; done) | (simp; omega) | omega)).trans (by first | with_reducible assumption | (simp [go_sem]; done) | (simp [go_sem, *]; done))
          have g4_1_1 : w4.frozen? ⟨w3.heap.size, 1, none⟩ = false := (b4.frozen (p := ⟨w3.heap.size, 1, none⟩) (by first | (simp; done) | (simp; omega) | omega)).trans (by first | with_reducible assumption | (simp [go_sem]; done) | (simp [go_sem, *]; done))
          clear k3_0_0 g3_0_0 k3_0_1 g3_0_1
          go_wp2_with fail
          refine (K4.out _).mono ?_
          rintro e w5 ⟨rfl, b5⟩
          have s5 := b5.size
          try simp at s5
          have z5_0 : w2.heap.size < w5.heap.size := by omega
          have k5_0_0 : w5.cell? ⟨w2.heap.size, 0, none⟩ = some (.int .i64 (N)) := (b5.cell (p := ⟨w2.heap.size, 0, none⟩) (by first | (simp; done) | (simp; omega) | omega)).trans (by first | with_reducible assumption | (simp [go_sem]; done) | (simp [go_sem, *]; done))
          have g5_0_0 : w5.frozen? ⟨w2.heap.size, 0, none⟩ = false := (b5.frozen (p := ⟨w2.heap.size, 0, none⟩) (by first | (simp; done) | (simp; omega) | omega)).trans (by first | with_reducible assumption | (simp [go_sem]; done) | (simp [go_sem, *]; done))
          have k5_0_1 : w5.cell? ⟨w2.heap.size, 1, none⟩ = some (.int .i64 (D)) := (b5.cell (p := ⟨w2.heap.size, 1, none⟩) (by first | (simp; done) | (simp; omega) | omega)).trans (by first | with_reducible assumption | (simp [go_sem]; done) | (simp [go_sem, *]; done))
          have g5_0_1 : w5.frozen? ⟨w2.heap.size, 1, none⟩ = false := (b5.frozen (p := ⟨w2.heap.size, 1, none⟩) (by first | (simp; done) | (simp; omega) | omega)).trans (by first | with_reducible assumption | (simp [go_sem]; done) | (simp [go_sem, *]; done))
          have z5_1 : w3.heap.size < w5.heap.size := by omega
          have k5_1_0 : w5.cell? ⟨w3.heap.size, 0, none⟩ = some (.int .i64 (N)) := (b5.cell (p := ⟨w3.heap.size, 0, none⟩) (by first | (simp; done) | (simp; omega) | omega)).trans (by first | with_reducible assumption | (simp [go_sem]; done) | (simp [go_sem, *]; done))
          have g5_1_0 : w5.frozen? ⟨w3.heap.size, 0, none⟩ = false := (b5.frozen (p := ⟨w3.heap.size, 0, none⟩) (by first | (simp; done) | (simp; omega) | omega)).trans (by first | with_reducible assumption | (simp [go_sem]; done) | (simp [go_sem, *]; done))
          have k5_1_1 : w5.cell? ⟨w3.heap.size, 1, none⟩ = some (.int .i64 (D)) := (b5.cell (p := ⟨w3.heap.size, 1, none⟩) (by first | (simp; done) | (simp; omega) | omega)).trans (by first | with_reducible assumption | (simp [go_sem]; done) | (simp [go_sem, *]; done))
          have g5_1_1 : w5.frozen? ⟨w3.heap.size, 1, none⟩ = false := (b5.frozen (p := ⟨w3.heap.size, 1, none⟩) (by first | (simp; done) | (simp; omega) | omega)).trans (by first | with_reducible assumption | (simp [go_sem]; done) | (simp [go_sem, *]; done))
          have z5_2 : w4.heap.size < w5.heap.size := by omega
          have k5_2_0 : w5.cell? ⟨w4.heap.size, 0, none⟩ = some (.int .i64 (N)) := (b5.cell (p := ⟨w4.heap.size, 0, none⟩) (by first | (simp; done) | (simp; omega) | omega)).trans (by first | with_reducible assumption | (simp [go_sem]; done) | (simp [go_sem, *]; done))
          have g5_2_0 : w5.frozen? ⟨w4.heap.size, 0, none⟩ = false := (b5.frozen (p := ⟨w4.heap.size, 0, none⟩) (by first | (simp; done) | (simp; omega) | omega)).trans (by first | with_reducible assumption | (simp [go_sem]; done) | (simp [go_sem, *]; done))
          have k5_2_1 : w5.cell? ⟨w4.heap.size, 1, none⟩ = some (.int .i64 (D)) := (b5.cell (p := ⟨w4.heap.size, 1, none⟩) (by first | (simp; done) | (simp; omega) | omega)).trans (by first | with_reducible assumption | (simp [go_sem]; done) | (simp [go_sem, *]; done))
          have g5_2_1 : w5.frozen? ⟨w4.heap.size, 1, none⟩ = false := (b5.frozen (p := ⟨w4.heap.size, 1, none⟩) (by first | (simp; done) | (simp; omega) | omega)).trans (by first | with_reducible assumption | (simp [go_sem]; done) | (simp [go_sem, *]; done))
          clear k4_0_0 g4_0_0 k4_0_1 g4_0_1 k4_1_0 g4_1_0 k4_1_1 g4_1_1
          go_wp2
          go_ret
          exact ⟨rfl, (by (repeat (first | with_reducible exact Below.refl _ _ | with_reducible refine bl_alloc ?_ _ | with_reducible refine bl_drew ?_ | with_reducible refine bl_set ?_ (by first | (simp; done) | (simp; omega)) _ | with_reducible refine bl_call (by assumption) ?_)))⟩

  · have hnz : (1048576 : Int) < (n : Int) := by omega
    go_enter Try.func4, Try.ntmps4
    go_wp2
    go_ret
    exact ⟨rfl, Below.refl _ _⟩

set_option maxRecDepth 100000 in
theorem lifted (os : Os) (started : os.Started) (H : Type) (enc : TypeId × Value → H) :
    ReturnsInHanded {} Try.checked os 4 .any (Rows.fnMakeRatSpec.pre6 enc Try.prog Try.f4 Rows.fnMakeRatRow.domain false) (Rows.fnMakeRatSpec.post enc Try.prog Try.f4 false true false false) := by
  refine returnsInHanded_of_change (C := Try.checked) own started (by kernel_rfl) Try.func4
    (ChangeSpec.witness6 (enc := enc) (C := Try.checked) false ⟨#[], #[.slice none 0 0], []⟩ 8 (by kernel_rfl) (by kernel_rfl) (by kernel_rfl) (by kernel_rfl)) ?_
  intro W base args ds gs before hval0 hW hcnd _
  have hval : ∀ (j : Nat) t v, Try.f4.params[j]? = some t → args[j]? = some v → Value.okWide Try.prog W .any base t v := hval0
  have hW' := hW
  obtain ⟨p, q, hA0, hV, rfl, hfz, hnd⟩ := hW
  have hA : DataW.TrodAll enc Try.prog W 0 (fun _ => true) true Try.f4.params.toList args.toList ds p := hA0
  rw [Try.params4] at hA hval
  obtain ⟨v0, vs0, d0, ds0, p0, q0, hargs, rfl, rfl, h0, r0⟩ := trodAll_cons hA
  obtain ⟨rfl, rfl, rfl⟩ := trodAll_nil r0
  obtain rfl : args = #[v0] := by cases args; simp_all
  obtain ⟨rfl, rfl⟩ := trodVars_none hV
  have k0 := h0
  have lt0 : ∀ x ∈ p0, x.block < W.heap.size := by obtain ⟨m, hm⟩ := k0; exact DataW.trod_lt m _ _ _ hm
  obtain ⟨a0, n0, c0, rfl⟩ := okWide_slice Try.underlying22 (hval 0 22 v0 rfl rfl)
  obtain ⟨hs0, hl0, hm0⟩ := open_bytes Try.underlying22 Try.underlying5 (by kernel_rfl) h0
  clear hA0 hval0
  refine (walk a0 n0 c0 W hs0 hl0 hm0).mono fun e W' ⟨he, bel⟩ => ?_
  subst he
  exact ⟨_, rfl, _, _, _, [], _, [], hW', trodAll_mk1 (shut_bool Try.underlying4 _), (trodAll_cons_mk (Below.trod laidOut (by kernel_rfl) (of_decide_eq_true (by kernel_rfl)) k0 bel lt0) trodAll_mk0), rfl, bel.frame _, fun h => by cases h⟩

theorem proved : Rows.FnMakeRatSaid :=
  OpenClaim.holds_of_wide 4 Try.f4 rfl rfl rfl rfl rfl rfl rfl ⟨rfl, rfl, rfl, rfl, rfl⟩ rfl rfl rfl rfl rfl (by kernel_rfl) Try.func4 (by kernel_rfl)
    (of_decide_eq_true (by kernel_rfl)) (by unfold Func.isWrapper; first | (rw [if_pos (by decide +kernel)]; kernel_rfl) | (rw [if_neg (by decide +kernel)]; exact ⟨rfl, rfl⟩))
    (fun os started H enc _ => lifted os started H enc)

end FnMakeRat

end Go.Proofs.Ytkhocfoggjdccaa
