/- FnManhattanTriangle returns true for every argument, and leaves its arguments as they were. No conditions. -/
import Derived.Test.YtnfefhphkjfhjaaFrame
import Derived.Test.YtnfefhphkjfhjaaRdr4
import Derived.Test.YtnfefhphkjfhjaaB1
import Derived.Test.YtnfefhphkjfhjaaPlainQ
namespace Go.Proofs.Ytnfefhphkjfhjaa
open Go.RowKit
set_option linter.unusedVariables false

open Go.ChangeShapes Go.WideShapes Go.ChangeAt
namespace FnManhattanTriangle

open Go.Sort
set_option maxRecDepth 100000 in
set_option maxHeartbeats 2000000 in
theorem walk (a : Option Addr) (n c : Nat) (a2 : Option Addr) (n2 c2 : Nat) (w : World) (hs : BytesOf w.heap.size w a n) (hc : n ≤ c) (hc2 : c ≤ 9223372036854775807) (hs2 : BytesOf w.heap.size w a2 n2) (hd : n2 ≤ c2) (hd2 : c2 ≤ 9223372036854775807) :
    Calls Try.prog 7 #[.slice a n c, .slice a2 n2 c2] w fun e w' => e = .returned (.bool true) ∧ Below w.heap.size w w' := by
  by_cases hn : n ≤ 1048576
  · have hnz : ¬ (1048576 : Int) < (n : Int) := by omega
    by_cases hn2 : n2 ≤ 1048576
    · have hnz2 : ¬ (1048576 : Int) < (n2 : Int) := by omega
      have HS := Lib.hid hs
      clear hs
      go_enter Try.func7, Try.ntmps7
      go_wp2_with fail
      refine (rdr_DrawManhattan w.heap.size a n c w (Nat.le_refl _) HS.out hc hc2).mono ?_
      rintro e w1 ⟨x1, x2, y1, y2, rfl, ⟨lx1, ux1⟩, ⟨lx2, ux2⟩, ⟨ly1, uy1⟩, ⟨ly2, uy2⟩, b1⟩
      have s1 := b1.size
      try simp at s1
      cases hv : v2B x1 x2 y1 y2 with
      | false =>
        have hO : ManF x1 x2 y1 y2 = -1 := by simp [ManF, hv]
        have K1 : Hid (∀ W : World, Calls Try.prog 25 #[.agg #[.int .i64 x1, .int .i64 x2], .agg #[.int .i64 y1, .int .i64 y2]] W fun e w' => e = .returned (.int .i64 (-1)) ∧ Below W.heap.size W w') := Lib.hid fun W => by
          have h := impl_Manhattan (x1) (x2) (y1) (y2) W
          rw [hO] at h
          exact h
        have K2 : Hid (∀ W : World, Calls Try.prog 26 #[.agg #[.int .i64 x1, .int .i64 x2], .agg #[.int .i64 y1, .int .i64 y2]] W fun e w' => e = .returned (.int .i64 (-1)) ∧ Below W.heap.size W w') := Lib.hid fun W => by
          have h := spec_Manhattan (x1) (x2) (y1) (y2) W
          rw [hO] at h
          exact h
        clear hO hv
        go_wp2_with fail
        refine (K1.out _).mono ?_
        rintro e w2 ⟨rfl, b2⟩
        have s2 := b2.size
        try simp at s2
        have z2_0 : w1.heap.size < w2.heap.size := by omega
        have k2_0_0 : w2.cell? ⟨w1.heap.size, 0, none⟩ = some (.int .i64 (x1)) := (b2.cell (p := ⟨w1.heap.size, 0, none⟩) (by first | (simp; done) | (simp; omega) | omega)).trans (by first | with_reducible assumption | (simp [go_sem]; done) | (simp [go_sem, *]; done))
        have g2_0_0 : w2.frozen? ⟨w1.heap.size, 0, none⟩ = false := (b2.frozen (p := ⟨w1.heap.size, 0, none⟩) (by first | (simp; done) | (simp; omega) | omega)).trans (by first | with_reducible assumption | (simp [go_sem]; done) | (simp [go_sem, *]; done))
        have k2_0_1 : w2.cell? ⟨w1.heap.size, 1, none⟩ = some (.int .i64 (x2)) := (b2.cell (p := ⟨w1.heap.size, 1, none⟩) (by first | (simp; done) | (simp; omega) | omega)).trans (by first | with_reducible assumption | (simp [go_sem]; done) | (simp [go_sem, *]; done))
        have g2_0_1 : w2.frozen? ⟨w1.heap.size, 1, none⟩ = false := (b2.frozen (p := ⟨w1.heap.size, 1, none⟩) (by first | (simp; done) | (simp; omega) | omega)).trans (by first | with_reducible assumption | (simp [go_sem]; done) | (simp [go_sem, *]; done))
        have z2_1 : w1.heap.size + 1 < w2.heap.size := by omega
        have k2_1_0 : w2.cell? ⟨w1.heap.size + 1, 0, none⟩ = some (.int .i64 (y1)) := (b2.cell (p := ⟨w1.heap.size + 1, 0, none⟩) (by first | (simp; done) | (simp; omega) | omega)).trans (by first | with_reducible assumption | (simp [go_sem]; done) | (simp [go_sem, *]; done))
        have g2_1_0 : w2.frozen? ⟨w1.heap.size + 1, 0, none⟩ = false := (b2.frozen (p := ⟨w1.heap.size + 1, 0, none⟩) (by first | (simp; done) | (simp; omega) | omega)).trans (by first | with_reducible assumption | (simp [go_sem]; done) | (simp [go_sem, *]; done))
        have k2_1_1 : w2.cell? ⟨w1.heap.size + 1, 1, none⟩ = some (.int .i64 (y2)) := (b2.cell (p := ⟨w1.heap.size + 1, 1, none⟩) (by first | (simp; done) | (simp; omega) | omega)).trans (by first | with_reducible assumption | (simp [go_sem]; done) | (simp [go_sem, *]; done))
        have g2_1_1 : w2.frozen? ⟨w1.heap.size + 1, 1, none⟩ = false := (b2.frozen (p := ⟨w1.heap.size + 1, 1, none⟩) (by first | (simp; done) | (simp; omega) | omega)).trans (by first | with_reducible assumption | (simp [go_sem]; done) | (simp [go_sem, *]; done))
        go_wp2_with fail
        refine (K2.out _).mono ?_
        rintro e w3 ⟨rfl, b3⟩
        have s3 := b3.size
        try simp at s3
        have z3_0 : w1.heap.size < w3.heap.size := by omega
        have k3_0_0 : w3.cell? ⟨w1.heap.size, 0, none⟩ = some (.int .i64 (x1)) := (b3.cell (p := ⟨w1.heap.size, 0, none⟩) (by first | (simp; done) | (simp; omega) | omega)).trans (by first | with_reducible assumption | (simp [go_sem]; done) | (simp [go_sem, *]; done))
        have g3_0_0 : w3.frozen? ⟨w1.heap.size, 0, none⟩ = false := (b3.frozen (p := ⟨w1.heap.size, 0, none⟩) (by first | (simp; done) | (simp; omega) | omega)).trans (by first | with_reducible assumption | (simp [go_sem]; done) | (simp [go_sem, *]; done))
        have k3_0_1 : w3.cell? ⟨w1.heap.size, 1, none⟩ = some (.int .i64 (x2)) := (b3.cell (p := ⟨w1.heap.size, 1, none⟩) (by first | (simp; done) | (simp; omega) | omega)).trans (by first | with_reducible assumption | (simp [go_sem]; done) | (simp [go_sem, *]; done))
        have g3_0_1 : w3.frozen? ⟨w1.heap.size, 1, none⟩ = false := (b3.frozen (p := ⟨w1.heap.size, 1, none⟩) (by first | (simp; done) | (simp; omega) | omega)).trans (by first | with_reducible assumption | (simp [go_sem]; done) | (simp [go_sem, *]; done))
        have z3_1 : w1.heap.size + 1 < w3.heap.size := by omega
        have k3_1_0 : w3.cell? ⟨w1.heap.size + 1, 0, none⟩ = some (.int .i64 (y1)) := (b3.cell (p := ⟨w1.heap.size + 1, 0, none⟩) (by first | (simp; done) | (simp; omega) | omega)).trans (by first | with_reducible assumption | (simp [go_sem]; done) | (simp [go_sem, *]; done))
        have g3_1_0 : w3.frozen? ⟨w1.heap.size + 1, 0, none⟩ = false := (b3.frozen (p := ⟨w1.heap.size + 1, 0, none⟩) (by first | (simp; done) | (simp; omega) | omega)).trans (by first | with_reducible assumption | (simp [go_sem]; done) | (simp [go_sem, *]; done))
        have k3_1_1 : w3.cell? ⟨w1.heap.size + 1, 1, none⟩ = some (.int .i64 (y2)) := (b3.cell (p := ⟨w1.heap.size + 1, 1, none⟩) (by first | (simp; done) | (simp; omega) | omega)).trans (by first | with_reducible assumption | (simp [go_sem]; done) | (simp [go_sem, *]; done))
        have g3_1_1 : w3.frozen? ⟨w1.heap.size + 1, 1, none⟩ = false := (b3.frozen (p := ⟨w1.heap.size + 1, 1, none⟩) (by first | (simp; done) | (simp; omega) | omega)).trans (by first | with_reducible assumption | (simp [go_sem]; done) | (simp [go_sem, *]; done))
        have z3_2 : w2.heap.size < w3.heap.size := by omega
        have k3_2_0 : w3.cell? ⟨w2.heap.size, 0, none⟩ = some (.int .i64 ((n2 : Int) % 40 - 20)) := (b3.cell (p := ⟨w2.heap.size, 0, none⟩) (by first | (simp; done) | (simp; omega) | omega)).trans (by first | with_reducible assumption | (simp [go_sem]; done) | (simp [go_sem, *]; done))
        have g3_2_0 : w3.frozen? ⟨w2.heap.size, 0, none⟩ = false := (b3.frozen (p := ⟨w2.heap.size, 0, none⟩) (by first | (simp; done) | (simp; omega) | omega)).trans (by first | with_reducible assumption | (simp [go_sem]; done) | (simp [go_sem, *]; done))
        have k3_2_1 : w3.cell? ⟨w2.heap.size, 1, none⟩ = some (.int .i64 ((n2 : Int) / 3 % 40 - 20)) := (b3.cell (p := ⟨w2.heap.size, 1, none⟩) (by first | (simp; done) | (simp; omega) | omega)).trans (by first | with_reducible assumption | (simp [go_sem]; done) | (simp [go_sem, *]; done))
        have g3_2_1 : w3.frozen? ⟨w2.heap.size, 1, none⟩ = false := (b3.frozen (p := ⟨w2.heap.size, 1, none⟩) (by first | (simp; done) | (simp; omega) | omega)).trans (by first | with_reducible assumption | (simp [go_sem]; done) | (simp [go_sem, *]; done))
        clear k2_0_0 g2_0_0 k2_0_1 g2_0_1 k2_1_0 g2_1_0 k2_1_1 g2_1_1
        go_wp2_with fail
        refine (K2.out _).mono ?_
        rintro e w4 ⟨rfl, b4⟩
        have s4 := b4.size
        try simp at s4
        have z4_0 : w1.heap.size < w4.heap.size := by omega
        have k4_0_0 : w4.cell? ⟨w1.heap.size, 0, none⟩ = some (.int .i64 (x1)) := (b4.cell (p := ⟨w1.heap.size, 0, none⟩) (by first | (simp; done) | (simp; omega) | omega)).trans (by first | with_reducible assumption | (simp [go_sem]; done) | (simp [go_sem, *]; done))
        have g4_0_0 : w4.frozen? ⟨w1.heap.size, 0, none⟩ = false := (b4.frozen (p := ⟨w1.heap.size, 0, none⟩) (by first | (simp; done) | (simp; omega) | omega)).trans (by first | with_reducible assumption | (simp [go_sem]; done) | (simp [go_sem, *]; done))
        have k4_0_1 : w4.cell? ⟨w1.heap.size, 1, none⟩ = some (.int .i64 (x2)) := (b4.cell (p := ⟨w1.heap.size, 1, none⟩) (by first | (simp; done) | (simp; omega) | omega)).trans (by first | with_reducible assumption | (simp [go_sem]; done) | (simp [go_sem, *]; done))
        have g4_0_1 : w4.frozen? ⟨w1.heap.size, 1, none⟩ = false := (b4.frozen (p := ⟨w1.heap.size, 1, none⟩) (by first | (simp; done) | (simp; omega) | omega)).trans (by first | with_reducible assumption | (simp [go_sem]; done) | (simp [go_sem, *]; done))
        have z4_1 : w1.heap.size + 1 < w4.heap.size := by omega
        have k4_1_0 : w4.cell? ⟨w1.heap.size + 1, 0, none⟩ = some (.int .i64 (y1)) := (b4.cell (p := ⟨w1.heap.size + 1, 0, none⟩) (by first | (simp; done) | (simp; omega) | omega)).trans (by first | with_reducible assumption | (simp [go_sem]; done) | (simp [go_sem, *]; done))
        have g4_1_0 : w4.frozen? ⟨w1.heap.size + 1, 0, none⟩ = false := (b4.frozen (p := ⟨w1.heap.size + 1, 0, none⟩) (by first | (simp; done) | (simp; omega) | omega)).trans (by first | with_reducible assumption | (simp [go_sem]; done) | (simp [go_sem, *]; done))
        have k4_1_1 : w4.cell? ⟨w1.heap.size + 1, 1, none⟩ = some (.int .i64 (y2)) := (b4.cell (p := ⟨w1.heap.size + 1, 1, none⟩) (by first | (simp; done) | (simp; omega) | omega)).trans (by first | with_reducible assumption | (simp [go_sem]; done) | (simp [go_sem, *]; done))
        have g4_1_1 : w4.frozen? ⟨w1.heap.size + 1, 1, none⟩ = false := (b4.frozen (p := ⟨w1.heap.size + 1, 1, none⟩) (by first | (simp; done) | (simp; omega) | omega)).trans (by first | with_reducible assumption | (simp [go_sem]; done) | (simp [go_sem, *]; done))
        have z4_2 : w2.heap.size < w4.heap.size := by omega
        have k4_2_0 : w4.cell? ⟨w2.heap.size, 0, none⟩ = some (.int .i64 ((n2 : Int) % 40 - 20)) := (b4.cell (p := ⟨w2.heap.size, 0, none⟩) (by first | (simp; done) | (simp; omega) | omega)).trans (by first | with_reducible assumption | (simp [go_sem]; done) | (simp [go_sem, *]; done))
        have g4_2_0 : w4.frozen? ⟨w2.heap.size, 0, none⟩ = false := (b4.frozen (p := ⟨w2.heap.size, 0, none⟩) (by first | (simp; done) | (simp; omega) | omega)).trans (by first | with_reducible assumption | (simp [go_sem]; done) | (simp [go_sem, *]; done))
        have k4_2_1 : w4.cell? ⟨w2.heap.size, 1, none⟩ = some (.int .i64 ((n2 : Int) / 3 % 40 - 20)) := (b4.cell (p := ⟨w2.heap.size, 1, none⟩) (by first | (simp; done) | (simp; omega) | omega)).trans (by first | with_reducible assumption | (simp [go_sem]; done) | (simp [go_sem, *]; done))
        have g4_2_1 : w4.frozen? ⟨w2.heap.size, 1, none⟩ = false := (b4.frozen (p := ⟨w2.heap.size, 1, none⟩) (by first | (simp; done) | (simp; omega) | omega)).trans (by first | with_reducible assumption | (simp [go_sem]; done) | (simp [go_sem, *]; done))
        clear k3_0_0 g3_0_0 k3_0_1 g3_0_1 k3_1_0 g3_1_0 k3_1_1 g3_1_1 k3_2_0 g3_2_0 k3_2_1 g3_2_1
        go_wp2
        go_ret
        exact ⟨rfl, (by (repeat (first | with_reducible exact Below.refl _ _ | with_reducible refine bl_alloc ?_ _ | with_reducible refine bl_drew ?_ | with_reducible refine bl_set ?_ (by first | (simp; done) | (simp; omega)) _ | with_reducible refine bl_call (by assumption) ?_)))⟩

      | true =>
        have hC : ptB ((n2 : Int) % 40 - 20) ((n2 : Int) / 3 % 40 - 20) = true := ptB_mk (by omega) (by omega) (by omega) (by omega)
        obtain ⟨hX, hY⟩ : ptB x1 x2 = true ∧ ptB y1 y2 = true := by simpa [v2B] using hv
        have v1 : v2B x1 x2 ((n2 : Int) % 40 - 20) ((n2 : Int) / 3 % 40 - 20) = true := by simp [v2B, hX, hC]
        have v2 : v2B ((n2 : Int) % 40 - 20) ((n2 : Int) / 3 % 40 - 20) y1 y2 = true := by simp [v2B, hY, hC]
        have e1 : ManF x1 x2 y1 y2 = manV x1 x2 y1 y2 := by simp [ManF, hv]
        have e2 : ManF x2 x1 y2 y1 = manV x1 x2 y1 y2 := by unfold ManF; rw [v2B_flip, if_pos hv, manV_flip]
        have e3 : ManF x1 x2 ((n2 : Int) % 40 - 20) ((n2 : Int) / 3 % 40 - 20) = manV x1 x2 ((n2 : Int) % 40 - 20) ((n2 : Int) / 3 % 40 - 20) := by simp [ManF, v1]
        have e4 : ManF ((n2 : Int) % 40 - 20) ((n2 : Int) / 3 % 40 - 20) y1 y2 = manV ((n2 : Int) % 40 - 20) ((n2 : Int) / 3 % 40 - 20) y1 y2 := by simp [ManF, v2]
        have hb := manV_bd x1 x2 y1 y2 hv
        have hU := manV_bd x1 x2 ((n2 : Int) % 40 - 20) ((n2 : Int) / 3 % 40 - 20) v1
        have hV := manV_bd ((n2 : Int) % 40 - 20) ((n2 : Int) / 3 % 40 - 20) y1 y2 v2
        have ht := manV_tri x1 x2 y1 y2 ((n2 : Int) % 40 - 20) ((n2 : Int) / 3 % 40 - 20)
        generalize manV x1 x2 ((n2 : Int) % 40 - 20) ((n2 : Int) / 3 % 40 - 20) = U at e3 hU ht
        generalize manV ((n2 : Int) % 40 - 20) ((n2 : Int) / 3 % 40 - 20) y1 y2 = V at e4 hV ht
        generalize manV x1 x2 y1 y2 = N at e1 e2 hb ht
        obtain ⟨lN, uN⟩ := hb
        obtain ⟨lU, uU⟩ := hU
        obtain ⟨lV, uV⟩ := hV
        have K1 : Hid (∀ W : World, Calls Try.prog 25 #[.agg #[.int .i64 x1, .int .i64 x2], .agg #[.int .i64 y1, .int .i64 y2]] W fun e w' => e = .returned (.int .i64 N) ∧ Below W.heap.size W w') := Lib.hid fun W => by
          have h := impl_Manhattan (x1) (x2) (y1) (y2) W
          rw [e1] at h
          exact h
        have K2 : Hid (∀ W : World, Calls Try.prog 26 #[.agg #[.int .i64 x1, .int .i64 x2], .agg #[.int .i64 y1, .int .i64 y2]] W fun e w' => e = .returned (.int .i64 N) ∧ Below W.heap.size W w') := Lib.hid fun W => by
          have h := spec_Manhattan (x1) (x2) (y1) (y2) W
          rw [e1] at h
          exact h
        have K3 : Hid (∀ W : World, Calls Try.prog 25 #[.agg #[.int .i64 x1, .int .i64 x2], .agg #[.int .i64 ((n2 : Int) % 40 - 20), .int .i64 ((n2 : Int) / 3 % 40 - 20)]] W fun e w' => e = .returned (.int .i64 U) ∧ Below W.heap.size W w') := Lib.hid fun W => by
          have h := impl_Manhattan (x1) (x2) ((n2 : Int) % 40 - 20) ((n2 : Int) / 3 % 40 - 20) W
          rw [e3] at h
          exact h
        have K4 : Hid (∀ W : World, Calls Try.prog 25 #[.agg #[.int .i64 ((n2 : Int) % 40 - 20), .int .i64 ((n2 : Int) / 3 % 40 - 20)], .agg #[.int .i64 y1, .int .i64 y2]] W fun e w' => e = .returned (.int .i64 V) ∧ Below W.heap.size W w') := Lib.hid fun W => by
          have h := impl_Manhattan ((n2 : Int) % 40 - 20) ((n2 : Int) / 3 % 40 - 20) (y1) (y2) W
          rw [e4] at h
          exact h
        have K5 : Hid (∀ W : World, Calls Try.prog 25 #[.agg #[.int .i64 x2, .int .i64 x1], .agg #[.int .i64 y2, .int .i64 y1]] W fun e w' => e = .returned (.int .i64 N) ∧ Below W.heap.size W w') := Lib.hid fun W => by
          have h := impl_Manhattan (x2) (x1) (y2) (y1) W
          rw [e2] at h
          exact h
        clear e1 e2 e3 e4 hC hX hY v1 v2 hv
        go_wp2_with fail
        refine (K1.out _).mono ?_
        rintro e w2 ⟨rfl, b2⟩
        have s2 := b2.size
        try simp at s2
        have z2_0 : w1.heap.size < w2.heap.size := by omega
        have k2_0_0 : w2.cell? ⟨w1.heap.size, 0, none⟩ = some (.int .i64 (x1)) := (b2.cell (p := ⟨w1.heap.size, 0, none⟩) (by first | (simp; done) | (simp; omega) | omega)).trans (by first | with_reducible assumption | (simp [go_sem]; done) | (simp [go_sem, *]; done))
        have g2_0_0 : w2.frozen? ⟨w1.heap.size, 0, none⟩ = false := (b2.frozen (p := ⟨w1.heap.size, 0, none⟩) (by first | (simp; done) | (simp; omega) | omega)).trans (by first | with_reducible assumption | (simp [go_sem]; done) | (simp [go_sem, *]; done))
        have k2_0_1 : w2.cell? ⟨w1.heap.size, 1, none⟩ = some (.int .i64 (x2)) := (b2.cell (p := ⟨w1.heap.size, 1, none⟩) (by first | (simp; done) | (simp; omega) | omega)).trans (by first | with_reducible assumption | (simp [go_sem]; done) | (simp [go_sem, *]; done))
        have g2_0_1 : w2.frozen? ⟨w1.heap.size, 1, none⟩ = false := (b2.frozen (p := ⟨w1.heap.size, 1, none⟩) (by first | (simp; done) | (simp; omega) | omega)).trans (by first | with_reducible assumption | (simp [go_sem]; done) | (simp [go_sem, *]; done))
        have z2_1 : w1.heap.size + 1 < w2.heap.size := by omega
        have k2_1_0 : w2.cell? ⟨w1.heap.size + 1, 0, none⟩ = some (.int .i64 (y1)) := (b2.cell (p := ⟨w1.heap.size + 1, 0, none⟩) (by first | (simp; done) | (simp; omega) | omega)).trans (by first | with_reducible assumption | (simp [go_sem]; done) | (simp [go_sem, *]; done))
        have g2_1_0 : w2.frozen? ⟨w1.heap.size + 1, 0, none⟩ = false := (b2.frozen (p := ⟨w1.heap.size + 1, 0, none⟩) (by first | (simp; done) | (simp; omega) | omega)).trans (by first | with_reducible assumption | (simp [go_sem]; done) | (simp [go_sem, *]; done))
        have k2_1_1 : w2.cell? ⟨w1.heap.size + 1, 1, none⟩ = some (.int .i64 (y2)) := (b2.cell (p := ⟨w1.heap.size + 1, 1, none⟩) (by first | (simp; done) | (simp; omega) | omega)).trans (by first | with_reducible assumption | (simp [go_sem]; done) | (simp [go_sem, *]; done))
        have g2_1_1 : w2.frozen? ⟨w1.heap.size + 1, 1, none⟩ = false := (b2.frozen (p := ⟨w1.heap.size + 1, 1, none⟩) (by first | (simp; done) | (simp; omega) | omega)).trans (by first | with_reducible assumption | (simp [go_sem]; done) | (simp [go_sem, *]; done))
        go_wp2_with fail
        refine (K2.out _).mono ?_
        rintro e w3 ⟨rfl, b3⟩
        have s3 := b3.size
        try simp at s3
        have z3_0 : w1.heap.size < w3.heap.size := by omega
        have k3_0_0 : w3.cell? ⟨w1.heap.size, 0, none⟩ = some (.int .i64 (x1)) := (b3.cell (p := ⟨w1.heap.size, 0, none⟩) (by first | (simp; done) | (simp; omega) | omega)).trans (by first | with_reducible assumption | (simp [go_sem]; done) | (simp [go_sem, *]; done))
        have g3_0_0 : w3.frozen? ⟨w1.heap.size, 0, none⟩ = false := (b3.frozen (p := ⟨w1.heap.size, 0, none⟩) (by first | (simp; done) | (simp; omega) | omega)).trans (by first | with_reducible assumption | (simp [go_sem]; done) | (simp [go_sem, *]; done))
        have k3_0_1 : w3.cell? ⟨w1.heap.size, 1, none⟩ = some (.int .i64 (x2)) := (b3.cell (p := ⟨w1.heap.size, 1, none⟩) (by first | (simp; done) | (simp; omega) | omega)).trans (by first | with_reducible assumption | (simp [go_sem]; done) | (simp [go_sem, *]; done))
        have g3_0_1 : w3.frozen? ⟨w1.heap.size, 1, none⟩ = false := (b3.frozen (p := ⟨w1.heap.size, 1, none⟩) (by first | (simp; done) | (simp; omega) | omega)).trans (by first | with_reducible assumption | (simp [go_sem]; done) | (simp [go_sem, *]; done))
        have z3_1 : w1.heap.size + 1 < w3.heap.size := by omega
        have k3_1_0 : w3.cell? ⟨w1.heap.size + 1, 0, none⟩ = some (.int .i64 (y1)) := (b3.cell (p := ⟨w1.heap.size + 1, 0, none⟩) (by first | (simp; done) | (simp; omega) | omega)).trans (by first | with_reducible assumption | (simp [go_sem]; done) | (simp [go_sem, *]; done))
        have g3_1_0 : w3.frozen? ⟨w1.heap.size + 1, 0, none⟩ = false := (b3.frozen (p := ⟨w1.heap.size + 1, 0, none⟩) (by first | (simp; done) | (simp; omega) | omega)).trans (by first | with_reducible assumption | (simp [go_sem]; done) | (simp [go_sem, *]; done))
        have k3_1_1 : w3.cell? ⟨w1.heap.size + 1, 1, none⟩ = some (.int .i64 (y2)) := (b3.cell (p := ⟨w1.heap.size + 1, 1, none⟩) (by first | (simp; done) | (simp; omega) | omega)).trans (by first | with_reducible assumption | (simp [go_sem]; done) | (simp [go_sem, *]; done))
        have g3_1_1 : w3.frozen? ⟨w1.heap.size + 1, 1, none⟩ = false := (b3.frozen (p := ⟨w1.heap.size + 1, 1, none⟩) (by first | (simp; done) | (simp; omega) | omega)).trans (by first | with_reducible assumption | (simp [go_sem]; done) | (simp [go_sem, *]; done))
        have z3_2 : w2.heap.size < w3.heap.size := by omega
        have k3_2_0 : w3.cell? ⟨w2.heap.size, 0, none⟩ = some (.int .i64 ((n2 : Int) % 40 - 20)) := (b3.cell (p := ⟨w2.heap.size, 0, none⟩) (by first | (simp; done) | (simp; omega) | omega)).trans (by first | with_reducible assumption | (simp [go_sem]; done) | (simp [go_sem, *]; done))
        have g3_2_0 : w3.frozen? ⟨w2.heap.size, 0, none⟩ = false := (b3.frozen (p := ⟨w2.heap.size, 0, none⟩) (by first | (simp; done) | (simp; omega) | omega)).trans (by first | with_reducible assumption | (simp [go_sem]; done) | (simp [go_sem, *]; done))
        have k3_2_1 : w3.cell? ⟨w2.heap.size, 1, none⟩ = some (.int .i64 ((n2 : Int) / 3 % 40 - 20)) := (b3.cell (p := ⟨w2.heap.size, 1, none⟩) (by first | (simp; done) | (simp; omega) | omega)).trans (by first | with_reducible assumption | (simp [go_sem]; done) | (simp [go_sem, *]; done))
        have g3_2_1 : w3.frozen? ⟨w2.heap.size, 1, none⟩ = false := (b3.frozen (p := ⟨w2.heap.size, 1, none⟩) (by first | (simp; done) | (simp; omega) | omega)).trans (by first | with_reducible assumption | (simp [go_sem]; done) | (simp [go_sem, *]; done))
        clear k2_0_0 g2_0_0 k2_0_1 g2_0_1 k2_1_0 g2_1_0 k2_1_1 g2_1_1
        go_wp2
        have wU : IntKind.i64.wrap (U + V) = U + V := IntWalk.i64_in _ (by omega)
        go_wp2
        have kc0 := cell_regrown (w := w3) (a := ⟨w1.heap.size, 0, none⟩) (v := .int .i64 (x1)) (by first | ((repeat (first | with_reducible assumption | with_reducible refine calloc ?_ _)); done) | (simp [go_sem]; done) | (simp [go_sem, *]; done))
        have kc1 := cell_regrown (w := w3) (a := ⟨w1.heap.size, 1, none⟩) (v := .int .i64 (x2)) (by first | ((repeat (first | with_reducible assumption | with_reducible refine calloc ?_ _)); done) | (simp [go_sem]; done) | (simp [go_sem, *]; done))
        have kc2 := cell_regrown (w := w3) (a := ⟨w1.heap.size + 1, 0, none⟩) (v := .int .i64 (y1)) (by first | ((repeat (first | with_reducible assumption | with_reducible refine calloc ?_ _)); done) | (simp [go_sem]; done) | (simp [go_sem, *]; done))
        have kc3 := cell_regrown (w := w3) (a := ⟨w1.heap.size + 1, 1, none⟩) (v := .int .i64 (y2)) (by first | ((repeat (first | with_reducible assumption | with_reducible refine calloc ?_ _)); done) | (simp [go_sem]; done) | (simp [go_sem, *]; done))
        have kc4 := cell_regrown (w := w3) (a := ⟨w2.heap.size, 0, none⟩) (v := .int .i64 ((n2 : Int) % 40 - 20)) (by first | ((repeat (first | with_reducible assumption | with_reducible refine calloc ?_ _)); done) | (simp [go_sem]; done) | (simp [go_sem, *]; done))
        have kc5 := cell_regrown (w := w3) (a := ⟨w2.heap.size, 1, none⟩) (v := .int .i64 ((n2 : Int) / 3 % 40 - 20)) (by first | ((repeat (first | with_reducible assumption | with_reducible refine calloc ?_ _)); done) | (simp [go_sem]; done) | (simp [go_sem, *]; done))
        refine wp_region_quiet_below (by kernel_rfl) (by kernel_rfl) ?_
        repeat (go_big_quiet_step ((first | (go_at_call 25; with_reducible exact Calls.regrown_of (K3.out _)) | (go_at_call 25; with_reducible exact Calls.regrown_of (K4.out _)) | (go_at_call 25; with_reducible exact Calls.regrown_of (K5.out _)))))
        refine wpQuiet_nil ?_
        intro w4 hw'
        have b4 : Below w3.heap.size w3 w4 := by
          obtain ⟨pp, rfl⟩ := hw'
          exact below_regrown _ _ _
        clear hw' kc0 kc1 kc2 kc3 kc4 kc5
        have s4 := b4.size
        try simp at s4
        have z4_0 : w1.heap.size < w4.heap.size := by omega
        have k4_0_0 : w4.cell? ⟨w1.heap.size, 0, none⟩ = some (.int .i64 (x1)) := (b4.cell (p := ⟨w1.heap.size, 0, none⟩) (by first | (simp; done) | (simp; omega) | omega)).trans (by first | with_reducible assumption | (simp [go_sem]; done) | (simp [go_sem, *]; done))
        have g4_0_0 : w4.frozen? ⟨w1.heap.size, 0, none⟩ = false := (b4.frozen (p := ⟨w1.heap.size, 0, none⟩) (by first | (simp; done) | (simp; omega) | omega)).trans (by first | with_reducible assumption | (simp [go_sem]; done) | (simp [go_sem, *]; done))
        have k4_0_1 : w4.cell? ⟨w1.heap.size, 1, none⟩ = some (.int .i64 (x2)) := (b4.cell (p := ⟨w1.heap.size, 1, none⟩) (by first | (simp; done) | (simp; omega) | omega)).trans (by first | with_reducible assumption | (simp [go_sem]; done) | (simp [go_sem, *]; done))
        have g4_0_1 : w4.frozen? ⟨w1.heap.size, 1, none⟩ = false := (b4.frozen (p := ⟨w1.heap.size, 1, none⟩) (by first | (simp; done) | (simp; omega) | omega)).trans (by first | with_reducible assumption | (simp [go_sem]; done) | (simp [go_sem, *]; done))
        have z4_1 : w1.heap.size + 1 < w4.heap.size := by omega
        have k4_1_0 : w4.cell? ⟨w1.heap.size + 1, 0, none⟩ = some (.int .i64 (y1)) := (b4.cell (p := ⟨w1.heap.size + 1, 0, none⟩) (by first | (simp; done) | (simp; omega) | omega)).trans (by first | with_reducible assumption | (simp [go_sem]; done) | (simp [go_sem, *]; done))
        have g4_1_0 : w4.frozen? ⟨w1.heap.size + 1, 0, none⟩ = false := (b4.frozen (p := ⟨w1.heap.size + 1, 0, none⟩) (by first | (simp; done) | (simp; omega) | omega)).trans (by first | with_reducible assumption | (simp [go_sem]; done) | (simp [go_sem, *]; done))
        have k4_1_1 : w4.cell? ⟨w1.heap.size + 1, 1, none⟩ = some (.int .i64 (y2)) := (b4.cell (p := ⟨w1.heap.size + 1, 1, none⟩) (by first | (simp; done) | (simp; omega) | omega)).trans (by first | with_reducible assumption | (simp [go_sem]; done) | (simp [go_sem, *]; done))
        have g4_1_1 : w4.frozen? ⟨w1.heap.size + 1, 1, none⟩ = false := (b4.frozen (p := ⟨w1.heap.size + 1, 1, none⟩) (by first | (simp; done) | (simp; omega) | omega)).trans (by first | with_reducible assumption | (simp [go_sem]; done) | (simp [go_sem, *]; done))
        have z4_2 : w2.heap.size < w4.heap.size := by omega
        have k4_2_0 : w4.cell? ⟨w2.heap.size, 0, none⟩ = some (.int .i64 ((n2 : Int) % 40 - 20)) := (b4.cell (p := ⟨w2.heap.size, 0, none⟩) (by first | (simp; done) | (simp; omega) | omega)).trans (by first | with_reducible assumption | (simp [go_sem]; done) | (simp [go_sem, *]; done))
        have g4_2_0 : w4.frozen? ⟨w2.heap.size, 0, none⟩ = false := (b4.frozen (p := ⟨w2.heap.size, 0, none⟩) (by first | (simp; done) | (simp; omega) | omega)).trans (by first | with_reducible assumption | (simp [go_sem]; done) | (simp [go_sem, *]; done))
        have k4_2_1 : w4.cell? ⟨w2.heap.size, 1, none⟩ = some (.int .i64 ((n2 : Int) / 3 % 40 - 20)) := (b4.cell (p := ⟨w2.heap.size, 1, none⟩) (by first | (simp; done) | (simp; omega) | omega)).trans (by first | with_reducible assumption | (simp [go_sem]; done) | (simp [go_sem, *]; done))
        have g4_2_1 : w4.frozen? ⟨w2.heap.size, 1, none⟩ = false := (b4.frozen (p := ⟨w2.heap.size, 1, none⟩) (by first | (simp; done) | (simp; omega) | omega)).trans (by first | with_reducible assumption | (simp [go_sem]; done) | (simp [go_sem, *]; done))
        clear k3_0_0 g3_0_0 k3_0_1 g3_0_1 k3_1_0 g3_1_0 k3_1_1 g3_1_1 k3_2_0 g3_2_0 k3_2_1 g3_2_1
        clear wU
        go_wp2
        go_ret
        exact ⟨rfl, (by (repeat (first | with_reducible exact Below.refl _ _ | with_reducible refine bl_alloc ?_ _ | with_reducible refine bl_drew ?_ | with_reducible refine bl_set ?_ (by first | (simp; done) | (simp; omega)) _ | with_reducible refine bl_call (by assumption) ?_)))⟩

    · have hnz2 : (1048576 : Int) < (n2 : Int) := by omega
      go_enter Try.func7, Try.ntmps7
      go_wp2
      go_ret
      exact ⟨rfl, Below.refl _ _⟩

  · have hnz : (1048576 : Int) < (n : Int) := by omega
    go_enter Try.func7, Try.ntmps7
    go_wp2
    go_ret
    exact ⟨rfl, Below.refl _ _⟩

set_option maxRecDepth 100000 in
theorem lifted (os : Os) (started : os.Started) (H : Type) (enc : TypeId × Value → H) :
    ReturnsInHanded {} Try.checked os 7 .any (Rows.fnManhattanTriangleSpec.pre6 enc Try.prog Try.f7 Rows.fnManhattanTriangleRow.domain false) (Rows.fnManhattanTriangleSpec.post enc Try.prog Try.f7 false true false false) := by
  refine returnsInHanded_of_change (C := Try.checked) own started (by kernel_rfl) Try.func7
    (ChangeSpec.witness6 (enc := enc) (C := Try.checked) false ⟨#[], #[.slice none 0 0, .slice none 0 0], []⟩ 8 (by kernel_rfl) (by kernel_rfl) (by kernel_rfl) (by kernel_rfl)) ?_
  intro W base args ds gs before hval0 hW hcnd _
  have hval : ∀ (j : Nat) t v, Try.f7.params[j]? = some t → args[j]? = some v → Value.okWide Try.prog W .any base t v := hval0
  have hW' := hW
  obtain ⟨p, q, hA0, hV, rfl, hfz, hnd⟩ := hW
  have hA : DataW.TrodAll enc Try.prog W 0 (fun _ => true) true Try.f7.params.toList args.toList ds p := hA0
  rw [Try.params7] at hA hval
  obtain ⟨v0, vs0, d0, ds0, p0, q0, hargs, rfl, rfl, h0, r0⟩ := trodAll_cons hA
  obtain ⟨v1, vs1, d1, ds1, p1, q1, rfl, rfl, rfl, h1, r1⟩ := trodAll_cons r0
  obtain ⟨rfl, rfl, rfl⟩ := trodAll_nil r1
  obtain rfl : args = #[v0, v1] := by cases args; simp_all
  obtain ⟨rfl, rfl⟩ := trodVars_none hV
  have k0 := h0
  have lt0 : ∀ x ∈ p0, x.block < W.heap.size := by obtain ⟨m, hm⟩ := k0; exact DataW.trod_lt m _ _ _ hm
  obtain ⟨a0, n0, c0, rfl⟩ := okWide_slice Try.underlying22 (hval 0 22 v0 rfl rfl)
  obtain ⟨hs0, hl0, hm0⟩ := open_bytes Try.underlying22 Try.underlying5 (by kernel_rfl) h0
  have k1 := h1
  have lt1 : ∀ x ∈ p1, x.block < W.heap.size := by obtain ⟨m, hm⟩ := k1; exact DataW.trod_lt m _ _ _ hm
  obtain ⟨a1, n1, c1, rfl⟩ := okWide_slice Try.underlying22 (hval 1 22 v1 rfl rfl)
  obtain ⟨hs1, hl1, hm1⟩ := open_bytes Try.underlying22 Try.underlying5 (by kernel_rfl) h1
  clear hA0 hval0
  refine (walk a0 n0 c0 a1 n1 c1 W hs0 hl0 hm0 hs1 hl1 hm1).mono fun e W' ⟨he, bel⟩ => ?_
  subst he
  exact ⟨_, rfl, _, _, _, [], _, [], hW', trodAll_mk1 (shut_bool Try.underlying4 _), (trodAll_cons_mk (Below.trod laidOut (by kernel_rfl) (of_decide_eq_true (by kernel_rfl)) k0 bel lt0) (trodAll_cons_mk (Below.trod laidOut (by kernel_rfl) (of_decide_eq_true (by kernel_rfl)) k1 bel lt1) trodAll_mk0)), rfl, bel.frame _, fun h => by cases h⟩

theorem proved : Rows.FnManhattanTriangleSaid :=
  OpenClaim.holds_of_wide 7 Try.f7 rfl rfl rfl rfl rfl rfl rfl ⟨rfl, rfl, rfl, rfl, rfl⟩ rfl rfl rfl rfl rfl (by kernel_rfl) Try.func7 (by kernel_rfl)
    (of_decide_eq_true (by kernel_rfl)) (by unfold Func.isWrapper; first | (rw [if_pos (by decide +kernel)]; kernel_rfl) | (rw [if_neg (by decide +kernel)]; exact ⟨rfl, rfl⟩))
    (fun os started H enc _ => lifted os started H enc)

end FnManhattanTriangle

end Go.Proofs.Ytnfefhphkjfhjaa
