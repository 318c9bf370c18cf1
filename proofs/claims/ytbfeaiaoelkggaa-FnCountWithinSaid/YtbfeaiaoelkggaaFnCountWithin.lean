/- FnCountWithin returns true for every argument, and leaves its arguments as they were. No conditions. -/
import Derived.Test.YtbfeaiaoelkggaaFrame
import Derived.Test.YtbfeaiaoelkggaaFrameB
import Derived.Test.YtbfeaiaoelkggaaRdrL3
import Derived.Test.YtbfeaiaoelkggaaLiC
import Derived.Test.YtbfeaiaoelkggaaPlainQ9
namespace Go.Proofs.Ytbfeaiaoelkggaa
open Go.RowKit
set_option linter.unusedVariables false

open Go.ChangeShapes Go.WideShapes Go.ChangeAt
namespace FnCountWithin

open Go.Sort
set_option maxRecDepth 100000 in
set_option maxHeartbeats 8000000 in
theorem walk (a : Option Addr) (n c : Nat) (a2 : Option Addr) (n2 c2 : Nat) (w : World) (hs : BytesOf w.heap.size w a n) (hc : n ≤ c) (hc2 : c ≤ 9223372036854775807) (hs2 : BytesOf w.heap.size w a2 n2) (hd : n2 ≤ c2) (hd2 : c2 ≤ 9223372036854775807) :
    Calls Try.prog 5 #[.slice a n c, .slice a2 n2 c2] w fun e w' => e = .returned (.bool true) ∧ Below w.heap.size w w' := by
  by_cases hn : n ≤ 1048576
  · have hnz : ¬ (1048576 : Int) < (n : Int) := by omega
    by_cases hn2 : n2 ≤ 1048576
    · have hnz2 : ¬ (1048576 : Int) < (n2 : Int) := by omega
      have HS := Lib.hid hs
      clear hs
      go_enter Try.func5, Try.ntmps5
      go_wp2_with fail
      refine (rdr_DrawCountWithin w.heap.size a n c w (Nat.le_refl _) HS.out hc hc2).mono ?_
      rintro e w1 ⟨gl, cap, zs, x, y, m, rfl, ⟨lx, ux⟩, ⟨ly, uy⟩, ⟨lm, um⟩, hgl, hrow, hlen, b1⟩
      have s1 := b1.size
      try simp at s1
      have HROW := Lib.hid hrow
      clear hrow
      cases hv : (listB zs && ptB x y) with
      | false =>
        have K1 : Hid (∀ W : World, gl < W.heap.size → rowOfPoint W gl 0 zs → Calls Try.prog 17 #[.slice (some ⟨gl, 0, none⟩) zs.length cap, .agg #[.int .i64 x, .int .i64 y], .int .i64 (m)] W fun e w' => e = .returned (.int .i64 (-1)) ∧ Below W.heap.size W w') := Lib.hid fun W lt row => by
          have h := impl_CountWithin gl 0 zs.length cap zs x y (m) W (by omega) rfl lt row
          rw [cwV_no hv] at h
          exact h
        have K2 : Hid (∀ W : World, gl < W.heap.size → rowOfPoint W gl 0 zs → Calls Try.prog 18 #[.slice (some ⟨gl, 0, none⟩) zs.length cap, .agg #[.int .i64 x, .int .i64 y], .int .i64 (m)] W fun e w' => e = .returned (.int .i64 (-1)) ∧ Below W.heap.size W w') := Lib.hid fun W lt row => by
          have h := spec_CountWithin gl 0 zs.length cap zs x y (m) W (by omega) rfl lt row
          rw [cwV_no hv] at h
          exact h
        clear hv
        go_wp2_with fail
        refine (K1.out (w1.alloc (Obj.cells #[.int .i64 (x), .int .i64 (y)] 30)) (by first | omega | (simp; omega)) (row_belowPoint HROW.out hgl (by (repeat (first | with_reducible exact Below.refl _ _ | with_reducible refine bl_alloc ?_ _ | with_reducible refine bl_drew ?_ | with_reducible refine bl_set ?_ (by first | (simp; done) | (simp; omega)) _ | with_reducible refine bl_call (by assumption) ?_))))).mono ?_
        rintro e w2 ⟨rfl, b2⟩
        have HROW2 := Lib.hid (row_belowPoint (row_belowPoint HROW.out hgl (show Below _ _ (w1.alloc (Obj.cells #[.int .i64 (x), .int .i64 (y)] 30)) from (by (repeat (first | with_reducible exact Below.refl _ _ | with_reducible refine bl_alloc ?_ _ | with_reducible refine bl_drew ?_ | with_reducible refine bl_set ?_ (by first | (simp; done) | (simp; omega)) _ | with_reducible refine bl_call (by assumption) ?_))))) (by first | omega | (simp; omega)) b2)
        have s2 := b2.size
        try simp at s2
        have z2_0 : w1.heap.size < w2.heap.size := by omega
        have k2_0_0 : w2.cell? ⟨w1.heap.size, 0, none⟩ = some (.int .i64 (x)) := (b2.cell (p := ⟨w1.heap.size, 0, none⟩) (by first | (simp; done) | (simp; omega) | omega)).trans (by first | with_reducible assumption | (simp [go_sem]; done) | (simp [go_sem, *]; done))
        have g2_0_0 : w2.frozen? ⟨w1.heap.size, 0, none⟩ = false := (b2.frozen (p := ⟨w1.heap.size, 0, none⟩) (by first | (simp; done) | (simp; omega) | omega)).trans (by first | with_reducible assumption | (simp [go_sem]; done) | (simp [go_sem, *]; done))
        have k2_0_1 : w2.cell? ⟨w1.heap.size, 1, none⟩ = some (.int .i64 (y)) := (b2.cell (p := ⟨w1.heap.size, 1, none⟩) (by first | (simp; done) | (simp; omega) | omega)).trans (by first | with_reducible assumption | (simp [go_sem]; done) | (simp [go_sem, *]; done))
        have g2_0_1 : w2.frozen? ⟨w1.heap.size, 1, none⟩ = false := (b2.frozen (p := ⟨w1.heap.size, 1, none⟩) (by first | (simp; done) | (simp; omega) | omega)).trans (by first | with_reducible assumption | (simp [go_sem]; done) | (simp [go_sem, *]; done))
        have hgl2 : gl < w2.heap.size := by omega
        go_wp2_with fail
        refine (K2.out w2 (by first | omega | (simp; omega)) (row_belowPoint HROW2.out hgl2 (by (repeat (first | with_reducible exact Below.refl _ _ | with_reducible refine bl_alloc ?_ _ | with_reducible refine bl_drew ?_ | with_reducible refine bl_set ?_ (by first | (simp; done) | (simp; omega)) _ | with_reducible refine bl_call (by assumption) ?_))))).mono ?_
        rintro e w3 ⟨rfl, b3⟩
        have HROW3 := Lib.hid (row_belowPoint (row_belowPoint HROW2.out hgl2 (show Below _ _ w2 from (by (repeat (first | with_reducible exact Below.refl _ _ | with_reducible refine bl_alloc ?_ _ | with_reducible refine bl_drew ?_ | with_reducible refine bl_set ?_ (by first | (simp; done) | (simp; omega)) _ | with_reducible refine bl_call (by assumption) ?_))))) (by first | omega | (simp; omega)) b3)
        have s3 := b3.size
        try simp at s3
        have z3_0 : w1.heap.size < w3.heap.size := by omega
        have k3_0_0 : w3.cell? ⟨w1.heap.size, 0, none⟩ = some (.int .i64 (x)) := (b3.cell (p := ⟨w1.heap.size, 0, none⟩) (by first | (simp; done) | (simp; omega) | omega)).trans (by first | with_reducible assumption | (simp [go_sem]; done) | (simp [go_sem, *]; done))
        have g3_0_0 : w3.frozen? ⟨w1.heap.size, 0, none⟩ = false := (b3.frozen (p := ⟨w1.heap.size, 0, none⟩) (by first | (simp; done) | (simp; omega) | omega)).trans (by first | with_reducible assumption | (simp [go_sem]; done) | (simp [go_sem, *]; done))
        have k3_0_1 : w3.cell? ⟨w1.heap.size, 1, none⟩ = some (.int .i64 (y)) := (b3.cell (p := ⟨w1.heap.size, 1, none⟩) (by first | (simp; done) | (simp; omega) | omega)).trans (by first | with_reducible assumption | (simp [go_sem]; done) | (simp [go_sem, *]; done))
        have g3_0_1 : w3.frozen? ⟨w1.heap.size, 1, none⟩ = false := (b3.frozen (p := ⟨w1.heap.size, 1, none⟩) (by first | (simp; done) | (simp; omega) | omega)).trans (by first | with_reducible assumption | (simp [go_sem]; done) | (simp [go_sem, *]; done))
        clear k2_0_0 g2_0_0 k2_0_1 g2_0_1
        have hgl3 : gl < w3.heap.size := by omega
        go_wp2_with fail
        refine (K2.out w3 (by first | omega | (simp; omega)) (row_belowPoint HROW3.out hgl3 (by (repeat (first | with_reducible exact Below.refl _ _ | with_reducible refine bl_alloc ?_ _ | with_reducible refine bl_drew ?_ | with_reducible refine bl_set ?_ (by first | (simp; done) | (simp; omega)) _ | with_reducible refine bl_call (by assumption) ?_))))).mono ?_
        rintro e w4 ⟨rfl, b4⟩
        have HROW4 := Lib.hid (row_belowPoint (row_belowPoint HROW3.out hgl3 (show Below _ _ w3 from (by (repeat (first | with_reducible exact Below.refl _ _ | with_reducible refine bl_alloc ?_ _ | with_reducible refine bl_drew ?_ | with_reducible refine bl_set ?_ (by first | (simp; done) | (simp; omega)) _ | with_reducible refine bl_call (by assumption) ?_))))) (by first | omega | (simp; omega)) b4)
        have s4 := b4.size
        try simp at s4
        have z4_0 : w1.heap.size < w4.heap.size := by omega
        have k4_0_0 : w4.cell? ⟨w1.heap.size, 0, none⟩ = some (.int .i64 (x)) := (b4.cell (p := ⟨w1.heap.size, 0, none⟩) (by first | (simp; done) | (simp; omega) | omega)).trans (by first | with_reducible assumption | (simp [go_sem]; done) | (simp [go_sem, *]; done))
        have g4_0_0 : w4.frozen? ⟨w1.heap.size, 0, none⟩ = false := (b4.frozen (p := ⟨w1.heap.size, 0, none⟩) (by first | (simp; done) | (simp; omega) | omega)).trans (by first | with_reducible assumption | (simp [go_sem]; done) | (simp [go_sem, *]; done))
        have k4_0_1 : w4.cell? ⟨w1.heap.size, 1, none⟩ = some (.int .i64 (y)) := (b4.cell (p := ⟨w1.heap.size, 1, none⟩) (by first | (simp; done) | (simp; omega) | omega)).trans (by first | with_reducible assumption | (simp [go_sem]; done) | (simp [go_sem, *]; done))
        have g4_0_1 : w4.frozen? ⟨w1.heap.size, 1, none⟩ = false := (b4.frozen (p := ⟨w1.heap.size, 1, none⟩) (by first | (simp; done) | (simp; omega) | omega)).trans (by first | with_reducible assumption | (simp [go_sem]; done) | (simp [go_sem, *]; done))
        clear k3_0_0 g3_0_0 k3_0_1 g3_0_1
        have hgl4 : gl < w4.heap.size := by omega
        go_wp2
        go_ret
        exact ⟨rfl, (by (repeat (first | with_reducible exact Below.refl _ _ | with_reducible refine bl_alloc ?_ _ | with_reducible refine bl_drew ?_ | with_reducible refine bl_set ?_ (by first | (simp; done) | (simp; omega)) _ | with_reducible refine bl_call (by assumption) ?_)))⟩

      | true =>
        obtain ⟨hv1, hv2⟩ := Bool.and_eq_true_iff.1 hv
        obtain ⟨N, hN⟩ : ∃ N, cwK zs x y m zs.length = N := ⟨_, rfl⟩
        obtain ⟨N2, hN2⟩ : ∃ N, cwK zs x y (m + 1 + (n2 : Int) % 1000) zs.length = N := ⟨_, rfl⟩
        have nb := cwK_bd zs x y m zs.length
        have nm : N ≤ N2 := by rw [← hN, ← hN2]; exact cw_mono zs x y _ _ (by omega) _
        rw [hN] at nb
        have K1 : Hid (∀ W : World, gl < W.heap.size → rowOfPoint W gl 0 zs → Calls Try.prog 17 #[.slice (some ⟨gl, 0, none⟩) zs.length cap, .agg #[.int .i64 x, .int .i64 y], .int .i64 (m)] W fun e w' => e = .returned (.int .i64 (N)) ∧ Below W.heap.size W w') := Lib.hid fun W lt row => by
          have h := impl_CountWithin gl 0 zs.length cap zs x y (m) W (by omega) rfl lt row
          rw [cwV_yes hv, hN] at h
          exact h
        have K2 : Hid (∀ W : World, gl < W.heap.size → rowOfPoint W gl 0 zs → Calls Try.prog 18 #[.slice (some ⟨gl, 0, none⟩) zs.length cap, .agg #[.int .i64 x, .int .i64 y], .int .i64 (m)] W fun e w' => e = .returned (.int .i64 (N)) ∧ Below W.heap.size W w') := Lib.hid fun W lt row => by
          have h := spec_CountWithin gl 0 zs.length cap zs x y (m) W (by omega) rfl lt row
          rw [cwV_yes hv, hN] at h
          exact h
        have K3 : Hid (∀ W : World, gl < W.heap.size → rowOfPoint W gl 0 zs → Calls Try.prog 17 #[.slice (some ⟨gl, 0, none⟩) zs.length cap, .agg #[.int .i64 x, .int .i64 y], .int .i64 (m + 1 + (n2 : Int) % 1000)] W fun e w' => e = .returned (.int .i64 (N2)) ∧ Below W.heap.size W w') := Lib.hid fun W lt row => by
          have h := impl_CountWithin gl 0 zs.length cap zs x y (m + 1 + (n2 : Int) % 1000) W (by omega) rfl lt row
          rw [cwV_yes hv, hN2] at h
          exact h
        have K4 : Hid (∀ W : World, gl < W.heap.size → rowOfPoint W gl 0 zs → Calls Try.prog 17 #[.slice (some ⟨gl, 0, none⟩) zs.length cap, .agg #[.int .i64 x, .int .i64 y], .int .i64 (8000000)] W fun e w' => e = .returned (.int .i64 ((zs.length : Int))) ∧ Below W.heap.size W w') := Lib.hid fun W lt row => by
          have h := impl_CountWithin gl 0 zs.length cap zs x y (8000000) W (by omega) rfl lt row
          rw [cwV_yes hv, cw_all hv1 hv2] at h
          exact h
        have K5 : Hid (∀ W : World, gl < W.heap.size → rowOfPoint W gl 0 zs → Calls Try.prog 17 #[.slice (some ⟨gl, 0, none⟩) zs.length cap, .agg #[.int .i64 x, .int .i64 y], .int .i64 (-1)] W fun e w' => e = .returned (.int .i64 (0)) ∧ Below W.heap.size W w') := Lib.hid fun W lt row => by
          have h := impl_CountWithin gl 0 zs.length cap zs x y (-1) W (by omega) rfl lt row
          rw [cwV_yes hv, cw_none] at h
          exact h
        clear hv hv1 hv2 hN hN2
        go_wp2_with fail
        refine (K1.out (w1.alloc (Obj.cells #[.int .i64 (x), .int .i64 (y)] 30)) (by first | omega | (simp; omega)) (row_belowPoint HROW.out hgl (by (repeat (first | with_reducible exact Below.refl _ _ | with_reducible refine bl_alloc ?_ _ | with_reducible refine bl_drew ?_ | with_reducible refine bl_set ?_ (by first | (simp; done) | (simp; omega)) _ | with_reducible refine bl_call (by assumption) ?_))))).mono ?_
        rintro e w2 ⟨rfl, b2⟩
        have HROW2 := Lib.hid (row_belowPoint (row_belowPoint HROW.out hgl (show Below _ _ (w1.alloc (Obj.cells #[.int .i64 (x), .int .i64 (y)] 30)) from (by (repeat (first | with_reducible exact Below.refl _ _ | with_reducible refine bl_alloc ?_ _ | with_reducible refine bl_drew ?_ | with_reducible refine bl_set ?_ (by first | (simp; done) | (simp; omega)) _ | with_reducible refine bl_call (by assumption) ?_))))) (by first | omega | (simp; omega)) b2)
        have s2 := b2.size
        try simp at s2
        have z2_0 : w1.heap.size < w2.heap.size := by omega
        have k2_0_0 : w2.cell? ⟨w1.heap.size, 0, none⟩ = some (.int .i64 (x)) := (b2.cell (p := ⟨w1.heap.size, 0, none⟩) (by first | (simp; done) | (simp; omega) | omega)).trans (by first | with_reducible assumption | (simp [go_sem]; done) | (simp [go_sem, *]; done))
        have g2_0_0 : w2.frozen? ⟨w1.heap.size, 0, none⟩ = false := (b2.frozen (p := ⟨w1.heap.size, 0, none⟩) (by first | (simp; done) | (simp; omega) | omega)).trans (by first | with_reducible assumption | (simp [go_sem]; done) | (simp [go_sem, *]; done))
        have k2_0_1 : w2.cell? ⟨w1.heap.size, 1, none⟩ = some (.int .i64 (y)) := (b2.cell (p := ⟨w1.heap.size, 1, none⟩) (by first | (simp; done) | (simp; omega) | omega)).trans (by first | with_reducible assumption | (simp [go_sem]; done) | (simp [go_sem, *]; done))
        have g2_0_1 : w2.frozen? ⟨w1.heap.size, 1, none⟩ = false := (b2.frozen (p := ⟨w1.heap.size, 1, none⟩) (by first | (simp; done) | (simp; omega) | omega)).trans (by first | with_reducible assumption | (simp [go_sem]; done) | (simp [go_sem, *]; done))
        have hgl2 : gl < w2.heap.size := by omega
        go_wp2_with fail
        refine (K2.out w2 (by first | omega | (simp; omega)) (row_belowPoint HROW2.out hgl2 (by (repeat (first | with_reducible exact Below.refl _ _ | with_reducible refine bl_alloc ?_ _ | with_reducible refine bl_drew ?_ | with_reducible refine bl_set ?_ (by first | (simp; done) | (simp; omega)) _ | with_reducible refine bl_call (by assumption) ?_))))).mono ?_
        rintro e w3 ⟨rfl, b3⟩
        have HROW3 := Lib.hid (row_belowPoint (row_belowPoint HROW2.out hgl2 (show Below _ _ w2 from (by (repeat (first | with_reducible exact Below.refl _ _ | with_reducible refine bl_alloc ?_ _ | with_reducible refine bl_drew ?_ | with_reducible refine bl_set ?_ (by first | (simp; done) | (simp; omega)) _ | with_reducible refine bl_call (by assumption) ?_))))) (by first | omega | (simp; omega)) b3)
        have s3 := b3.size
        try simp at s3
        have z3_0 : w1.heap.size < w3.heap.size := by omega
        have k3_0_0 : w3.cell? ⟨w1.heap.size, 0, none⟩ = some (.int .i64 (x)) := (b3.cell (p := ⟨w1.heap.size, 0, none⟩) (by first | (simp; done) | (simp; omega) | omega)).trans (by first | with_reducible assumption | (simp [go_sem]; done) | (simp [go_sem, *]; done))
        have g3_0_0 : w3.frozen? ⟨w1.heap.size, 0, none⟩ = false := (b3.frozen (p := ⟨w1.heap.size, 0, none⟩) (by first | (simp; done) | (simp; omega) | omega)).trans (by first | with_reducible assumption | (simp [go_sem]; done) | (simp [go_sem, *]; done))
        have k3_0_1 : w3.cell? ⟨w1.heap.size, 1, none⟩ = some (.int .i64 (y)) := (b3.cell (p := ⟨w1.heap.size, 1, none⟩) (by first | (simp; done) | (simp; omega) | omega)).trans (by first | with_reducible assumption | (simp [go_sem]; done) | (simp [go_sem, *]; done))
        have g3_0_1 : w3.frozen? ⟨w1.heap.size, 1, none⟩ = false := (b3.frozen (p := ⟨w1.heap.size, 1, none⟩) (by first | (simp; done) | (simp; omega) | omega)).trans (by first | with_reducible assumption | (simp [go_sem]; done) | (simp [go_sem, *]; done))
        clear k2_0_0 g2_0_0 k2_0_1 g2_0_1
        have hgl3 : gl < w3.heap.size := by omega
        go_wp2_with fail
        refine (K3.out w3 (by first | omega | (simp; omega)) (row_belowPoint HROW3.out hgl3 (by (repeat (first | with_reducible exact Below.refl _ _ | with_reducible refine bl_alloc ?_ _ | with_reducible refine bl_drew ?_ | with_reducible refine bl_set ?_ (by first | (simp; done) | (simp; omega)) _ | with_reducible refine bl_call (by assumption) ?_))))).mono ?_
        rintro e w4 ⟨rfl, b4⟩
        have HROW4 := Lib.hid (row_belowPoint (row_belowPoint HROW3.out hgl3 (show Below _ _ w3 from (by (repeat (first | with_reducible exact Below.refl _ _ | with_reducible refine bl_alloc ?_ _ | with_reducible refine bl_drew ?_ | with_reducible refine bl_set ?_ (by first | (simp; done) | (simp; omega)) _ | with_reducible refine bl_call (by assumption) ?_))))) (by first | omega | (simp; omega)) b4)
        have s4 := b4.size
        try simp at s4
        have z4_0 : w1.heap.size < w4.heap.size := by omega
        have k4_0_0 : w4.cell? ⟨w1.heap.size, 0, none⟩ = some (.int .i64 (x)) := (b4.cell (p := ⟨w1.heap.size, 0, none⟩) (by first | (simp; done) | (simp; omega) | omega)).trans (by first | with_reducible assumption | (simp [go_sem]; done) | (simp [go_sem, *]; done))
        have g4_0_0 : w4.frozen? ⟨w1.heap.size, 0, none⟩ = false := (b4.frozen (p := ⟨w1.heap.size, 0, none⟩) (by first | (simp; done) | (simp; omega) | omega)).trans (by first | with_reducible assumption | (simp [go_sem]; done) | (simp [go_sem, *]; done))
        have k4_0_1 : w4.cell? ⟨w1.heap.size, 1, none⟩ = some (.int .i64 (y)) := (b4.cell (p := ⟨w1.heap.size, 1, none⟩) (by first | (simp; done) | (simp; omega) | omega)).trans (by first | with_reducible assumption | (simp [go_sem]; done) | (simp [go_sem, *]; done))
        have g4_0_1 : w4.frozen? ⟨w1.heap.size, 1, none⟩ = false := (b4.frozen (p := ⟨w1.heap.size, 1, none⟩) (by first | (simp; done) | (simp; omega) | omega)).trans (by first | with_reducible assumption | (simp [go_sem]; done) | (simp [go_sem, *]; done))
        clear k3_0_0 g3_0_0 k3_0_1 g3_0_1
        have hgl4 : gl < w4.heap.size := by omega
        go_wp2_with fail
        refine (K4.out w4 (by first | omega | (simp; omega)) (row_belowPoint HROW4.out hgl4 (by (repeat (first | with_reducible exact Below.refl _ _ | with_reducible refine bl_alloc ?_ _ | with_reducible refine bl_drew ?_ | with_reducible refine bl_set ?_ (by first | (simp; done) | (simp; omega)) _ | with_reducible refine bl_call (by assumption) ?_))))).mono ?_
        rintro e w5 ⟨rfl, b5⟩
        have HROW5 := Lib.hid (row_belowPoint (row_belowPoint HROW4.out hgl4 (show Below _ _ w4 from (by (repeat (first | with_reducible exact Below.refl _ _ | with_reducible refine bl_alloc ?_ _ | with_reducible refine bl_drew ?_ | with_reducible refine bl_set ?_ (by first | (simp; done) | (simp; omega)) _ | with_reducible refine bl_call (by assumption) ?_))))) (by first | omega | (simp; omega)) b5)
        have s5 := b5.size
        try simp at s5
        have z5_0 : w1.heap.size < w5.heap.size := by omega
        have k5_0_0 : w5.cell? ⟨w1.heap.size, 0, none⟩ = some (.int .i64 (x)) := (b5.cell (p := ⟨w1.heap.size, 0, none⟩) (by first | (simp; done) | (simp; omega) | omega)).trans (by first | with_reducible assumption | (simp [go_sem]; done) | (simp [go_sem, *]; done))
        have g5_0_0 : w5.frozen? ⟨w1.heap.size, 0, none⟩ = false := (b5.frozen (p := ⟨w1.heap.size, 0, none⟩) (by first | (simp; done) | (simp; omega) | omega)).trans (by first | with_reducible assumption | (simp [go_sem]; done) | (simp [go_sem, *]; done))
        have k5_0_1 : w5.cell? ⟨w1.heap.size, 1, none⟩ = some (.int .i64 (y)) := (b5.cell (p := ⟨w1.heap.size, 1, none⟩) (by first | (simp; done) | (simp; omega) | omega)).trans (by first | with_reducible assumption | (simp [go_sem]; done) | (simp [go_sem, *]; done))
        have g5_0_1 : w5.frozen? ⟨w1.heap.size, 1, none⟩ = false := (b5.frozen (p := ⟨w1.heap.size, 1, none⟩) (by first | (simp; done) | (simp; omega) | omega)).trans (by first | with_reducible assumption | (simp [go_sem]; done) | (simp [go_sem, *]; done))
        clear k4_0_0 g4_0_0 k4_0_1 g4_0_1
        have hgl5 : gl < w5.heap.size := by omega
        go_wp2_with fail
        refine (K5.out w5 (by first | omega | (simp; omega)) (row_belowPoint HROW5.out hgl5 (by (repeat (first | with_reducible exact Below.refl _ _ | with_reducible refine bl_alloc ?_ _ | with_reducible refine bl_drew ?_ | with_reducible refine bl_set ?_ (by first | (simp; done) | (simp; omega)) _ | with_reducible refine bl_call (by assumption) ?_))))).mono ?_
        rintro e w6 ⟨rfl, b6⟩
        have HROW6 := Lib.hid (row_belowPoint (row_belowPoint HROW5.out hgl5 (show Below _ _ w5 from (by (repeat (first | with_reducible exact Below.refl _ _ | with_reducible refine bl_alloc ?_ _ | with_reducible refine bl_drew ?_ | with_reducible refine bl_set ?_ (by first | (simp; done) | (simp; omega)) _ | with_reducible refine bl_call (by assumption) ?_))))) (by first | omega | (simp; omega)) b6)
        have s6 := b6.size
        try simp at s6
        have z6_0 : w1.heap.size < w6.heap.size := by omega
        have k6_0_0 : w6.cell? ⟨w1.heap.size, 0, none⟩ = some (.int .i64 (x)) := (b6.cell (p := ⟨w1.heap.size, 0, none⟩) (by first | (simp; done) | (simp; omega) | omega)).trans (by first | with_reducible assumption | (simp [go_sem]; done) | (simp [go_sem, *]; done))
        have g6_0_0 : w6.frozen? ⟨w1.heap.size, 0, none⟩ = false := (b6.frozen (p := ⟨w1.heap.size, 0, none⟩) (by first | (simp; done) | (simp; omega) | omega)).trans (by first | with_reducible assumption | (simp [go_sem]; done) | (simp [go_sem, *]; done))
        have k6_0_1 : w6.cell? ⟨w1.heap.size, 1, none⟩ = some (.int .i64 (y)) := (b6.cell (p := ⟨w1.heap.size, 1, none⟩) (by first | (simp; done) | (simp; omega) | omega)).trans (by first | with_reducible assumption | (simp [go_sem]; done) | (simp [go_sem, *]; done))
        have g6_0_1 : w6.frozen? ⟨w1.heap.size, 1, none⟩ = false := (b6.frozen (p := ⟨w1.heap.size, 1, none⟩) (by first | (simp; done) | (simp; omega) | omega)).trans (by first | with_reducible assumption | (simp [go_sem]; done) | (simp [go_sem, *]; done))
        clear k5_0_0 g5_0_0 k5_0_1 g5_0_1
        have hgl6 : gl < w6.heap.size := by omega
        go_wp2
        go_ret
        exact ⟨rfl, (by (repeat (first | with_reducible exact Below.refl _ _ | with_reducible refine bl_alloc ?_ _ | with_reducible refine bl_drew ?_ | with_reducible refine bl_set ?_ (by first | (simp; done) | (simp; omega)) _ | with_reducible refine bl_call (by assumption) ?_)))⟩

    · have hnz2 : (1048576 : Int) < (n2 : Int) := by omega
      go_enter Try.func5, Try.ntmps5
      go_wp2
      go_ret
      exact ⟨rfl, Below.refl _ _⟩

  · have hnz : (1048576 : Int) < (n : Int) := by omega
    go_enter Try.func5, Try.ntmps5
    go_wp2
    go_ret
    exact ⟨rfl, Below.refl _ _⟩

set_option maxRecDepth 100000 in
theorem lifted (os : Os) (started : os.Started) (H : Type) (enc : TypeId × Value → H) :
    ReturnsInHanded {} Try.checked os 5 .any (Rows.fnCountWithinSpec.pre6 enc Try.prog Try.f5 Rows.fnCountWithinRow.domain false) (Rows.fnCountWithinSpec.post enc Try.prog Try.f5 false true false false) := by
  refine returnsInHanded_of_change (C := Try.checked) own started (by kernel_rfl) Try.func5
    (ChangeSpec.witness6 (enc := enc) (C := Try.checked) false ⟨#[], #[.slice none 0 0, .slice none 0 0], []⟩ 8 (by kernel_rfl) (by kernel_rfl) (by kernel_rfl) (by kernel_rfl)) ?_
  intro W base args ds gs before hval0 hW hcnd _
  have hval : ∀ (j : Nat) t v, Try.f5.params[j]? = some t → args[j]? = some v → Value.okWide Try.prog W .any base t v := hval0
  have hW' := hW
  obtain ⟨p, q, hA0, hV, rfl, hfz, hnd⟩ := hW
  have hA : DataW.TrodAll enc Try.prog W 0 (fun _ => true) true Try.f5.params.toList args.toList ds p := hA0
  rw [Try.params5] at hA hval
  obtain ⟨v0, vs0, d0, ds0, p0, q0, hargs, rfl, rfl, h0, r0⟩ := trodAll_cons hA
  obtain ⟨v1, vs1, d1, ds1, p1, q1, rfl, rfl, rfl, h1, r1⟩ := trodAll_cons r0
  obtain ⟨rfl, rfl, rfl⟩ := trodAll_nil r1
  obtain rfl : args = #[v0, v1] := by cases args; simp_all
  obtain ⟨rfl, rfl⟩ := trodVars_none hV
  have k0 := h0
  have lt0 : ∀ x ∈ p0, x.block < W.heap.size := by obtain ⟨m, hm⟩ := k0; exact DataW.trod_lt m _ _ _ hm
  obtain ⟨a0, n0, c0, rfl⟩ := okWide_slice Try.underlying22 (hval 0 22 v0 rfl rfl)
  obtain ⟨hs0, hl0, hm0⟩ := open_bytes Try.underlying22 Try.underlying5 (by kernel_rfl) h0
  have k1 := h1
  have lt1 : ∀ x ∈ p1, x.block < W.heap.size := by obtain ⟨m, hm⟩ := k1; exact DataW.trod_lt m _ _ _ hm
  obtain ⟨a1, n1, c1, rfl⟩ := okWide_slice Try.underlying22 (hval 1 22 v1 rfl rfl)
  obtain ⟨hs1, hl1, hm1⟩ := open_bytes Try.underlying22 Try.underlying5 (by kernel_rfl) h1
  clear hA0 hval0
  refine (walk a0 n0 c0 a1 n1 c1 W hs0 hl0 hm0 hs1 hl1 hm1).mono fun e W' ⟨he, bel⟩ => ?_
  subst he
  exact ⟨_, rfl, _, _, _, [], _, [], hW', trodAll_mk1 (shut_bool Try.underlying4 _), (trodAll_cons_mk (Below.trod laidOut (by kernel_rfl) (of_decide_eq_true (by kernel_rfl)) k0 bel lt0) (trodAll_cons_mk (Below.trod laidOut (by kernel_rfl) (of_decide_eq_true (by kernel_rfl)) k1 bel lt1) trodAll_mk0)), rfl, bel.frame _, fun h => by cases h⟩

theorem proved : Rows.FnCountWithinSaid :=
  OpenClaim.holds_of_wide 5 Try.f5 rfl rfl rfl rfl rfl rfl rfl ⟨rfl, rfl, rfl, rfl, rfl⟩ rfl rfl rfl rfl rfl (by kernel_rfl) Try.func5 (by kernel_rfl)
    (of_decide_eq_true (by kernel_rfl)) (by unfold Func.isWrapper; first | (rw [if_pos (by decide +kernel)]; kernel_rfl) | (rw [if_neg (by decide +kernel)]; exact ⟨rfl, rfl⟩))
    (fun os started H enc _ => lifted os started H enc)

end FnCountWithin

end Go.Proofs.Ytbfeaiaoelkggaa
