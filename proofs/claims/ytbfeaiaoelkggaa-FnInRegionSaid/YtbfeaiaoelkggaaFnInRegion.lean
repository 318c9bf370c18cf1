/- FnInRegion returns true for every argument, and leaves its arguments as they were. No conditions. -/
import Derived.Test.YtbfeaiaoelkggaaFrame
import Derived.Test.YtbfeaiaoelkggaaFrameB
import Derived.Test.YtbfeaiaoelkggaaRdrH3
import Derived.Test.YtbfeaiaoelkggaaLiR
import Derived.Test.YtbfeaiaoelkggaaPlainR8
namespace Go.Proofs.Ytbfeaiaoelkggaa
open Go.RowKit
set_option linter.unusedVariables false

open Go.ChangeShapes Go.WideShapes Go.ChangeAt
namespace FnInRegion

open Go.Sort
set_option maxRecDepth 100000 in
set_option maxHeartbeats 8000000 in
theorem walk (a : Option Addr) (n c : Nat) (w : World) (hs : BytesOf w.heap.size w a n) (hc : n ≤ c) (hc2 : c ≤ 9223372036854775807) :
    Calls Try.prog 6 #[.slice a n c] w fun e w' => e = .returned (.bool true) ∧ Below w.heap.size w w' := by
  by_cases hn : n ≤ 1048576
  · have hnz : ¬ (1048576 : Int) < (n : Int) := by omega
    have HS := Lib.hid hs
    clear hs
    go_enter Try.func6, Try.ntmps6
    go_wp2_with fail
    refine (rdr_DrawInRegion w.heap.size a n c w (Nat.le_refl _) HS.out hc hc2).mono ?_
    rintro e w1 ⟨gl, cap, zs, x, y, rfl, hcap, ⟨lx, ux⟩, ⟨ly, uy⟩, hgl, hrow, hlen, b1⟩
    have s1 := b1.size
    try simp at s1
    have HROW := Lib.hid hrow
    clear hrow
    cases hv : halvesB zs with
    | false =>
      have hno : InrV zs x y = false := inrV_no (by rw [hv]; rfl)
      have K1 : Hid (∀ W : World, gl < W.heap.size → rowOfHalfPlane W gl 0 zs → Calls Try.prog 20 #[.slice (some ⟨gl, 0, none⟩) zs.length cap, .agg #[.int .i64 x, .int .i64 y]] W fun e w' => e = .returned (.bool false) ∧ Below W.heap.size W w') := Lib.hid fun W lt row => by
        have h := impl_InRegion gl 0 zs.length cap zs x y W (by omega) rfl lt row
        rw [hno] at h
        exact h
      have K2 : Hid (∀ W : World, gl < W.heap.size → rowOfHalfPlane W gl 0 zs → Calls Try.prog 21 #[.slice (some ⟨gl, 0, none⟩) zs.length cap, .agg #[.int .i64 x, .int .i64 y]] W fun e w' => e = .returned (.bool false) ∧ Below W.heap.size W w') := Lib.hid fun W lt row => by
        have h := spec_InRegion gl 0 zs.length cap zs x y W (by omega) rfl lt row
        rw [hno] at h
        exact h
      have K3 : Hid (∀ W : World, gl < W.heap.size → rowOfHalfPlane W gl 0 zs → Calls Try.prog 22 #[.slice (some ⟨gl, 0, none⟩) zs.length cap] W fun e w' => e = .returned (.bool false) ∧ Below W.heap.size W w') := Lib.hid fun W lt row => by
        have h := impl_ValidHalves gl 0 zs.length cap zs W (by omega) rfl lt row
        have h2 : (zs.all (fun z : Int × Int × Int => hpB z.1 z.2.1 z.2.2) && decide (zs.length ≤ 8)) = false := hv
        rw [h2] at h
        exact h
      clear hv hno
      go_wp2_with fail
      refine (K1.out (w1.alloc (Obj.cells #[.int .i64 (x), .int .i64 (y)] 30)) (by first | omega | (simp; omega)) (row_belowHalfPlane HROW.out hgl (by (repeat (first | with_reducible exact Below.refl _ _ | with_reducible refine bl_alloc ?_ _ | with_reducible refine bl_drew ?_ | with_reducible refine bl_set ?_ (by first | (simp; done) | (simp; omega)) _ | with_reducible refine bl_call (by assumption) ?_))))).mono ?_
      rintro e w2 ⟨rfl, b2⟩
      have HROW2 := Lib.hid (row_belowHalfPlane (row_belowHalfPlane HROW.out hgl (show Below _ _ (w1.alloc (Obj.cells #[.int .i64 (x), .int .i64 (y)] 30)) from (by (repeat (first | with_reducible exact Below.refl _ _ | with_reducible refine bl_alloc ?_ _ | with_reducible refine bl_drew ?_ | with_reducible refine bl_set ?_ (by first | (simp; done) | (simp; omega)) _ | with_reducible refine bl_call (by assumption) ?_))))) (by first | omega | (simp; omega)) b2)
      have s2 := b2.size
      try simp at s2
      have z2_0 : w1.heap.size < w2.heap.size := by omega
      have k2_0_0 : w2.cell? ⟨w1.heap.size, 0, none⟩ = some (.int .i64 (x)) := (b2.cell (p := ⟨w1.heap.size, 0, none⟩) (by first | (simp; done) | (simp; omega) | omega)).trans (by first | with_reducible assumption | (simp [go_sem]; done) | (simp [go_sem, *]; done))
      have g2_0_0 : w2.frozen? ⟨w1.heap.size, 0, none⟩ = false := (b2.frozen (p := ⟨w1.heap.size, 0, none⟩) (by first | (simp; done) | (simp; omega) | omega)).trans (by first | with_reducible assumption | (simp [go_sem]; done) | (simp [go_sem, *]; done))
      have k2_0_1 : w2.cell? ⟨w1.heap.size, 1, none⟩ = some (.int .i64 (y)) := (b2.cell (p := ⟨w1.heap.size, 1, none⟩) (by first | (simp; done) | (simp; omega) | omega)).trans (by first | with_reducible assumption | (simp [go_sem]; done) | (simp [go_sem, *]; done))
      have g2_0_1 : w2.frozen? ⟨w1.heap.size, 1, none⟩ = false := (b2.frozen (p := ⟨w1.heap.size, 1, none⟩) (by first | (simp; done) | (simp; omega) | omega)).trans (by first | with_reducible assumption | (simp [go_sem]; done) | (simp [go_sem, *]; done))
      have hgl2 : gl < w2.heap.size := by omega
      go_wp2_with fail
      refine (K2.out w2 (by first | omega | (simp; omega)) (row_belowHalfPlane HROW2.out hgl2 (by (repeat (first | with_reducible exact Below.refl _ _ | with_reducible refine bl_alloc ?_ _ | with_reducible refine bl_drew ?_ | with_reducible refine bl_set ?_ (by first | (simp; done) | (simp; omega)) _ | with_reducible refine bl_call (by assumption) ?_))))).mono ?_
      rintro e w3 ⟨rfl, b3⟩
      have HROW3 := Lib.hid (row_belowHalfPlane (row_belowHalfPlane HROW2.out hgl2 (show Below _ _ w2 from (by (repeat (first | with_reducible exact Below.refl _ _ | with_reducible refine bl_alloc ?_ _ | with_reducible refine bl_drew ?_ | with_reducible refine bl_set ?_ (by first | (simp; done) | (simp; omega)) _ | with_reducible refine bl_call (by assumption) ?_))))) (by first | omega | (simp; omega)) b3)
      have s3 := b3.size
      try simp at s3
      have z3_0 : w1.heap.size < w3.heap.size := by omega
      have k3_0_0 : w3.cell? ⟨w1.heap.size, 0, none⟩ = some (.int .i64 (x)) := (b3.cell (p := ⟨w1.heap.size, 0, none⟩) (by first | (simp; done) | (simp; omega) | omega)).trans (by first | with_reducible assumption | (simp [go_sem]; done) | (simp [go_sem, *]; done))
      have g3_0_0 : w3.frozen? ⟨w1.heap.size, 0, none⟩ = false := (b3.frozen (p := ⟨w1.heap.size, 0, none⟩) (by first | (simp; done) | (simp; omega) | omega)).trans (by first | with_reducible assumption | (simp [go_sem]; done) | (simp [go_sem, *]; done))
      have k3_0_1 : w3.cell? ⟨w1.heap.size, 1, none⟩ = some (.int .i64 (y)) := (b3.cell (p := ⟨w1.heap.size, 1, none⟩) (by first | (simp; done) | (simp; omega) | omega)).trans (by first | with_reducible assumption | (simp [go_sem]; done) | (simp [go_sem, *]; done))
      have g3_0_1 : w3.frozen? ⟨w1.heap.size, 1, none⟩ = false := (b3.frozen (p := ⟨w1.heap.size, 1, none⟩) (by first | (simp; done) | (simp; omega) | omega)).trans (by first | with_reducible assumption | (simp [go_sem]; done) | (simp [go_sem, *]; done))
      clear k2_0_0 g2_0_0 k2_0_1 g2_0_1
      have hgl3 : gl < w3.heap.size := by omega
      go_wp2_with fail
      refine (K3.out w3 (by first | omega | (simp; omega)) (row_belowHalfPlane HROW3.out hgl3 (by (repeat (first | with_reducible exact Below.refl _ _ | with_reducible refine bl_alloc ?_ _ | with_reducible refine bl_drew ?_ | with_reducible refine bl_set ?_ (by first | (simp; done) | (simp; omega)) _ | with_reducible refine bl_call (by assumption) ?_))))).mono ?_
      rintro e w4 ⟨rfl, b4⟩
      have HROW4 := Lib.hid (row_belowHalfPlane (row_belowHalfPlane HROW3.out hgl3 (show Below _ _ w3 from (by (repeat (first | with_reducible exact Below.refl _ _ | with_reducible refine bl_alloc ?_ _ | with_reducible refine bl_drew ?_ | with_reducible refine bl_set ?_ (by first | (simp; done) | (simp; omega)) _ | with_reducible refine bl_call (by assumption) ?_))))) (by first | omega | (simp; omega)) b4)
      have s4 := b4.size
      try simp at s4
      have z4_0 : w1.heap.size < w4.heap.size := by omega
      have k4_0_0 : w4.cell? ⟨w1.heap.size, 0, none⟩ = some (.int .i64 (x)) := (b4.cell (p := ⟨w1.heap.size, 0, none⟩) (by first | (simp; done) | (simp; omega) | omega)).trans (by first | with_reducible assumption | (simp [go_sem]; done) | (simp [go_sem, *]; done))
      have g4_0_0 : w4.frozen? ⟨w1.heap.size, 0, none⟩ = false := (b4.frozen (p := ⟨w1.heap.size, 0, none⟩) (by first | (simp; done) | (simp; omega) | omega)).trans (by first | with_reducible assumption | (simp [go_sem]; done) | (simp [go_sem, *]; done))
      have k4_0_1 : w4.cell? ⟨w1.heap.size, 1, none⟩ = some (.int .i64 (y)) := (b4.cell (p := ⟨w1.heap.size, 1, none⟩) (by first | (simp; done) | (simp; omega) | omega)).trans (by first | with_reducible assumption | (simp [go_sem]; done) | (simp [go_sem, *]; done))
      have g4_0_1 : w4.frozen? ⟨w1.heap.size, 1, none⟩ = false := (b4.frozen (p := ⟨w1.heap.size, 1, none⟩) (by first | (simp; done) | (simp; omega) | omega)).trans (by first | with_reducible assumption | (simp [go_sem]; done) | (simp [go_sem, *]; done))
      clear k3_0_0 g3_0_0 k3_0_1 g3_0_1
      have hgl4 : gl < w4.heap.size := by omega
      go_wp2_with fail
      refine (K2.out w4 (by first | omega | (simp; omega)) (row_belowHalfPlane HROW4.out hgl4 (by (repeat (first | with_reducible exact Below.refl _ _ | with_reducible refine bl_alloc ?_ _ | with_reducible refine bl_drew ?_ | with_reducible refine bl_set ?_ (by first | (simp; done) | (simp; omega)) _ | with_reducible refine bl_call (by assumption) ?_))))).mono ?_
      rintro e w5 ⟨rfl, b5⟩
      have HROW5 := Lib.hid (row_belowHalfPlane (row_belowHalfPlane HROW4.out hgl4 (show Below _ _ w4 from (by (repeat (first | with_reducible exact Below.refl _ _ | with_reducible refine bl_alloc ?_ _ | with_reducible refine bl_drew ?_ | with_reducible refine bl_set ?_ (by first | (simp; done) | (simp; omega)) _ | with_reducible refine bl_call (by assumption) ?_))))) (by first | omega | (simp; omega)) b5)
      have s5 := b5.size
      try simp at s5
      have z5_0 : w1.heap.size < w5.heap.size := by omega
      have k5_0_0 : w5.cell? ⟨w1.heap.size, 0, none⟩ = some (.int .i64 (x)) := (b5.cell (p := ⟨w1.heap.size, 0, none⟩) (by first | (simp; done) | (simp; omega) | omega)).trans (by first | with_reducible assumption | (simp [go_sem]; done) | (simp [go_sem, *]; done))
      have g5_0_0 : w5.frozen? ⟨w1.heap.size, 0, none⟩ = false := (b5.frozen (p := ⟨w1.heap.size, 0, none⟩) (by first | (simp; done) | (simp; omega) | omega)).trans (by first | with_reducible assumption | (simp [go_sem]; done) | (simp [go_sem, *]; done))
      have k5_0_1 : w5.cell? ⟨w1.heap.size, 1, none⟩ = some (.int .i64 (y)) := (b5.cell (p := ⟨w1.heap.size, 1, none⟩) (by first | (simp; done) | (simp; omega) | omega)).trans (by first | with_reducible assumption | (simp [go_sem]; done) | (simp [go_sem, *]; done))
      have g5_0_1 : w5.frozen? ⟨w1.heap.size, 1, none⟩ = false := (b5.frozen (p := ⟨w1.heap.size, 1, none⟩) (by first | (simp; done) | (simp; omega) | omega)).trans (by first | with_reducible assumption | (simp [go_sem]; done) | (simp [go_sem, *]; done))
      clear k4_0_0 g4_0_0 k4_0_1 g4_0_1
      have hgl5 : gl < w5.heap.size := by omega
      go_wp2
      go_ret
      exact ⟨rfl, (by (repeat (first | with_reducible exact Below.refl _ _ | with_reducible refine bl_alloc ?_ _ | with_reducible refine bl_drew ?_ | with_reducible refine bl_set ?_ (by first | (simp; done) | (simp; omega)) _ | with_reducible refine bl_call (by assumption) ?_)))⟩

    | true =>
      cases hq : ptB x y with
      | false =>
        have hno : InrV zs x y = false := inrV_no (by rw [hq, Bool.and_false])
        have K1 : Hid (∀ W : World, gl < W.heap.size → rowOfHalfPlane W gl 0 zs → Calls Try.prog 20 #[.slice (some ⟨gl, 0, none⟩) zs.length cap, .agg #[.int .i64 x, .int .i64 y]] W fun e w' => e = .returned (.bool false) ∧ Below W.heap.size W w') := Lib.hid fun W lt row => by
          have h := impl_InRegion gl 0 zs.length cap zs x y W (by omega) rfl lt row
          rw [hno] at h
          exact h
        have K2 : Hid (∀ W : World, gl < W.heap.size → rowOfHalfPlane W gl 0 zs → Calls Try.prog 21 #[.slice (some ⟨gl, 0, none⟩) zs.length cap, .agg #[.int .i64 x, .int .i64 y]] W fun e w' => e = .returned (.bool false) ∧ Below W.heap.size W w') := Lib.hid fun W lt row => by
          have h := spec_InRegion gl 0 zs.length cap zs x y W (by omega) rfl lt row
          rw [hno] at h
          exact h
        have K3 : Hid (∀ W : World, gl < W.heap.size → rowOfHalfPlane W gl 0 zs → Calls Try.prog 22 #[.slice (some ⟨gl, 0, none⟩) zs.length cap] W fun e w' => e = .returned (.bool true) ∧ Below W.heap.size W w') := Lib.hid fun W lt row => by
          have h := impl_ValidHalves gl 0 zs.length cap zs W (by omega) rfl lt row
          have h2 : (zs.all (fun z : Int × Int × Int => hpB z.1 z.2.1 z.2.2) && decide (zs.length ≤ 8)) = true := hv
          rw [h2] at h
          exact h
        have K4 : Hid (∀ W : World, Calls Try.prog 23 #[.agg #[.int .i64 x, .int .i64 y]] W fun e w' => e = .returned (.bool false) ∧ Below W.heap.size W w') := Lib.hid fun W => by
          have h := impl_ValidPoint x y W
          rw [hq] at h
          exact h
        clear hv hno hq
        go_wp2_with fail
        refine (K1.out (w1.alloc (Obj.cells #[.int .i64 (x), .int .i64 (y)] 30)) (by first | omega | (simp; omega)) (row_belowHalfPlane HROW.out hgl (by (repeat (first | with_reducible exact Below.refl _ _ | with_reducible refine bl_alloc ?_ _ | with_reducible refine bl_drew ?_ | with_reducible refine bl_set ?_ (by first | (simp; done) | (simp; omega)) _ | with_reducible refine bl_call (by assumption) ?_))))).mono ?_
        rintro e w2 ⟨rfl, b2⟩
        have HROW2 := Lib.hid (row_belowHalfPlane (row_belowHalfPlane HROW.out hgl (show Below _ _ (w1.alloc (Obj.cells #[.int .i64 (x), .int .i64 (y)] 30)) from (by (repeat (first | with_reducible exact Below.refl _ _ | with_reducible refine bl_alloc ?_ _ | with_reducible refine bl_drew ?_ | with_reducible refine bl_set ?_ (by first | (simp; done) | (simp; omega)) _ | with_reducible refine bl_call (by assumption) ?_))))) (by first | omega | (simp; omega)) b2)
        have s2 := b2.size
        try simp at s2
        have z2_0 : w1.heap.size < w2.heap.size := by omega
        have k2_0_0 : w2.cell? ⟨w1.heap.size, 0, none⟩ = some (.int .i64 (x)) := (b2.cell (p := ⟨w1.heap.size, 0, none⟩) (by first | (simp; done) | (simp; omega) | omega)).trans (by first | with_reducible assumption | (simp [go_sem]; done) | (simp [go_sem, *]; done))
        have g2_0_0 : w2.frozen? ⟨w1.heap.size, 0, none⟩ = false := (b2.frozen (p := ⟨w1.heap.size, 0, none⟩) (by first | (simp; done) | (simp; omega) | omega)).trans (by first | with_reducible assumption | (simp [go_sem]; done) | (simp [go_sem, *]; done))
        have k2_0_1 : w2.cell? ⟨w1.heap.size, 1, none⟩ = some (.int .i64 (y)) := (b2.cell (p := ⟨w1.heap.size, 1, none⟩) (by first | (simp; done) | (simp; omega) | omega)).trans (by first | with_reducible assumption | (simp [go_sem]; done) | (simp [go_sem, *]; done))
        have g2_0_1 : w2.frozen? ⟨w1.heap.size, 1, none⟩ = false := (b2.frozen (p := ⟨w1.heap.size, 1, none⟩) (by first | (simp; done) | (simp; omega) | omega)).trans (by first | with_reducible assumption | (simp [go_sem]; done) | (simp [go_sem, *]; done))
        have hgl2 : gl < w2.heap.size := by omega
        go_wp2_with fail
        refine (K2.out w2 (by first | omega | (simp; omega)) (row_belowHalfPlane HROW2.out hgl2 (by (repeat (first | with_reducible exact Below.refl _ _ | with_reducible refine bl_alloc ?_ _ | with_reducible refine bl_drew ?_ | with_reducible refine bl_set ?_ (by first | (simp; done) | (simp; omega)) _ | with_reducible refine bl_call (by assumption) ?_))))).mono ?_
        rintro e w3 ⟨rfl, b3⟩
        have HROW3 := Lib.hid (row_belowHalfPlane (row_belowHalfPlane HROW2.out hgl2 (show Below _ _ w2 from (by (repeat (first | with_reducible exact Below.refl _ _ | with_reducible refine bl_alloc ?_ _ | with_reducible refine bl_drew ?_ | with_reducible refine bl_set ?_ (by first | (simp; done) | (simp; omega)) _ | with_reducible refine bl_call (by assumption) ?_))))) (by first | omega | (simp; omega)) b3)
        have s3 := b3.size
        try simp at s3
        have z3_0 : w1.heap.size < w3.heap.size := by omega
        have k3_0_0 : w3.cell? ⟨w1.heap.size, 0, none⟩ = some (.int .i64 (x)) := (b3.cell (p := ⟨w1.heap.size, 0, none⟩) (by first | (simp; done) | (simp; omega) | omega)).trans (by first | with_reducible assumption | (simp [go_sem]; done) | (simp [go_sem, *]; done))
        have g3_0_0 : w3.frozen? ⟨w1.heap.size, 0, none⟩ = false := (b3.frozen (p := ⟨w1.heap.size, 0, none⟩) (by first | (simp; done) | (simp; omega) | omega)).trans (by first | with_reducible assumption | (simp [go_sem]; done) | (simp [go_sem, *]; done))
        have k3_0_1 : w3.cell? ⟨w1.heap.size, 1, none⟩ = some (.int .i64 (y)) := (b3.cell (p := ⟨w1.heap.size, 1, none⟩) (by first | (simp; done) | (simp; omega) | omega)).trans (by first | with_reducible assumption | (simp [go_sem]; done) | (simp [go_sem, *]; done))
        have g3_0_1 : w3.frozen? ⟨w1.heap.size, 1, none⟩ = false := (b3.frozen (p := ⟨w1.heap.size, 1, none⟩) (by first | (simp; done) | (simp; omega) | omega)).trans (by first | with_reducible assumption | (simp [go_sem]; done) | (simp [go_sem, *]; done))
        clear k2_0_0 g2_0_0 k2_0_1 g2_0_1
        have hgl3 : gl < w3.heap.size := by omega
        go_wp2_with fail
        refine (K3.out w3 (by first | omega | (simp; omega)) (row_belowHalfPlane HROW3.out hgl3 (by (repeat (first | with_reducible exact Below.refl _ _ | with_reducible refine bl_alloc ?_ _ | with_reducible refine bl_drew ?_ | with_reducible refine bl_set ?_ (by first | (simp; done) | (simp; omega)) _ | with_reducible refine bl_call (by assumption) ?_))))).mono ?_
        rintro e w4 ⟨rfl, b4⟩
        have HROW4 := Lib.hid (row_belowHalfPlane (row_belowHalfPlane HROW3.out hgl3 (show Below _ _ w3 from (by (repeat (first | with_reducible exact Below.refl _ _ | with_reducible refine bl_alloc ?_ _ | with_reducible refine bl_drew ?_ | with_reducible refine bl_set ?_ (by first | (simp; done) | (simp; omega)) _ | with_reducible refine bl_call (by assumption) ?_))))) (by first | omega | (simp; omega)) b4)
        have s4 := b4.size
        try simp at s4
        have z4_0 : w1.heap.size < w4.heap.size := by omega
        have k4_0_0 : w4.cell? ⟨w1.heap.size, 0, none⟩ = some (.int .i64 (x)) := (b4.cell (p := ⟨w1.heap.size, 0, none⟩) (by first | (simp; done) | (simp; omega) | omega)).trans (by first | with_reducible assumption | (simp [go_sem]; done) | (simp [go_sem, *]; done))
        have g4_0_0 : w4.frozen? ⟨w1.heap.size, 0, none⟩ = false := (b4.frozen (p := ⟨w1.heap.size, 0, none⟩) (by first | (simp; done) | (simp; omega) | omega)).trans (by first | with_reducible assumption | (simp [go_sem]; done) | (simp [go_sem, *]; done))
        have k4_0_1 : w4.cell? ⟨w1.heap.size, 1, none⟩ = some (.int .i64 (y)) := (b4.cell (p := ⟨w1.heap.size, 1, none⟩) (by first | (simp; done) | (simp; omega) | omega)).trans (by first | with_reducible assumption | (simp [go_sem]; done) | (simp [go_sem, *]; done))
        have g4_0_1 : w4.frozen? ⟨w1.heap.size, 1, none⟩ = false := (b4.frozen (p := ⟨w1.heap.size, 1, none⟩) (by first | (simp; done) | (simp; omega) | omega)).trans (by first | with_reducible assumption | (simp [go_sem]; done) | (simp [go_sem, *]; done))
        clear k3_0_0 g3_0_0 k3_0_1 g3_0_1
        have hgl4 : gl < w4.heap.size := by omega
        go_wp2_with fail
        refine (K4.out w4 ).mono ?_
        rintro e w5 ⟨rfl, b5⟩
        have HROW5 := Lib.hid (row_belowHalfPlane (row_belowHalfPlane HROW4.out hgl4 (show Below _ _ w4 from (by (repeat (first | with_reducible exact Below.refl _ _ | with_reducible refine bl_alloc ?_ _ | with_reducible refine bl_drew ?_ | with_reducible refine bl_set ?_ (by first | (simp; done) | (simp; omega)) _ | with_reducible refine bl_call (by assumption) ?_))))) (by first | omega | (simp; omega)) b5)
        have s5 := b5.size
        try simp at s5
        have z5_0 : w1.heap.size < w5.heap.size := by omega
        have k5_0_0 : w5.cell? ⟨w1.heap.size, 0, none⟩ = some (.int .i64 (x)) := (b5.cell (p := ⟨w1.heap.size, 0, none⟩) (by first | (simp; done) | (simp; omega) | omega)).trans (by first | with_reducible assumption | (simp [go_sem]; done) | (simp [go_sem, *]; done))
        have g5_0_0 : w5.frozen? ⟨w1.heap.size, 0, none⟩ = false := (b5.frozen (p := ⟨w1.heap.size, 0, none⟩) (by first | (simp; done) | (simp; omega) | omega)).trans (by first | with_reducible assumption | (simp [go_sem]; done) | (simp [go_sem, *]; done))
        have k5_0_1 : w5.cell? ⟨w1.heap.size, 1, none⟩ = some (.int .i64 (y)) := (b5.cell (p := ⟨w1.heap.size, 1, none⟩) (by first | (simp; done) | (simp; omega) | omega)).trans (by first | with_reducible assumption | (simp [go_sem]; done) | (simp [go_sem, *]; done))
        have g5_0_1 : w5.frozen? ⟨w1.heap.size, 1, none⟩ = false := (b5.frozen (p := ⟨w1.heap.size, 1, none⟩) (by first | (simp; done) | (simp; omega) | omega)).trans (by first | with_reducible assumption | (simp [go_sem]; done) | (simp [go_sem, *]; done))
        clear k4_0_0 g4_0_0 k4_0_1 g4_0_1
        have hgl5 : gl < w5.heap.size := by omega
        go_wp2_with fail
        refine (K2.out w5 (by first | omega | (simp; omega)) (row_belowHalfPlane HROW5.out hgl5 (by (repeat (first | with_reducible exact Below.refl _ _ | with_reducible refine bl_alloc ?_ _ | with_reducible refine bl_drew ?_ | with_reducible refine bl_set ?_ (by first | (simp; done) | (simp; omega)) _ | with_reducible refine bl_call (by assumption) ?_))))).mono ?_
        rintro e w6 ⟨rfl, b6⟩
        have HROW6 := Lib.hid (row_belowHalfPlane (row_belowHalfPlane HROW5.out hgl5 (show Below _ _ w5 from (by (repeat (first | with_reducible exact Below.refl _ _ | with_reducible refine bl_alloc ?_ _ | with_reducible refine bl_drew ?_ | with_reducible refine bl_set ?_ (by first | (simp; done) | (simp; omega)) _ | with_reducible refine bl_call (by assumption) ?_))))) (by first | omega | (simp; omega)) b6)
        have s6 := b6.size
        try simp at s6
        have z6_0 : w1.heap.size < w6.heap.size := by omega
        have k6_0_0 : w6.cell? ⟨w1.heap.size, 0, none⟩ = some (.int .i64 (x)) := (b6.cell (p := ⟨w1.heap.size, 0, none⟩) (by first | (simp; done) | (simp; omega) | omega)).trans (by first | with_reducible assumption | (simp [go_sem]; done) | (simp [go_sem, *]; done))
        have g6_0_0 : w6.frozen? ⟨w1.heap.size, 0, none⟩ = false := (b6.frozen (p := ⟨w1.heap.size, 0, none⟩) (by first | (simp; done) | (simp; omega) | omega)).trans (by first | with_reducible assumption | (simp [go_sem]; done) | (simp [go_sem, *]; done))
        have k6_0_1 : w6.cell? ⟨w1.heap.size, 1, none⟩ = some (.int .i64 (y)) := (b6.cell (p := ⟨w1.heap.size, 1, none⟩) (by first | (simp; done) | (simp; omega) | omega)).trans (by first | with_reducible assumption | (simp [go_sem]; done) | (simp [go_sem, *]; done))
        have g6_0_1 : w6.frozen? ⟨w1.heap.size, 1, none⟩ = false := (b6.frozen (p := ⟨w1.heap.size, 1, none⟩) (by first | (simp; done) | (simp; omega) | omega)).trans (by first | with_reducible assumption | (simp [go_sem]; done) | (simp [go_sem, *]; done))
        clear k5_0_0 g5_0_0 k5_0_1 g5_0_1
        have hgl6 : gl < w6.heap.size := by omega
        go_wp2
        go_ret
        exact ⟨rfl, (by (repeat (first | with_reducible exact Below.refl _ _ | with_reducible refine bl_alloc ?_ _ | with_reducible refine bl_drew ?_ | with_reducible refine bl_set ?_ (by first | (simp; done) | (simp; omega)) _ | with_reducible refine bl_call (by assumption) ?_)))⟩

      | true =>
        obtain ⟨r, hr⟩ : ∃ r, inrB zs x y = r := ⟨_, rfl⟩
        have hrr : (r == r) = true := by simp
        have hnn : (r != r) = false := by simp
        have K1 : Hid (∀ W : World, gl < W.heap.size → rowOfHalfPlane W gl 0 zs → Calls Try.prog 20 #[.slice (some ⟨gl, 0, none⟩) zs.length cap, .agg #[.int .i64 x, .int .i64 y]] W fun e w' => e = .returned (.bool r) ∧ Below W.heap.size W w') := Lib.hid fun W lt row => by
          have h := impl_InRegion gl 0 zs.length cap zs x y W (by omega) rfl lt row
          rw [inrV_yes hv hq, hr] at h
          exact h
        have K2 : Hid (∀ W : World, gl < W.heap.size → rowOfHalfPlane W gl 0 zs → Calls Try.prog 21 #[.slice (some ⟨gl, 0, none⟩) zs.length cap, .agg #[.int .i64 x, .int .i64 y]] W fun e w' => e = .returned (.bool r) ∧ Below W.heap.size W w') := Lib.hid fun W lt row => by
          have h := spec_InRegion gl 0 zs.length cap zs x y W (by omega) rfl lt row
          rw [inrV_yes hv hq, hr] at h
          exact h
        have K3 : Hid (∀ W : World, gl < W.heap.size → rowOfHalfPlane W gl 0 zs → Calls Try.prog 22 #[.slice (some ⟨gl, 0, none⟩) zs.length cap] W fun e w' => e = .returned (.bool true) ∧ Below W.heap.size W w') := Lib.hid fun W lt row => by
          have h := impl_ValidHalves gl 0 zs.length cap zs W (by omega) rfl lt row
          have h2 : (zs.all (fun z : Int × Int × Int => hpB z.1 z.2.1 z.2.2) && decide (zs.length ≤ 8)) = true := hv
          rw [h2] at h
          exact h
        have K4 : Hid (∀ W : World, Calls Try.prog 23 #[.agg #[.int .i64 x, .int .i64 y]] W fun e w' => e = .returned (.bool true) ∧ Below W.heap.size W w') := Lib.hid fun W => by
          have h := impl_ValidPoint x y W
          rw [hq] at h
          exact h
        have HONE : Hid (∀ (kk : Nat), kk < zs.length → ∀ (cc : Nat) (W : World), gl < W.heap.size → rowOfHalfPlane W gl 0 zs → Calls Try.prog 20 #[.slice (some ⟨gl, kk * 3, none⟩) 1 cc, .agg #[.int .i64 x, .int .i64 y]] W fun e w' => e = .returned (.bool (inrP x y zs[kk]!)) ∧ Below W.heap.size W w') := Lib.hid fun kk hk cc W lt row => by
          have h := impl_InRegion gl (kk * 3) 1 cc [zs[kk]!] x y W (by omega) rfl lt (fun j hj => by
            obtain rfl : j = 0 := by simpa using hj
            have h := row kk hk
            simp only [Nat.zero_add, Nat.zero_mul, Nat.add_zero] at h ⊢
            exact h)
          rw [inrV_one hv hq hk] at h
          exact h
        have HNIL : Hid (∀ (bb : Nat) (W : World), bb < W.heap.size → Calls Try.prog 20 #[.slice (some ⟨bb, 0, none⟩) 0 0, .agg #[.int .i64 x, .int .i64 y]] W fun e w' => e = .returned (.bool true) ∧ Below W.heap.size W w') := Lib.hid fun bb W lt => by
          have h := impl_InRegion bb 0 0 0 [] x y W (by omega) rfl lt (fun j hj => absurd hj (by simp))
          rw [inrV_nil hq] at h
          exact h
        have HALL := Lib.hid ((preB_all zs x y).trans hr)
        have HSUC : Hid (∀ kk, kk < zs.length → preB zs x y (kk + 1) = (preB zs x y kk && inrP x y zs[kk]!)) := Lib.hid fun kk hk => preB_succ hk
        clear hv hq hr
        go_wp2_with fail
        refine (K1.out (w1.alloc (Obj.cells #[.int .i64 (x), .int .i64 (y)] 30)) (by first | omega | (simp; omega)) (row_belowHalfPlane HROW.out hgl (by (repeat (first | with_reducible exact Below.refl _ _ | with_reducible refine bl_alloc ?_ _ | with_reducible refine bl_drew ?_ | with_reducible refine bl_set ?_ (by first | (simp; done) | (simp; omega)) _ | with_reducible refine bl_call (by assumption) ?_))))).mono ?_
        rintro e w2 ⟨rfl, b2⟩
        have HROW2 := Lib.hid (row_belowHalfPlane (row_belowHalfPlane HROW.out hgl (show Below _ _ (w1.alloc (Obj.cells #[.int .i64 (x), .int .i64 (y)] 30)) from (by (repeat (first | with_reducible exact Below.refl _ _ | with_reducible refine bl_alloc ?_ _ | with_reducible refine bl_drew ?_ | with_reducible refine bl_set ?_ (by first | (simp; done) | (simp; omega)) _ | with_reducible refine bl_call (by assumption) ?_))))) (by first | omega | (simp; omega)) b2)
        have s2 := b2.size
        try simp at s2
        have z2_0 : w1.heap.size < w2.heap.size := by omega
        have k2_0_0 : w2.cell? ⟨w1.heap.size, 0, none⟩ = some (.int .i64 (x)) := (b2.cell (p := ⟨w1.heap.size, 0, none⟩) (by first | (simp; done) | (simp; omega) | omega)).trans (by first | with_reducible assumption | (simp [go_sem]; done) | (simp [go_sem, *]; done))
        have g2_0_0 : w2.frozen? ⟨w1.heap.size, 0, none⟩ = false := (b2.frozen (p := ⟨w1.heap.size, 0, none⟩) (by first | (simp; done) | (simp; omega) | omega)).trans (by first | with_reducible assumption | (simp [go_sem]; done) | (simp [go_sem, *]; done))
        have k2_0_1 : w2.cell? ⟨w1.heap.size, 1, none⟩ = some (.int .i64 (y)) := (b2.cell (p := ⟨w1.heap.size, 1, none⟩) (by first | (simp; done) | (simp; omega) | omega)).trans (by first | with_reducible assumption | (simp [go_sem]; done) | (simp [go_sem, *]; done))
        have g2_0_1 : w2.frozen? ⟨w1.heap.size, 1, none⟩ = false := (b2.frozen (p := ⟨w1.heap.size, 1, none⟩) (by first | (simp; done) | (simp; omega) | omega)).trans (by first | with_reducible assumption | (simp [go_sem]; done) | (simp [go_sem, *]; done))
        have hgl2 : gl < w2.heap.size := by omega
        go_wp2_with fail
        refine (K2.out w2 (by first | omega | (simp; omega)) (row_belowHalfPlane HROW2.out hgl2 (by (repeat (first | with_reducible exact Below.refl _ _ | with_reducible refine bl_alloc ?_ _ | with_reducible refine bl_drew ?_ | with_reducible refine bl_set ?_ (by first | (simp; done) | (simp; omega)) _ | with_reducible refine bl_call (by assumption) ?_))))).mono ?_
        rintro e w3 ⟨rfl, b3⟩
        have HROW3 := Lib.hid (row_belowHalfPlane (row_belowHalfPlane HROW2.out hgl2 (show Below _ _ w2 from (by (repeat (first | with_reducible exact Below.refl _ _ | with_reducible refine bl_alloc ?_ _ | with_reducible refine bl_drew ?_ | with_reducible refine bl_set ?_ (by first | (simp; done) | (simp; omega)) _ | with_reducible refine bl_call (by assumption) ?_))))) (by first | omega | (simp; omega)) b3)
        have s3 := b3.size
        try simp at s3
        have z3_0 : w1.heap.size < w3.heap.size := by omega
        have k3_0_0 : w3.cell? ⟨w1.heap.size, 0, none⟩ = some (.int .i64 (x)) := (b3.cell (p := ⟨w1.heap.size, 0, none⟩) (by first | (simp; done) | (simp; omega) | omega)).trans (by first | with_reducible assumption | (simp [go_sem]; done) | (simp [go_sem, *]; done))
        have g3_0_0 : w3.frozen? ⟨w1.heap.size, 0, none⟩ = false := (b3.frozen (p := ⟨w1.heap.size, 0, none⟩) (by first | (simp; done) | (simp; omega) | omega)).trans (by first | with_reducible assumption | (simp [go_sem]; done) | (simp [go_sem, *]; done))
        have k3_0_1 : w3.cell? ⟨w1.heap.size, 1, none⟩ = some (.int .i64 (y)) := (b3.cell (p := ⟨w1.heap.size, 1, none⟩) (by first | (simp; done) | (simp; omega) | omega)).trans (by first | with_reducible assumption | (simp [go_sem]; done) | (simp [go_sem, *]; done))
        have g3_0_1 : w3.frozen? ⟨w1.heap.size, 1, none⟩ = false := (b3.frozen (p := ⟨w1.heap.size, 1, none⟩) (by first | (simp; done) | (simp; omega) | omega)).trans (by first | with_reducible assumption | (simp [go_sem]; done) | (simp [go_sem, *]; done))
        clear k2_0_0 g2_0_0 k2_0_1 g2_0_1
        have hgl3 : gl < w3.heap.size := by omega
        go_wp2_with fail
        refine (K3.out w3 (by first | omega | (simp; omega)) (row_belowHalfPlane HROW3.out hgl3 (by (repeat (first | with_reducible exact Below.refl _ _ | with_reducible refine bl_alloc ?_ _ | with_reducible refine bl_drew ?_ | with_reducible refine bl_set ?_ (by first | (simp; done) | (simp; omega)) _ | with_reducible refine bl_call (by assumption) ?_))))).mono ?_
        rintro e w4 ⟨rfl, b4⟩
        have HROW4 := Lib.hid (row_belowHalfPlane (row_belowHalfPlane HROW3.out hgl3 (show Below _ _ w3 from (by (repeat (first | with_reducible exact Below.refl _ _ | with_reducible refine bl_alloc ?_ _ | with_reducible refine bl_drew ?_ | with_reducible refine bl_set ?_ (by first | (simp; done) | (simp; omega)) _ | with_reducible refine bl_call (by assumption) ?_))))) (by first | omega | (simp; omega)) b4)
        have s4 := b4.size
        try simp at s4
        have z4_0 : w1.heap.size < w4.heap.size := by omega
        have k4_0_0 : w4.cell? ⟨w1.heap.size, 0, none⟩ = some (.int .i64 (x)) := (b4.cell (p := ⟨w1.heap.size, 0, none⟩) (by first | (simp; done) | (simp; omega) | omega)).trans (by first | with_reducible assumption | (simp [go_sem]; done) | (simp [go_sem, *]; done))
        have g4_0_0 : w4.frozen? ⟨w1.heap.size, 0, none⟩ = false := (b4.frozen (p := ⟨w1.heap.size, 0, none⟩) (by first | (simp; done) | (simp; omega) | omega)).trans (by first | with_reducible assumption | (simp [go_sem]; done) | (simp [go_sem, *]; done))
        have k4_0_1 : w4.cell? ⟨w1.heap.size, 1, none⟩ = some (.int .i64 (y)) := (b4.cell (p := ⟨w1.heap.size, 1, none⟩) (by first | (simp; done) | (simp; omega) | omega)).trans (by first | with_reducible assumption | (simp [go_sem]; done) | (simp [go_sem, *]; done))
        have g4_0_1 : w4.frozen? ⟨w1.heap.size, 1, none⟩ = false := (b4.frozen (p := ⟨w1.heap.size, 1, none⟩) (by first | (simp; done) | (simp; omega) | omega)).trans (by first | with_reducible assumption | (simp [go_sem]; done) | (simp [go_sem, *]; done))
        clear k3_0_0 g3_0_0 k3_0_1 g3_0_1
        have hgl4 : gl < w4.heap.size := by omega
        go_wp2_with fail
        refine (K4.out w4 ).mono ?_
        rintro e w5 ⟨rfl, b5⟩
        have HROW5 := Lib.hid (row_belowHalfPlane (row_belowHalfPlane HROW4.out hgl4 (show Below _ _ w4 from (by (repeat (first | with_reducible exact Below.refl _ _ | with_reducible refine bl_alloc ?_ _ | with_reducible refine bl_drew ?_ | with_reducible refine bl_set ?_ (by first | (simp; done) | (simp; omega)) _ | with_reducible refine bl_call (by assumption) ?_))))) (by first | omega | (simp; omega)) b5)
        have s5 := b5.size
        try simp at s5
        have z5_0 : w1.heap.size < w5.heap.size := by omega
        have k5_0_0 : w5.cell? ⟨w1.heap.size, 0, none⟩ = some (.int .i64 (x)) := (b5.cell (p := ⟨w1.heap.size, 0, none⟩) (by first | (simp; done) | (simp; omega) | omega)).trans (by first | with_reducible assumption | (simp [go_sem]; done) | (simp [go_sem, *]; done))
        have g5_0_0 : w5.frozen? ⟨w1.heap.size, 0, none⟩ = false := (b5.frozen (p := ⟨w1.heap.size, 0, none⟩) (by first | (simp; done) | (simp; omega) | omega)).trans (by first | with_reducible assumption | (simp [go_sem]; done) | (simp [go_sem, *]; done))
        have k5_0_1 : w5.cell? ⟨w1.heap.size, 1, none⟩ = some (.int .i64 (y)) := (b5.cell (p := ⟨w1.heap.size, 1, none⟩) (by first | (simp; done) | (simp; omega) | omega)).trans (by first | with_reducible assumption | (simp [go_sem]; done) | (simp [go_sem, *]; done))
        have g5_0_1 : w5.frozen? ⟨w1.heap.size, 1, none⟩ = false := (b5.frozen (p := ⟨w1.heap.size, 1, none⟩) (by first | (simp; done) | (simp; omega) | omega)).trans (by first | with_reducible assumption | (simp [go_sem]; done) | (simp [go_sem, *]; done))
        clear k4_0_0 g4_0_0 k4_0_1 g4_0_1
        have hgl5 : gl < w5.heap.size := by omega
        have BW0 := Lib.hid (show Below w.heap.size w w5 by (repeat (first | with_reducible exact Below.refl _ _ | with_reducible refine bl_alloc ?_ _ | with_reducible refine bl_drew ?_ | with_reducible refine bl_set ?_ (by first | (simp; done) | (simp; omega)) _ | with_reducible refine bl_call (by assumption) ?_)))
        have hBX : w1.heap.size < w5.heap.size := by omega
        go_wp2
        go_loopg [6, 7] zs.length (fun gg s6 s7 wr => ∃ kk : Nat, kk ≤ zs.length ∧ zs.length - kk ≤ gg ∧ s7 = .int .i64 kk ∧ s6 = .bool (preB zs x y kk) ∧ Aside (Below w.heap.size w wr) ∧ Aside (rowOfHalfPlane wr gl 0 zs) ∧ gl < wr.heap.size ∧ wr.cell? ⟨w1.heap.size, 0, none⟩ = some (.int .i64 x) ∧ wr.cell? ⟨w1.heap.size, 1, none⟩ = some (.int .i64 y) ∧ w1.heap.size < wr.heap.size)
        case atStart => exact ⟨0, Nat.zero_le _, by omega, rfl, rfl, BW0.out, HROW5.out, hgl5, by assumption, by assumption, hBX⟩
        case round =>
          clear k5_0_0 g5_0_0 k5_0_1 g5_0_1 BW0 HROW5 hgl5 hBX
          obtain ⟨kk, hkk, hg, rfl, rfl, BW, RW, GW, X0, X1, XS⟩ := hrel
          by_cases hlt : kk < zs.length
          · have hltz : (kk : Int) < (zs.length : Int) := by omega
            have ES := HSUC.out kk hlt
            have KO := Lib.hid (HONE.out kk hlt)
            have k3 := cell_regrown X0
            have k4 := cell_regrown X1
            clear X0 X1
            have c1 : (0 : Int) ≤ (kk : Int) := by omega
            have c2 : (kk : Int) ≤ (kk : Int) + 1 := by omega
            have c3 : (kk : Int) + 1 ≤ (cap : Int) := by omega
            have c4 : kk < cap := by omega
            cases hP : preB zs x y kk with
            | false =>
              rw [hP, Bool.false_and] at ES
              clear hP KO
              go_wp2
              refine wp_region_quiet_below (by kernel_rfl) (by kernel_rfl) ?_
              repeat (go_big_quiet_step ((fail)))
              refine wpQuiet_nil ?_
              intro _ hw'
              obtain ⟨⟨dq, osq⟩, hw''⟩ := hw'
              subst hw''
              have l3 := k3 dq osq
              have l4 := k4 dq osq
              have HB := below_regrown wr dq osq
              have B3 := Lib.hid (bl_call HB BW.out)
              have R3 := Lib.hid (row_belowHalfPlane RW.out GW HB)
              have S3 := Nat.lt_of_lt_of_le XS HB.size
              have G3 := Nat.lt_of_lt_of_le GW HB.size
              clear k3 k4 HB
              go_wp2
              go_roundg (zs.length - (kk + 1))
              case measure => omega
              case rel => exact ⟨kk + 1, by omega, by omega, by go_num, by rw [ES], B3.out, R3.out, G3, l3, l4, S3⟩

            | true =>
              rw [hP, Bool.true_and] at ES
              clear hP
              generalize inrP x y zs[kk]! = v at ES KO
              go_wp2
              refine wp_region_quiet_below (by kernel_rfl) (by kernel_rfl) ?_
              repeat (go_big_quiet_step (((go_at_call 20; exact Calls.regrown_of (KO.out _ _ (Nat.lt_of_lt_of_le GW (below_regrown _ _ _).size) (row_belowHalfPlane RW.out GW (below_regrown _ _ _)))))))
              refine wpQuiet_nil ?_
              intro _ hw'
              obtain ⟨⟨dq, osq⟩, hw''⟩ := hw'
              subst hw''
              have l3 := k3 dq osq
              have l4 := k4 dq osq
              have HB := below_regrown wr dq osq
              have B3 := Lib.hid (bl_call HB BW.out)
              have R3 := Lib.hid (row_belowHalfPlane RW.out GW HB)
              have S3 := Nat.lt_of_lt_of_le XS HB.size
              have G3 := Nat.lt_of_lt_of_le GW HB.size
              clear k3 k4 HB
              go_wp2
              go_roundg (zs.length - (kk + 1))
              case measure => omega
              case rel => exact ⟨kk + 1, by omega, by omega, by go_num, by rw [ES], B3.out, R3.out, G3, l3, l4, S3⟩

          · have hltz : ¬ (kk : Int) < (zs.length : Int) := by omega
            obtain rfl : kk = zs.length := by omega
            rw [HALL.out]
            go_wp2_with fail
            refine (HNIL.out _ _ (by first | (simp; done) | (simp; omega))).mono ?_
            rintro e w20 ⟨rfl, b20⟩
            have BW2 := BW.out
            go_wp2
            go_ret
            exact ⟨rfl, (by (repeat (first | with_reducible exact Below.refl _ _ | with_reducible refine bl_alloc ?_ _ | with_reducible refine bl_drew ?_ | with_reducible refine bl_set ?_ (by first | (simp; done) | (simp; omega)) _ | with_reducible refine bl_call (by assumption) ?_)))⟩

  · have hnz : (1048576 : Int) < (n : Int) := by omega
    go_enter Try.func6, Try.ntmps6
    go_wp2
    go_ret
    exact ⟨rfl, Below.refl _ _⟩

set_option maxRecDepth 100000 in
theorem lifted (os : Os) (started : os.Started) (H : Type) (enc : TypeId × Value → H) :
    ReturnsInHanded {} Try.checked os 6 .any (Rows.fnInRegionSpec.pre6 enc Try.prog Try.f6 Rows.fnInRegionRow.domain false) (Rows.fnInRegionSpec.post enc Try.prog Try.f6 false true false false) := by
  refine returnsInHanded_of_change (C := Try.checked) own started (by kernel_rfl) Try.func6
    (ChangeSpec.witness6 (enc := enc) (C := Try.checked) false ⟨#[], #[.slice none 0 0], []⟩ 8 (by kernel_rfl) (by kernel_rfl) (by kernel_rfl) (by kernel_rfl)) ?_
  intro W base args ds gs before hval0 hW hcnd _
  have hval : ∀ (j : Nat) t v, Try.f6.params[j]? = some t → args[j]? = some v → Value.okWide Try.prog W .any base t v := hval0
  have hW' := hW
  obtain ⟨p, q, hA0, hV, rfl, hfz, hnd⟩ := hW
  have hA : DataW.TrodAll enc Try.prog W 0 (fun _ => true) true Try.f6.params.toList args.toList ds p := hA0
  rw [Try.params6] at hA hval
  obtain ⟨v0, vs0, d0, ds0, p0, q0, hargs, rfl, rfl, h0, r0⟩ := trodAll_cons hA
  obtain ⟨rfl, rfl, rfl⟩ := trodAll_nil r0
  obtain rfl : args = #[v0] := by cases args; simp_all
  obtain ⟨rfl, rfl⟩ := trodVars_none hV
  have k0 := h0
  have lt0 : ∀ x ∈ p0, x.block < W.heap.size := by obtain ⟨m, hm⟩ := k0; exact DataW.trod_lt m _ _ _ hm
  obtain ⟨a0, n0, c0, rfl⟩ := okWide_slice Try.underlying22 (hval 0 22 v0 rfl rfl)
  obtain ⟨hs0, hl0, hm0⟩ := open_bytes Try.underlying22 Try.underlying5 (by kernel_rfl) h0
  clear hA0 hval0
  refine (walk a0 n0 c0 W hs0 hl0 hm0).mono fun e W' ⟨he, bel⟩ => ?_
  subst he
  exact ⟨_, rfl, _, _, _, [], _, [], hW', trodAll_mk1 (shut_bool Try.underlying4 _), (trodAll_cons_mk (Below.trod laidOut (by kernel_rfl) (of_decide_eq_true (by kernel_rfl)) k0 bel lt0) trodAll_mk0), rfl, bel.frame _, fun h => by cases h⟩

theorem proved : Rows.FnInRegionSaid :=
  OpenClaim.holds_of_wide 6 Try.f6 rfl rfl rfl rfl rfl rfl rfl ⟨rfl, rfl, rfl, rfl, rfl⟩ rfl rfl rfl rfl rfl (by kernel_rfl) Try.func6 (by kernel_rfl)
    (of_decide_eq_true (by kernel_rfl)) (by unfold Func.isWrapper; first | (rw [if_pos (by decide +kernel)]; kernel_rfl) | (rw [if_neg (by decide +kernel)]; exact ⟨rfl, rfl⟩))
    (fun os started H enc _ => lifted os started H enc)

end FnInRegion

end Go.Proofs.Ytbfeaiaoelkggaa
