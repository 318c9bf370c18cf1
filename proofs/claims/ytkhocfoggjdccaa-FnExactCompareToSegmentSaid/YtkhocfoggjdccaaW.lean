/- Contracts of functions that this seat's statements reach: each is shown to compute a plain Lean function, and to leave what was there as it was. No conditions but those in each theorem. -/
import Derived.Test.YtkhocfoggjdccaaSg
import Derived.Test.YtkhocfoggjdccaaB1
import Derived.Test.YtkhocfoggjdccaaPlainW
import Derived.Test.YtkhocfoggjdccaaGn
namespace Go.Proofs.Ytkhocfoggjdccaa
open Go.RowKit
set_option linter.unusedVariables false

open Go.Sort

theorem spec_dot (a1 : Int) (a2 : Int) (b1 : Int) (b2 : Int) (c1 : Int) (c2 : Int) (w : World) (ha1 : -1000 ≤ a1 ∧ a1 ≤ 1000) (ha2 : -1000 ≤ a2 ∧ a2 ≤ 1000) (hb1 : -1000 ≤ b1 ∧ b1 ≤ 1000) (hb2 : -1000 ≤ b2 ∧ b2 ≤ 1000) (hc1 : -1000 ≤ c1 ∧ c1 ≤ 1000) (hc2 : -1000 ≤ c2 ∧ c2 ≤ 1000) :
    Calls Try.prog 95 #[.agg #[.int .i64 a1, .int .i64 a2], .agg #[.int .i64 b1, .int .i64 b2], .agg #[.int .i64 c1, .int .i64 c2]] w fun e w' => e = .returned (.int .i64 (dotV a1 a2 b1 b2 c1 c2)) ∧ Below w.heap.size w w' := by
  obtain ⟨la1, ua1⟩ := ha1
  obtain ⟨la2, ua2⟩ := ha2
  obtain ⟨lb1, ub1⟩ := hb1
  obtain ⟨lb2, ub2⟩ := hb2
  obtain ⟨lc1, uc1⟩ := hc1
  obtain ⟨lc2, uc2⟩ := hc2
  obtain ⟨ml, mu⟩ := mul_bd (b1 - a1) (c1 - a1) 2000 2000 (by omega) (by omega) (by omega) (by omega)
  obtain ⟨kl, ku⟩ := mul_bd (b2 - a2) (c2 - a2) 2000 2000 (by omega) (by omega) (by omega) (by omega)
  go_enter Try.func95, Try.ntmps95
  go_wp2
  all_goals go_ret
  all_goals exact ⟨rfl, (by (repeat (first | with_reducible exact Below.refl _ _ | with_reducible refine bl_alloc ?_ _ | with_reducible refine bl_drew ?_ | with_reducible refine bl_set ?_ (by first | (simp; done) | (simp; omega)) _ | with_reducible refine bl_call (by assumption) ?_)))⟩

set_option maxHeartbeats 4000000 in
theorem spec_toSegment (aX : Int) (aY : Int) (bX : Int) (bY : Int) (x : Int) (y : Int) (w : World) (haX : -1000 ≤ aX ∧ aX ≤ 1000) (haY : -1000 ≤ aY ∧ aY ≤ 1000) (hbX : -1000 ≤ bX ∧ bX ≤ 1000) (hbY : -1000 ≤ bY ∧ bY ≤ 1000) (hx : -1000 ≤ x ∧ x ≤ 1000) (hy : -1000 ≤ y ∧ y ≤ 1000) :
    Calls Try.prog 74 #[.agg #[.int .i64 aX, .int .i64 aY, .int .i64 bX, .int .i64 bY], .agg #[.int .i64 x, .int .i64 y]] w fun e w' => e = .returned (.tuple #[.int .i64 (NumV aX aY bX bY x y), .int .i64 (DenV aX aY bX bY x y)]) ∧ Below w.heap.size w w' := by
  obtain ⟨cl, cu⟩ := cross_bd0 aX aY bX bY x y haX haY hbX hbY hx hy
  obtain ⟨fl1, fu1⟩ := far_bd0 aX aY x y haX haY hx hy
  obtain ⟨fl2, fu2⟩ := far_bd0 bX bY x y hbX hbY hx hy
  obtain ⟨fl3, fu3⟩ := far_bd0 aX aY bX bY haX haY hbX hbY
  obtain ⟨ml, mu⟩ := mul_bd _ _ 8000000 8000000 ⟨cl, cu⟩ ⟨cl, cu⟩ (by omega) (by omega)
  obtain ⟨laX, uaX⟩ := haX
  obtain ⟨laY, uaY⟩ := haY
  obtain ⟨lbX, ubX⟩ := hbX
  obtain ⟨lbY, ubY⟩ := hbY
  obtain ⟨lx, ux⟩ := hx
  obtain ⟨ly, uy⟩ := hy
  by_cases q1 : dotV aX aY bX bY x y ≤ 0
  · have rn : NumV aX aY bX bY x y = farV aX aY x y := by simp [NumV, q1]
    have rd : DenV aX aY bX bY x y = 1 := by simp [DenV, q1]
    rw [rn, rd]
    clear rn rd
    have K1 : Hid (∀ W : World, Calls Try.prog 95 #[.agg #[.int .i64 aX, .int .i64 aY], .agg #[.int .i64 bX, .int .i64 bY], .agg #[.int .i64 x, .int .i64 y]] W fun e w' => e = .returned (.int .i64 (dotV aX aY bX bY x y)) ∧ Below W.heap.size W w') := Lib.hid fun W => by
      have h := spec_dot (aX) (aY) (bX) (bY) (x) (y) W (by omega) (by omega) (by omega) (by omega) (by omega) (by omega)
      exact h
    have K2 : Hid (∀ W : World, Calls Try.prog 95 #[.agg #[.int .i64 bX, .int .i64 bY], .agg #[.int .i64 aX, .int .i64 aY], .agg #[.int .i64 x, .int .i64 y]] W fun e w' => e = .returned (.int .i64 (dotV bX bY aX aY x y)) ∧ Below W.heap.size W w') := Lib.hid fun W => by
      have h := spec_dot (bX) (bY) (aX) (aY) (x) (y) W (by omega) (by omega) (by omega) (by omega) (by omega) (by omega)
      exact h
    have K3 : Hid (∀ W : World, Calls Try.prog 96 #[.agg #[.int .i64 aX, .int .i64 aY], .agg #[.int .i64 x, .int .i64 y]] W fun e w' => e = .returned (.int .i64 (farV aX aY x y)) ∧ Below W.heap.size W w') := Lib.hid fun W => by
      have h := spec_square (aX) (aY) (x) (y) W (by omega) (by omega) (by omega) (by omega)
      exact h
    have K4 : Hid (∀ W : World, Calls Try.prog 96 #[.agg #[.int .i64 bX, .int .i64 bY], .agg #[.int .i64 x, .int .i64 y]] W fun e w' => e = .returned (.int .i64 (farV bX bY x y)) ∧ Below W.heap.size W w') := Lib.hid fun W => by
      have h := spec_square (bX) (bY) (x) (y) W (by omega) (by omega) (by omega) (by omega)
      exact h
    have K5 : Hid (∀ W : World, Calls Try.prog 97 #[.agg #[.int .i64 aX, .int .i64 aY], .agg #[.int .i64 bX, .int .i64 bY], .agg #[.int .i64 x, .int .i64 y]] W fun e w' => e = .returned (.int .i64 (crossV aX aY bX bY x y)) ∧ Below W.heap.size W w') := Lib.hid fun W => by
      have h := spec_cross (aX) (aY) (bX) (bY) (x) (y) W (by omega) (by omega) (by omega) (by omega) (by omega) (by omega)
      exact h
    have K6 : Hid (∀ W : World, Calls Try.prog 96 #[.agg #[.int .i64 aX, .int .i64 aY], .agg #[.int .i64 bX, .int .i64 bY]] W fun e w' => e = .returned (.int .i64 (farV aX aY bX bY)) ∧ Below W.heap.size W w') := Lib.hid fun W => by
      have h := spec_square (aX) (aY) (bX) (bY) W (by omega) (by omega) (by omega) (by omega)
      exact h
    generalize dotV aX aY bX bY x y = D1 at *
    generalize dotV bX bY aX aY x y = D2 at *
    generalize crossV aX aY bX bY x y = C at *
    go_enter Try.func74, Try.ntmps74
    go_wp2_with fail
    refine (K1.out _).mono ?_
    rintro e w1 ⟨rfl, b1⟩
    have s1 := b1.size
    try simp at s1
    have z1_0 : w.heap.size < w1.heap.size := by omega
    have k1_0_0 : w1.cell? ⟨w.heap.size, 0, none⟩ = some (.int .i64 (aX)) := (b1.cell (p := ⟨w.heap.size, 0, none⟩) (by first | (simp; done) | (simp; omega) | omega)).trans (by first | with_reducible assumption | (simp [go_sem]; done) | (simp [go_sem, *]; done))
    have g1_0_0 : w1.frozen? ⟨w.heap.size, 0, none⟩ = false := (b1.frozen (p := ⟨w.heap.size, 0, none⟩) (by first | (simp; done) | (simp; omega) | omega)).trans (by first | with_reducible assumption | (simp [go_sem]; done) | (simp [go_sem, *]; done))
    have k1_0_1 : w1.cell? ⟨w.heap.size, 1, none⟩ = some (.int .i64 (aY)) := (b1.cell (p := ⟨w.heap.size, 1, none⟩) (by first | (simp; done) | (simp; omega) | omega)).trans (by first | with_reducible assumption | (simp [go_sem]; done) | (simp [go_sem, *]; done))
    have g1_0_1 : w1.frozen? ⟨w.heap.size, 1, none⟩ = false := (b1.frozen (p := ⟨w.heap.size, 1, none⟩) (by first | (simp; done) | (simp; omega) | omega)).trans (by first | with_reducible assumption | (simp [go_sem]; done) | (simp [go_sem, *]; done))
    have k1_0_2 : w1.cell? ⟨w.heap.size, 2, none⟩ = some (.int .i64 (bX)) := (b1.cell (p := ⟨w.heap.size, 2, none⟩) (by first | (simp; done) | (simp; omega) | omega)).trans (by first | with_reducible assumption | (simp [go_sem]; done) | (simp [go_sem, *]; done))
    have g1_0_2 : w1.frozen? ⟨w.heap.size, 2, none⟩ = false := (b1.frozen (p := ⟨w.heap.size, 2, none⟩) (by first | (simp; done) | (simp; omega) | omega)).trans (by first | with_reducible assumption | (simp [go_sem]; done) | (simp [go_sem, *]; done))
    have k1_0_3 : w1.cell? ⟨w.heap.size, 3, none⟩ = some (.int .i64 (bY)) := (b1.cell (p := ⟨w.heap.size, 3, none⟩) (by first | (simp; done) | (simp; omega) | omega)).trans (by first | with_reducible assumption | (simp [go_sem]; done) | (simp [go_sem, *]; done))
    have g1_0_3 : w1.frozen? ⟨w.heap.size, 3, none⟩ = false := (b1.frozen (p := ⟨w.heap.size, 3, none⟩) (by first | (simp; done) | (simp; omega) | omega)).trans (by first | with_reducible assumption | (simp [go_sem]; done) | (simp [go_sem, *]; done))
    have z1_1 : w.heap.size + 1 < w1.heap.size := by omega
    have k1_1_0 : w1.cell? ⟨w.heap.size + 1, 0, none⟩ = some (.int .i64 (x)) := (b1.cell (p := ⟨w.heap.size + 1, 0, none⟩) (by first | (simp; done) | (simp; omega) | omega)).trans (by first | with_reducible assumption | (simp [go_sem]; done) | (simp [go_sem, *]; done))
    have g1_1_0 : w1.frozen? ⟨w.heap.size + 1, 0, none⟩ = false := (b1.frozen (p := ⟨w.heap.size + 1, 0, none⟩) (by first | (simp; done) | (simp; omega) | omega)).trans (by first | with_reducible assumption | (simp [go_sem]; done) | (simp [go_sem, *]; done))
    have k1_1_1 : w1.cell? ⟨w.heap.size + 1, 1, none⟩ = some (.int .i64 (y)) := (b1.cell (p := ⟨w.heap.size + 1, 1, none⟩) (by first | (simp; done) | (simp; omega) | omega)).trans (by first | with_reducible assumption | (simp [go_sem]; done) | (simp [go_sem, *]; done))
    have g1_1_1 : w1.frozen? ⟨w.heap.size + 1, 1, none⟩ = false := (b1.frozen (p := ⟨w.heap.size + 1, 1, none⟩) (by first | (simp; done) | (simp; omega) | omega)).trans (by first | with_reducible assumption | (simp [go_sem]; done) | (simp [go_sem, *]; done))
    go_wp2_with fail
    refine (K3.out _).mono ?_
    rintro e w2 ⟨rfl, b2⟩
    have s2 := b2.size
    try simp at s2
    have z2_0 : w.heap.size < w2.heap.size := by omega
    have k2_0_0 : w2.cell? ⟨w.heap.size, 0, none⟩ = some (.int .i64 (aX)) := (b2.cell (p := ⟨w.heap.size, 0, none⟩) (by first | (simp; done) | (simp; omega) | omega)).trans (by first | with_reducible assumption | (simp [go_sem]; done) | (simp [go_sem, *]; done))
    have g2_0_0 : w2.frozen? ⟨w.heap.size, 0, none⟩ = false := (b2.frozen (p := ⟨w.heap.size, 0, none⟩) (by first | (simp; done) | (simp; omega) | omega)).trans (by first | with_reducible assumption | (simp [go_sem]; done) | (simp [go_sem, *]; done))
    have k2_0_1 : w2.cell? ⟨w.heap.size, 1, none⟩ = some (.int .i64 (aY)) := (b2.cell (p := ⟨w.heap.size, 1, none⟩) (by first | (simp; done) | (simp; omega) | omega)).trans (by first | with_reducible assumption | (simp [go_sem]; done) | (simp [go_sem, *]; done))
    have g2_0_1 : w2.frozen? ⟨w.heap.size, 1, none⟩ = false := (b2.frozen (p := ⟨w.heap.size, 1, none⟩) (by first | (simp; done) | (simp; omega) | omega)).trans (by first | with_reducible assumption | (simp [go_sem]; done) | (simp [go_sem, *]; done))
    have k2_0_2 : w2.cell? ⟨w.heap.size, 2, none⟩ = some (.int .i64 (bX)) := (b2.cell (p := ⟨w.heap.size, 2, none⟩) (by first | (simp; done) | (simp; omega) | omega)).trans (by first | with_reducible assumption | (simp [go_sem]; done) | (simp [go_sem, *]; done))
    have g2_0_2 : w2.frozen? ⟨w.heap.size, 2, none⟩ = false := (b2.frozen (p := ⟨w.heap.size, 2, none⟩) (by first | (simp; done) | (simp; omega) | omega)).trans (by first | with_reducible assumption | (simp [go_sem]; done) | (simp [go_sem, *]; done))
    have k2_0_3 : w2.cell? ⟨w.heap.size, 3, none⟩ = some (.int .i64 (bY)) := (b2.cell (p := ⟨w.heap.size, 3, none⟩) (by first | (simp; done) | (simp; omega) | omega)).trans (by first | with_reducible assumption | (simp [go_sem]; done) | (simp [go_sem, *]; done))
    have g2_0_3 : w2.frozen? ⟨w.heap.size, 3, none⟩ = false := (b2.frozen (p := ⟨w.heap.size, 3, none⟩) (by first | (simp; done) | (simp; omega) | omega)).trans (by first | with_reducible assumption | (simp [go_sem]; done) | (simp [go_sem, *]; done))
    have z2_1 : w.heap.size + 1 < w2.heap.size := by omega
    have k2_1_0 : w2.cell? ⟨w.heap.size + 1, 0, none⟩ = some (.int .i64 (x)) := (b2.cell (p := ⟨w.heap.size + 1, 0, none⟩) (by first | (simp; done) | (simp; omega) | omega)).trans (by first | with_reducible assumption | (simp [go_sem]; done) | (simp [go_sem, *]; done))
    have g2_1_0 : w2.frozen? ⟨w.heap.size + 1, 0, none⟩ = false := (b2.frozen (p := ⟨w.heap.size + 1, 0, none⟩) (by first | (simp; done) | (simp; omega) | omega)).trans (by first | with_reducible assumption | (simp [go_sem]; done) | (simp [go_sem, *]; done))
    have k2_1_1 : w2.cell? ⟨w.heap.size + 1, 1, none⟩ = some (.int .i64 (y)) := (b2.cell (p := ⟨w.heap.size + 1, 1, none⟩) (by first | (simp; done) | (simp; omega) | omega)).trans (by first | with_reducible assumption | (simp [go_sem]; done) | (simp [go_sem, *]; done))
    have g2_1_1 : w2.frozen? ⟨w.heap.size + 1, 1, none⟩ = false := (b2.frozen (p := ⟨w.heap.size + 1, 1, none⟩) (by first | (simp; done) | (simp; omega) | omega)).trans (by first | with_reducible assumption | (simp [go_sem]; done) | (simp [go_sem, *]; done))
    clear k1_0_0 g1_0_0 k1_0_1 g1_0_1 k1_0_2 g1_0_2 k1_0_3 g1_0_3 k1_1_0 g1_1_0 k1_1_1 g1_1_1
    go_wp2
    go_ret2
    exact ⟨rfl, (by (repeat (first | with_reducible exact Below.refl _ _ | with_reducible refine bl_alloc ?_ _ | with_reducible refine bl_drew ?_ | with_reducible refine bl_set ?_ (by first | (simp; done) | (simp; omega)) _ | with_reducible refine bl_call (by assumption) ?_)))⟩
  · by_cases q2 : dotV bX bY aX aY x y ≤ 0
    · have rn : NumV aX aY bX bY x y = farV bX bY x y := by simp [NumV, q1, q2]
      have rd : DenV aX aY bX bY x y = 1 := by simp [DenV, q1, q2]
      rw [rn, rd]
      clear rn rd
      have K1 : Hid (∀ W : World, Calls Try.prog 95 #[.agg #[.int .i64 aX, .int .i64 aY], .agg #[.int .i64 bX, .int .i64 bY], .agg #[.int .i64 x, .int .i64 y]] W fun e w' => e = .returned (.int .i64 (dotV aX aY bX bY x y)) ∧ Below W.heap.size W w') := Lib.hid fun W => by
        have h := spec_dot (aX) (aY) (bX) (bY) (x) (y) W (by omega) (by omega) (by omega) (by omega) (by omega) (by omega)
        exact h
      have K2 : Hid (∀ W : World, Calls Try.prog 95 #[.agg #[.int .i64 bX, .int .i64 bY], .agg #[.int .i64 aX, .int .i64 aY], .agg #[.int .i64 x, .int .i64 y]] W fun e w' => e = .returned (.int .i64 (dotV bX bY aX aY x y)) ∧ Below W.heap.size W w') := Lib.hid fun W => by
        have h := spec_dot (bX) (bY) (aX) (aY) (x) (y) W (by omega) (by omega) (by omega) (by omega) (by omega) (by omega)
        exact h
      have K3 : Hid (∀ W : World, Calls Try.prog 96 #[.agg #[.int .i64 aX, .int .i64 aY], .agg #[.int .i64 x, .int .i64 y]] W fun e w' => e = .returned (.int .i64 (farV aX aY x y)) ∧ Below W.heap.size W w') := Lib.hid fun W => by
        have h := spec_square (aX) (aY) (x) (y) W (by omega) (by omega) (by omega) (by omega)
        exact h
      have K4 : Hid (∀ W : World, Calls Try.prog 96 #[.agg #[.int .i64 bX, .int .i64 bY], .agg #[.int .i64 x, .int .i64 y]] W fun e w' => e = .returned (.int .i64 (farV bX bY x y)) ∧ Below W.heap.size W w') := Lib.hid fun W => by
        have h := spec_square (bX) (bY) (x) (y) W (by omega) (by omega) (by omega) (by omega)
        exact h
      have K5 : Hid (∀ W : World, Calls Try.prog 97 #[.agg #[.int .i64 aX, .int .i64 aY], .agg #[.int .i64 bX, .int .i64 bY], .agg #[.int .i64 x, .int .i64 y]] W fun e w' => e = .returned (.int .i64 (crossV aX aY bX bY x y)) ∧ Below W.heap.size W w') := Lib.hid fun W => by
        have h := spec_cross (aX) (aY) (bX) (bY) (x) (y) W (by omega) (by omega) (by omega) (by omega) (by omega) (by omega)
        exact h
      have K6 : Hid (∀ W : World, Calls Try.prog 96 #[.agg #[.int .i64 aX, .int .i64 aY], .agg #[.int .i64 bX, .int .i64 bY]] W fun e w' => e = .returned (.int .i64 (farV aX aY bX bY)) ∧ Below W.heap.size W w') := Lib.hid fun W => by
        have h := spec_square (aX) (aY) (bX) (bY) W (by omega) (by omega) (by omega) (by omega)
        exact h
      generalize dotV aX aY bX bY x y = D1 at *
      generalize dotV bX bY aX aY x y = D2 at *
      generalize crossV aX aY bX bY x y = C at *
      go_enter Try.func74, Try.ntmps74
      go_wp2_with fail
      refine (K1.out _).mono ?_
      rintro e w1 ⟨rfl, b1⟩
      have s1 := b1.size
      try simp at s1
      have z1_0 : w.heap.size < w1.heap.size := by omega
      have k1_0_0 : w1.cell? ⟨w.heap.size, 0, none⟩ = some (.int .i64 (aX)) := (b1.cell (p := ⟨w.heap.size, 0, none⟩) (by first | (simp; done) | (simp; omega) | omega)).trans (by first | with_reducible assumption | (simp [go_sem]; done) | (simp [go_sem, *]; done))
      have g1_0_0 : w1.frozen? ⟨w.heap.size, 0, none⟩ = false := (b1.frozen (p := ⟨w.heap.size, 0, none⟩) (by first | (simp; done) | (simp; omega) | omega)).trans (by first | with_reducible assumption | (simp [go_sem]; done) | (simp [go_sem, *]; done))
      have k1_0_1 : w1.cell? ⟨w.heap.size, 1, none⟩ = some (.int .i64 (aY)) := (b1.cell (p := ⟨w.heap.size, 1, none⟩) (by first | (simp; done) | (simp; omega) | omega)).trans (by first | with_reducible assumption | (simp [go_sem]; done) | (simp [go_sem, *]; done))
      have g1_0_1 : w1.frozen? ⟨w.heap.size, 1, none⟩ = false := (b1.frozen (p := ⟨w.heap.size, 1, none⟩) (by first | (simp; done) | (simp; omega) | omega)).trans (by first | with_reducible assumption | (simp [go_sem]; done) | (simp [go_sem, *]; done))
      have k1_0_2 : w1.cell? ⟨w.heap.size, 2, none⟩ = some (.int .i64 (bX)) := (b1.cell (p := ⟨w.heap.size, 2, none⟩) (by first | (simp; done) | (simp; omega) | omega)).trans (by first | with_reducible assumption | (simp [go_sem]; done) | (simp [go_sem, *]; done))
      have g1_0_2 : w1.frozen? ⟨w.heap.size, 2, none⟩ = false := (b1.frozen (p := ⟨w.heap.size, 2, none⟩) (by first | (simp; done) | (simp; omega) | omega)).trans (by first | with_reducible assumption | (simp [go_sem]; done) | (simp [go_sem, *]; done))
      have k1_0_3 : w1.cell? ⟨w.heap.size, 3, none⟩ = some (.int .i64 (bY)) := (b1.cell (p := ⟨w.heap.size, 3, none⟩) (by first | (simp; done) | (simp; omega) | omega)).trans (by first | with_reducible assumption | (simp [go_sem]; done) | (simp [go_sem, *]; done))
      have g1_0_3 : w1.frozen? ⟨w.heap.size, 3, none⟩ = false := (b1.frozen (p := ⟨w.heap.size, 3, none⟩) (by first | (simp; done) | (simp; omega) | omega)).trans (by first | with_reducible assumption | (simp [go_sem]; done) | (simp [go_sem, *]; done))
      have z1_1 : w.heap.size + 1 < w1.heap.size := by omega
      have k1_1_0 : w1.cell? ⟨w.heap.size + 1, 0, none⟩ = some (.int .i64 (x)) := (b1.cell (p := ⟨w.heap.size + 1, 0, none⟩) (by first | (simp; done) | (simp; omega) | omega)).trans (by first | with_reducible assumption | (simp [go_sem]; done) | (simp [go_sem, *]; done))
      have g1_1_0 : w1.frozen? ⟨w.heap.size + 1, 0, none⟩ = false := (b1.frozen (p := ⟨w.heap.size + 1, 0, none⟩) (by first | (simp; done) | (simp; omega) | omega)).trans (by first | with_reducible assumption | (simp [go_sem]; done) | (simp [go_sem, *]; done))
      have k1_1_1 : w1.cell? ⟨w.heap.size + 1, 1, none⟩ = some (.int .i64 (y)) := (b1.cell (p := ⟨w.heap.size + 1, 1, none⟩) (by first | (simp; done) | (simp; omega) | omega)).trans (by first | with_reducible assumption | (simp [go_sem]; done) | (simp [go_sem, *]; done))
      have g1_1_1 : w1.frozen? ⟨w.heap.size + 1, 1, none⟩ = false := (b1.frozen (p := ⟨w.heap.size + 1, 1, none⟩) (by first | (simp; done) | (simp; omega) | omega)).trans (by first | with_reducible assumption | (simp [go_sem]; done) | (simp [go_sem, *]; done))
      go_wp2_with fail
      refine (K2.out _).mono ?_
      rintro e w2 ⟨rfl, b2⟩
      have s2 := b2.size
      try simp at s2
      have z2_0 : w.heap.size < w2.heap.size := by omega
      have k2_0_0 : w2.cell? ⟨w.heap.size, 0, none⟩ = some (.int .i64 (aX)) := (b2.cell (p := ⟨w.heap.size, 0, none⟩) (by first | (simp; done) | (simp; omega) | omega)).trans (by first | with_reducible assumption | (simp [go_sem]; done) | (simp [go_sem, *]; done))
      have g2_0_0 : w2.frozen? ⟨w.heap.size, 0, none⟩ = false := (b2.frozen (p := ⟨w.heap.size, 0, none⟩) (by first | (simp; done) | (simp; omega) | omega)).trans (by first | with_reducible assumption | (simp [go_sem]; done) | (simp [go_sem, *]; done))
      have k2_0_1 : w2.cell? ⟨w.heap.size, 1, none⟩ = some (.int .i64 (aY)) := (b2.cell (p := ⟨w.heap.size, 1, none⟩) (by first | (simp; done) | (simp; omega) | omega)).trans (by first | with_reducible assumption | (simp [go_sem]; done) | (simp [go_sem, *]; done))
      have g2_0_1 : w2.frozen? ⟨w.heap.size, 1, none⟩ = false := (b2.frozen (p := ⟨w.heap.size, 1, none⟩) (by first | (simp; done) | (simp; omega) | omega)).trans (by first | with_reducible assumption | (simp [go_sem]; done) | (simp [go_sem, *]; done))
      have k2_0_2 : w2.cell? ⟨w.heap.size, 2, none⟩ = some (.int .i64 (bX)) := (b2.cell (p := ⟨w.heap.size, 2, none⟩) (by first | (simp; done) | (simp; omega) | omega)).trans (by first | with_reducible assumption | (simp [go_sem]; done) | (simp [go_sem, *]; done))
      have g2_0_2 : w2.frozen? ⟨w.heap.size, 2, none⟩ = false := (b2.frozen (p := ⟨w.heap.size, 2, none⟩) (by first | (simp; done) | (simp; omega) | omega)).trans (by first | with_reducible assumption | (simp [go_sem]; done) | (simp [go_sem, *]; done))
      have k2_0_3 : w2.cell? ⟨w.heap.size, 3, none⟩ = some (.int .i64 (bY)) := (b2.cell (p := ⟨w.heap.size, 3, none⟩) (by first | (simp; done) | (simp; omega) | omega)).trans (by first | with_reducible assumption | (simp [go_sem]; done) | (simp [go_sem, *]; done))
      have g2_0_3 : w2.frozen? ⟨w.heap.size, 3, none⟩ = false := (b2.frozen (p := ⟨w.heap.size, 3, none⟩) (by first | (simp; done) | (simp; omega) | omega)).trans (by first | with_reducible assumption | (simp [go_sem]; done) | (simp [go_sem, *]; done))
      have z2_1 : w.heap.size + 1 < w2.heap.size := by omega
      have k2_1_0 : w2.cell? ⟨w.heap.size + 1, 0, none⟩ = some (.int .i64 (x)) := (b2.cell (p := ⟨w.heap.size + 1, 0, none⟩) (by first | (simp; done) | (simp; omega) | omega)).trans (by first | with_reducible assumption | (simp [go_sem]; done) | (simp [go_sem, *]; done))
      have g2_1_0 : w2.frozen? ⟨w.heap.size + 1, 0, none⟩ = false := (b2.frozen (p := ⟨w.heap.size + 1, 0, none⟩) (by first | (simp; done) | (simp; omega) | omega)).trans (by first | with_reducible assumption | (simp [go_sem]; done) | (simp [go_sem, *]; done))
      have k2_1_1 : w2.cell? ⟨w.heap.size + 1, 1, none⟩ = some (.int .i64 (y)) := (b2.cell (p := ⟨w.heap.size + 1, 1, none⟩) (by first | (simp; done) | (simp; omega) | omega)).trans (by first | with_reducible assumption | (simp [go_sem]; done) | (simp [go_sem, *]; done))
      have g2_1_1 : w2.frozen? ⟨w.heap.size + 1, 1, none⟩ = false := (b2.frozen (p := ⟨w.heap.size + 1, 1, none⟩) (by first | (simp; done) | (simp; omega) | omega)).trans (by first | with_reducible assumption | (simp [go_sem]; done) | (simp [go_sem, *]; done))
      clear k1_0_0 g1_0_0 k1_0_1 g1_0_1 k1_0_2 g1_0_2 k1_0_3 g1_0_3 k1_1_0 g1_1_0 k1_1_1 g1_1_1
      go_wp2_with fail
      refine (K4.out _).mono ?_
      rintro e w3 ⟨rfl, b3⟩
      have s3 := b3.size
      try simp at s3
      have z3_0 : w.heap.size < w3.heap.size := by omega
      have k3_0_0 : w3.cell? ⟨w.heap.size, 0, none⟩ = some (.int .i64 (aX)) := (b3.cell (p := ⟨w.heap.size, 0, none⟩) (by first | (simp; done) | (simp; omega) | omega)).trans (by first | with_reducible assumption | (simp [go_sem]; done) | (simp [go_sem, *]; done))
      have g3_0_0 : w3.frozen? ⟨w.heap.size, 0, none⟩ = false := (b3.frozen (p := ⟨w.heap.size, 0, none⟩) (by first | (simp; done) | (simp; omega) | omega)).trans (by first | with_reducible assumption | (simp [go_sem]; done) | (simp [go_sem, *]; done))
      have k3_0_1 : w3.cell? ⟨w.heap.size, 1, none⟩ = some (.int .i64 (aY)) := (b3.cell (p := ⟨w.heap.size, 1, none⟩) (by first | (simp; done) | (simp; omega) | omega)).trans (by first | with_reducible assumption | (simp [go_sem]; done) | (simp [go_sem, *]; done))
      have g3_0_1 : w3.frozen? ⟨w.heap.size, 1, none⟩ = false := (b3.frozen (p := ⟨w.heap.size, 1, none⟩) (by first | (simp; done) | (simp; omega) | omega)).trans (by first | with_reducible assumption | (simp [go_sem]; done) | (simp [go_sem, *]; done))
      have k3_0_2 : w3.cell? ⟨w.heap.size, 2, none⟩ = some (.int .i64 (bX)) := (b3.cell (p := ⟨w.heap.size, 2, none⟩) (by first | (simp; done) | (simp; omega) | omega)).trans (by first | with_reducible assumption | (simp [go_sem]; done) | (simp [go_sem, *]; done))
      have g3_0_2 : w3.frozen? ⟨w.heap.size, 2, none⟩ = false := (b3.frozen (p := ⟨w.heap.size, 2, none⟩) (by first | (simp; done) | (simp; omega) | omega)).trans (by first | with_reducible assumption | (simp [go_sem]; done) | (simp [go_sem, *]; done))
      have k3_0_3 : w3.cell? ⟨w.heap.size, 3, none⟩ = some (.int .i64 (bY)) := (b3.cell (p := ⟨w.heap.size, 3, none⟩) (by first | (simp; done) | (simp; omega) | omega)).trans (by first | with_reducible assumption | (simp [go_sem]; done) | (simp [go_sem, *]; done))
      have g3_0_3 : w3.frozen? ⟨w.heap.size, 3, none⟩ = false := (b3.frozen (p := ⟨w.heap.size, 3, none⟩) (by first | (simp; done) | (simp; omega) | omega)).trans (by first | with_reducible assumption | (simp [go_sem]; done) | (simp [go_sem, *]; done))
      have z3_1 : w.heap.size + 1 < w3.heap.size := by omega
      have k3_1_0 : w3.cell? ⟨w.heap.size + 1, 0, none⟩ = some (.int .i64 (x)) := (b3.cell (p := ⟨w.heap.size + 1, 0, none⟩) (by first | (simp; done) | (simp; omega) | omega)).trans (by first | with_reducible assumption | (simp [go_sem]; done) | (simp [go_sem, *]; done))
      have g3_1_0 : w3.frozen? ⟨w.heap.size + 1, 0, none⟩ = false := (b3.frozen (p := ⟨w.heap.size + 1, 0, none⟩) (by first | (simp; done) | (simp; omega) | omega)).trans (by first | with_reducible assumption | (simp [go_sem]; done) | (simp [go_sem, *]; done))
      have k3_1_1 : w3.cell? ⟨w.heap.size + 1, 1, none⟩ = some (.int .i64 (y)) := (b3.cell (p := ⟨w.heap.size + 1, 1, none⟩) (by first | (simp; done) | (simp; omega) | omega)).trans (by first | with_reducible assumption | (simp [go_sem]; done) | (simp [go_sem, *]; done))
      have g3_1_1 : w3.frozen? ⟨w.heap.size + 1, 1, none⟩ = false := (b3.frozen (p := ⟨w.heap.size + 1, 1, none⟩) (by first | (simp; done) | (simp; omega) | omega)).trans (by first | with_reducible assumption | (simp [go_sem]; done) | (simp [go_sem, *]; done))
      clear k2_0_0 g2_0_0 k2_0_1 g2_0_1 k2_0_2 g2_0_2 k2_0_3 g2_0_3 k2_1_0 g2_1_0 k2_1_1 g2_1_1
      go_wp2
      go_ret2
      exact ⟨rfl, (by (repeat (first | with_reducible exact Below.refl _ _ | with_reducible refine bl_alloc ?_ _ | with_reducible refine bl_drew ?_ | with_reducible refine bl_set ?_ (by first | (simp; done) | (simp; omega)) _ | with_reducible refine bl_call (by assumption) ?_)))⟩
    · have rn : NumV aX aY bX bY x y = crossV aX aY bX bY x y * crossV aX aY bX bY x y := by simp [NumV, q1, q2]
      have rd : DenV aX aY bX bY x y = farV aX aY bX bY := by simp [DenV, q1, q2]
      rw [rn, rd]
      clear rn rd
      have K1 : Hid (∀ W : World, Calls Try.prog 95 #[.agg #[.int .i64 aX, .int .i64 aY], .agg #[.int .i64 bX, .int .i64 bY], .agg #[.int .i64 x, .int .i64 y]] W fun e w' => e = .returned (.int .i64 (dotV aX aY bX bY x y)) ∧ Below W.heap.size W w') := Lib.hid fun W => by
        have h := spec_dot (aX) (aY) (bX) (bY) (x) (y) W (by omega) (by omega) (by omega) (by omega) (by omega) (by omega)
        exact h
      have K2 : Hid (∀ W : World, Calls Try.prog 95 #[.agg #[.int .i64 bX, .int .i64 bY], .agg #[.int .i64 aX, .int .i64 aY], .agg #[.int .i64 x, .int .i64 y]] W fun e w' => e = .returned (.int .i64 (dotV bX bY aX aY x y)) ∧ Below W.heap.size W w') := Lib.hid fun W => by
        have h := spec_dot (bX) (bY) (aX) (aY) (x) (y) W (by omega) (by omega) (by omega) (by omega) (by omega) (by omega)
        exact h
      have K3 : Hid (∀ W : World, Calls Try.prog 96 #[.agg #[.int .i64 aX, .int .i64 aY], .agg #[.int .i64 x, .int .i64 y]] W fun e w' => e = .returned (.int .i64 (farV aX aY x y)) ∧ Below W.heap.size W w') := Lib.hid fun W => by
        have h := spec_square (aX) (aY) (x) (y) W (by omega) (by omega) (by omega) (by omega)
        exact h
      have K4 : Hid (∀ W : World, Calls Try.prog 96 #[.agg #[.int .i64 bX, .int .i64 bY], .agg #[.int .i64 x, .int .i64 y]] W fun e w' => e = .returned (.int .i64 (farV bX bY x y)) ∧ Below W.heap.size W w') := Lib.hid fun W => by
        have h := spec_square (bX) (bY) (x) (y) W (by omega) (by omega) (by omega) (by omega)
        exact h
      have K5 : Hid (∀ W : World, Calls Try.prog 97 #[.agg #[.int .i64 aX, .int .i64 aY], .agg #[.int .i64 bX, .int .i64 bY], .agg #[.int .i64 x, .int .i64 y]] W fun e w' => e = .returned (.int .i64 (crossV aX aY bX bY x y)) ∧ Below W.heap.size W w') := Lib.hid fun W => by
        have h := spec_cross (aX) (aY) (bX) (bY) (x) (y) W (by omega) (by omega) (by omega) (by omega) (by omega) (by omega)
        exact h
      have K6 : Hid (∀ W : World, Calls Try.prog 96 #[.agg #[.int .i64 aX, .int .i64 aY], .agg #[.int .i64 bX, .int .i64 bY]] W fun e w' => e = .returned (.int .i64 (farV aX aY bX bY)) ∧ Below W.heap.size W w') := Lib.hid fun W => by
        have h := spec_square (aX) (aY) (bX) (bY) W (by omega) (by omega) (by omega) (by omega)
        exact h
      generalize dotV aX aY bX bY x y = D1 at *
      generalize dotV bX bY aX aY x y = D2 at *
      generalize crossV aX aY bX bY x y = C at *
      go_enter Try.func74, Try.ntmps74
      go_wp2_with fail
      refine (K1.out _).mono ?_
      rintro e w1 ⟨rfl, b1⟩
      have s1 := b1.size
      try simp at s1
      have z1_0 : w.heap.size < w1.heap.size := by omega
      have k1_0_0 : w1.cell? ⟨w.heap.size, 0, none⟩ = some (.int .i64 (aX)) := (b1.cell (p := ⟨w.heap.size, 0, none⟩) (by first | (simp; done) | (simp; omega) | omega)).trans (by first | with_reducible assumption | (simp [go_sem]; done) | (simp [go_sem, *]; done))
      have g1_0_0 : w1.frozen? ⟨w.heap.size, 0, none⟩ = false := (b1.frozen (p := ⟨w.heap.size, 0, none⟩) (by first | (simp; done) | (simp; omega) | omega)).trans (by first | with_reducible assumption | (simp [go_sem]; done) | (simp [go_sem, *]; done))
      have k1_0_1 : w1.cell? ⟨w.heap.size, 1, none⟩ = some (.int .i64 (aY)) := (b1.cell (p := ⟨w.heap.size, 1, none⟩) (by first | (simp; done) | (simp; omega) | omega)).trans (by first | with_reducible assumption | (simp [go_sem]; done) | (simp [go_sem, *]; done))
      have g1_0_1 : w1.frozen? ⟨w.heap.size, 1, none⟩ = false := (b1.frozen (p := ⟨w.heap.size, 1, none⟩) (by first | (simp; done) | (simp; omega) | omega)).trans (by first | with_reducible assumption | (simp [go_sem]; done) | (simp [go_sem, *]; done))
      have k1_0_2 : w1.cell? ⟨w.heap.size, 2, none⟩ = some (.int .i64 (bX)) := (b1.cell (p := ⟨w.heap.size, 2, none⟩) (by first | (simp; done) | (simp; omega) | omega)).trans (by first | with_reducible assumption | (simp [go_sem]; done) | (simp [go_sem, *]; done))
      have g1_0_2 : w1.frozen? ⟨w.heap.size, 2, none⟩ = false := (b1.frozen (p := ⟨w.heap.size, 2, none⟩) (by first | (simp; done) | (simp; omega) | omega)).trans (by first | with_reducible assumption | (simp [go_sem]; done) | (simp [go_sem, *]; done))
      have k1_0_3 : w1.cell? ⟨w.heap.size, 3, none⟩ = some (.int .i64 (bY)) := (b1.cell (p := ⟨w.heap.size, 3, none⟩) (by first | (simp; done) | (simp; omega) | omega)).trans (by first | with_reducible assumption | (simp [go_sem]; done) | (simp [go_sem, *]; done))
      have g1_0_3 : w1.frozen? ⟨w.heap.size, 3, none⟩ = false := (b1.frozen (p := ⟨w.heap.size, 3, none⟩) (by first | (simp; done) | (simp; omega) | omega)).trans (by first | with_reducible assumption | (simp [go_sem]; done) | (simp [go_sem, *]; done))
      have z1_1 : w.heap.size + 1 < w1.heap.size := by omega
      have k1_1_0 : w1.cell? ⟨w.heap.size + 1, 0, none⟩ = some (.int .i64 (x)) := (b1.cell (p := ⟨w.heap.size + 1, 0, none⟩) (by first | (simp; done) | (simp; omega) | omega)).trans (by first | with_reducible assumption | (simp [go_sem]; done) | (simp [go_sem, *]; done))
      have g1_1_0 : w1.frozen? ⟨w.heap.size + 1, 0, none⟩ = false := (b1.frozen (p := ⟨w.heap.size + 1, 0, none⟩) (by first | (simp; done) | (simp; omega) | omega)).trans (by first | with_reducible assumption | (simp [go_sem]; done) | (simp [go_sem, *]; done))
      have k1_1_1 : w1.cell? ⟨w.heap.size + 1, 1, none⟩ = some (.int .i64 (y)) := (b1.cell (p := ⟨w.heap.size + 1, 1, none⟩) (by first | (simp; done) | (simp; omega) | omega)).trans (by first | with_reducible assumption | (simp [go_sem]; done) | (simp [go_sem, *]; done))
      have g1_1_1 : w1.frozen? ⟨w.heap.size + 1, 1, none⟩ = false := (b1.frozen (p := ⟨w.heap.size + 1, 1, none⟩) (by first | (simp; done) | (simp; omega) | omega)).trans (by first | with_reducible assumption | (simp [go_sem]; done) | (simp [go_sem, *]; done))
      go_wp2_with fail
      refine (K2.out _).mono ?_
      rintro e w2 ⟨rfl, b2⟩
      have s2 := b2.size
      try simp at s2
      have z2_0 : w.heap.size < w2.heap.size := by omega
      have k2_0_0 : w2.cell? ⟨w.heap.size, 0, none⟩ = some (.int .i64 (aX)) := (b2.cell (p := ⟨w.heap.size, 0, none⟩) (by first | (simp; done) | (simp; omega) | omega)).trans (by first | with_reducible assumption | (simp [go_sem]; done) | (simp [go_sem, *]; done))
      have g2_0_0 : w2.frozen? ⟨w.heap.size, 0, none⟩ = false := (b2.frozen (p := ⟨w.heap.size, 0, none⟩) (by first | (simp; done) | (simp; omega) | omega)).trans (by first | with_reducible assumption | (simp [go_sem]; done) | (simp [go_sem, *]; done))
      have k2_0_1 : w2.cell? ⟨w.heap.size, 1, none⟩ = some (.int .i64 (aY)) := (b2.cell (p := ⟨w.heap.size, 1, none⟩) (by first | (simp; done) | (simp; omega) | omega)).trans (by first | with_reducible assumption | (simp [go_sem]; done) | (simp [go_sem, *]; done))
      have g2_0_1 : w2.frozen? ⟨w.heap.size, 1, none⟩ = false := (b2.frozen (p := ⟨w.heap.size, 1, none⟩) (by first | (simp; done) | (simp; omega) | omega)).trans (by first | with_reducible assumption | (simp [go_sem]; done) | (simp [go_sem, *]; done))
      have k2_0_2 : w2.cell? ⟨w.heap.size, 2, none⟩ = some (.int .i64 (bX)) := (b2.cell (p := ⟨w.heap.size, 2, none⟩) (by first | (simp; done) | (simp; omega) | omega)).trans (by first | with_reducible assumption | (simp [go_sem]; done) | (simp [go_sem, *]; done))
      have g2_0_2 : w2.frozen? ⟨w.heap.size, 2, none⟩ = false := (b2.frozen (p := ⟨w.heap.size, 2, none⟩) (by first | (simp; done) | (simp; omega) | omega)).trans (by first | with_reducible assumption | (simp [go_sem]; done) | (simp [go_sem, *]; done))
      have k2_0_3 : w2.cell? ⟨w.heap.size, 3, none⟩ = some (.int .i64 (bY)) := (b2.cell (p := ⟨w.heap.size, 3, none⟩) (by first | (simp; done) | (simp; omega) | omega)).trans (by first | with_reducible assumption | (simp [go_sem]; done) | (simp [go_sem, *]; done))
      have g2_0_3 : w2.frozen? ⟨w.heap.size, 3, none⟩ = false := (b2.frozen (p := ⟨w.heap.size, 3, none⟩) (by first | (simp; done) | (simp; omega) | omega)).trans (by first | with_reducible assumption | (simp [go_sem]; done) | (simp [go_sem, *]; done))
      have z2_1 : w.heap.size + 1 < w2.heap.size := by omega
      have k2_1_0 : w2.cell? ⟨w.heap.size + 1, 0, none⟩ = some (.int .i64 (x)) := (b2.cell (p := ⟨w.heap.size + 1, 0, none⟩) (by first | (simp; done) | (simp; omega) | omega)).trans (by first | with_reducible assumption | (simp [go_sem]; done) | (simp [go_sem, *]; done))
      have g2_1_0 : w2.frozen? ⟨w.heap.size + 1, 0, none⟩ = false := (b2.frozen (p := ⟨w.heap.size + 1, 0, none⟩) (by first | (simp; done) | (simp; omega) | omega)).trans (by first | with_reducible assumption | (simp [go_sem]; done) | (simp [go_sem, *]; done))
      have k2_1_1 : w2.cell? ⟨w.heap.size + 1, 1, none⟩ = some (.int .i64 (y)) := (b2.cell (p := ⟨w.heap.size + 1, 1, none⟩) (by first | (simp; done) | (simp; omega) | omega)).trans (by first | with_reducible assumption | (simp [go_sem]; done) | (simp [go_sem, *]; done))
      have g2_1_1 : w2.frozen? ⟨w.heap.size + 1, 1, none⟩ = false := (b2.frozen (p := ⟨w.heap.size + 1, 1, none⟩) (by first | (simp; done) | (simp; omega) | omega)).trans (by first | with_reducible assumption | (simp [go_sem]; done) | (simp [go_sem, *]; done))
      clear k1_0_0 g1_0_0 k1_0_1 g1_0_1 k1_0_2 g1_0_2 k1_0_3 g1_0_3 k1_1_0 g1_1_0 k1_1_1 g1_1_1
      go_wp2_with fail
      refine (K5.out _).mono ?_
      rintro e w3 ⟨rfl, b3⟩
      have s3 := b3.size
      try simp at s3
      have z3_0 : w.heap.size < w3.heap.size := by omega
      have k3_0_0 : w3.cell? ⟨w.heap.size, 0, none⟩ = some (.int .i64 (aX)) := (b3.cell (p := ⟨w.heap.size, 0, none⟩) (by first | (simp; done) | (simp; omega) | omega)).trans (by first | with_reducible assumption | (simp [go_sem]; done) | (simp [go_sem, *]; done))
      have g3_0_0 : w3.frozen? ⟨w.heap.size, 0, none⟩ = false := (b3.frozen (p := ⟨w.heap.size, 0, none⟩) (by first | (simp; done) | (simp; omega) | omega)).trans (by first | with_reducible assumption | (simp [go_sem]; done) | (simp [go_sem, *]; done))
      have k3_0_1 : w3.cell? ⟨w.heap.size, 1, none⟩ = some (.int .i64 (aY)) := (b3.cell (p := ⟨w.heap.size, 1, none⟩) (by first | (simp; done) | (simp; omega) | omega)).trans (by first | with_reducible assumption | (simp [go_sem]; done) | (simp [go_sem, *]; done))
      have g3_0_1 : w3.frozen? ⟨w.heap.size, 1, none⟩ = false := (b3.frozen (p := ⟨w.heap.size, 1, none⟩) (by first | (simp; done) | (simp; omega) | omega)).trans (by first | with_reducible assumption | (simp [go_sem]; done) | (simp [go_sem, *]; done))
      have k3_0_2 : w3.cell? ⟨w.heap.size, 2, none⟩ = some (.int .i64 (bX)) := (b3.cell (p := ⟨w.heap.size, 2, none⟩) (by first | (simp; done) | (simp; omega) | omega)).trans (by first | with_reducible assumption | (simp [go_sem]; done) | (simp [go_sem, *]; done))
      have g3_0_2 : w3.frozen? ⟨w.heap.size, 2, none⟩ = false := (b3.frozen (p := ⟨w.heap.size, 2, none⟩) (by first | (simp; done) | (simp; omega) | omega)).trans (by first | with_reducible assumption | (simp [go_sem]; done) | (simp [go_sem, *]; done))
      have k3_0_3 : w3.cell? ⟨w.heap.size, 3, none⟩ = some (.int .i64 (bY)) := (b3.cell (p := ⟨w.heap.size, 3, none⟩) (by first | (simp; done) | (simp; omega) | omega)).trans (by first | with_reducible assumption | (simp [go_sem]; done) | (simp [go_sem, *]; done))
      have g3_0_3 : w3.frozen? ⟨w.heap.size, 3, none⟩ = false := (b3.frozen (p := ⟨w.heap.size, 3, none⟩) (by first | (simp; done) | (simp; omega) | omega)).trans (by first | with_reducible assumption | (simp [go_sem]; done) | (simp [go_sem, *]; done))
      have z3_1 : w.heap.size + 1 < w3.heap.size := by omega
      have k3_1_0 : w3.cell? ⟨w.heap.size + 1, 0, none⟩ = some (.int .i64 (x)) := (b3.cell (p := ⟨w.heap.size + 1, 0, none⟩) (by first | (simp; done) | (simp; omega) | omega)).trans (by first | with_reducible assumption | (simp [go_sem]; done) | (simp [go_sem, *]; done))
      have g3_1_0 : w3.frozen? ⟨w.heap.size + 1, 0, none⟩ = false := (b3.frozen (p := ⟨w.heap.size + 1, 0, none⟩) (by first | (simp; done) | (simp; omega) | omega)).trans (by first | with_reducible assumption | (simp [go_sem]; done) | (simp [go_sem, *]; done))
      have k3_1_1 : w3.cell? ⟨w.heap.size + 1, 1, none⟩ = some (.int .i64 (y)) := (b3.cell (p := ⟨w.heap.size + 1, 1, none⟩) (by first | (simp; done) | (simp; omega) | omega)).trans (by first | with_reducible assumption | (simp [go_sem]; done) | (simp [go_sem, *]; done))
      have g3_1_1 : w3.frozen? ⟨w.heap.size + 1, 1, none⟩ = false := (b3.frozen (p := ⟨w.heap.size + 1, 1, none⟩) (by first | (simp; done) | (simp; omega) | omega)).trans (by first | with_reducible assumption | (simp [go_sem]; done) | (simp [go_sem, *]; done))
      clear k2_0_0 g2_0_0 k2_0_1 g2_0_1 k2_0_2 g2_0_2 k2_0_3 g2_0_3 k2_1_0 g2_1_0 k2_1_1 g2_1_1
      go_wp2_with fail
      refine (K6.out _).mono ?_
      rintro e w4 ⟨rfl, b4⟩
      have s4 := b4.size
      try simp at s4
      have z4_0 : w.heap.size < w4.heap.size := by omega
      have k4_0_0 : w4.cell? ⟨w.heap.size, 0, none⟩ = some (.int .i64 (aX)) := (b4.cell (p := ⟨w.heap.size, 0, none⟩) (by first | (simp; done) | (simp; omega) | omega)).trans (by first | with_reducible assumption | (simp [go_sem]; done) | (simp [go_sem, *]; done))
      have g4_0_0 : w4.frozen? ⟨w.heap.size, 0, none⟩ = false := (b4.frozen (p := ⟨w.heap.size, 0, none⟩) (by first | (simp; done) | (simp; omega) | omega)).trans (by first | with_reducible assumption | (simp [go_sem]; done) | (simp [go_sem, *]; done))
      have k4_0_1 : w4.cell? ⟨w.heap.size, 1, none⟩ = some (.int .i64 (aY)) := (b4.cell (p := ⟨w.heap.size, 1, none⟩) (by first | (simp; done) | (simp; omega) | omega)).trans (by first | with_reducible assumption | (simp [go_sem]; done) | (simp [go_sem, *]; done))
      have g4_0_1 : w4.frozen? ⟨w.heap.size, 1, none⟩ = false := (b4.frozen (p := ⟨w.heap.size, 1, none⟩) (by first | (simp; done) | (simp; omega) | omega)).trans (by first | with_reducible assumption | (simp [go_sem]; done) | (simp [go_sem, *]; done))
      have k4_0_2 : w4.cell? ⟨w.heap.size, 2, none⟩ = some (.int .i64 (bX)) := (b4.cell (p := ⟨w.heap.size, 2, none⟩) (by first | (simp; done) | (simp; omega) | omega)).trans (by first | with_reducible assumption | (simp [go_sem]; done) | (simp [go_sem, *]; done))
      have g4_0_2 : w4.frozen? ⟨w.heap.size, 2, none⟩ = false := (b4.frozen (p := ⟨w.heap.size, 2, none⟩) (by first | (simp; done) | (simp; omega) | omega)).trans (by first | with_reducible assumption | (simp [go_sem]; done) | (simp [go_sem, *]; done))
      have k4_0_3 : w4.cell? ⟨w.heap.size, 3, none⟩ = some (.int .i64 (bY)) := (b4.cell (p := ⟨w.heap.size, 3, none⟩) (by first | (simp; done) | (simp; omega) | omega)).trans (by first | with_reducible assumption | (simp [go_sem]; done) | (simp [go_sem, *]; done))
      have g4_0_3 : w4.frozen? ⟨w.heap.size, 3, none⟩ = false := (b4.frozen (p := ⟨w.heap.size, 3, none⟩) (by first | (simp; done) | (simp; omega) | omega)).trans (by first | with_reducible assumption | (simp [go_sem]; done) | (simp [go_sem, *]; done))
      have z4_1 : w.heap.size + 1 < w4.heap.size := by omega
      have k4_1_0 : w4.cell? ⟨w.heap.size + 1, 0, none⟩ = some (.int .i64 (x)) := (b4.cell (p := ⟨w.heap.size + 1, 0, none⟩) (by first | (simp; done) | (simp; omega) | omega)).trans (by first | with_reducible assumption | (simp [go_sem]; done) | (simp [go_sem, *]; done))
      have g4_1_0 : w4.frozen? ⟨w.heap.size + 1, 0, none⟩ = false := (b4.frozen (p := ⟨w.heap.size + 1, 0, none⟩) (by first | (simp; done) | (simp; omega) | omega)).trans (by first | with_reducible assumption | (simp [go_sem]; done) | (simp [go_sem, *]; done))
      have k4_1_1 : w4.cell? ⟨w.heap.size + 1, 1, none⟩ = some (.int .i64 (y)) := (b4.cell (p := ⟨w.heap.size + 1, 1, none⟩) (by first | (simp; done) | (simp; omega) | omega)).trans (by first | with_reducible assumption | (simp [go_sem]; done) | (simp [go_sem, *]; done))
      have g4_1_1 : w4.frozen? ⟨w.heap.size + 1, 1, none⟩ = false := (b4.frozen (p := ⟨w.heap.size + 1, 1, none⟩) (by first | (simp; done) | (simp; omega) | omega)).trans (by first | with_reducible assumption | (simp [go_sem]; done) | (simp [go_sem, *]; done))
      clear k3_0_0 g3_0_0 k3_0_1 g3_0_1 k3_0_2 g3_0_2 k3_0_3 g3_0_3 k3_1_0 g3_1_0 k3_1_1 g3_1_1
      go_wp2
      go_ret2
      exact ⟨rfl, (by (repeat (first | with_reducible exact Below.refl _ _ | with_reducible refine bl_alloc ?_ _ | with_reducible refine bl_drew ?_ | with_reducible refine bl_set ?_ (by first | (simp; done) | (simp; omega)) _ | with_reducible refine bl_call (by assumption) ?_)))⟩

set_option maxHeartbeats 8000000 in
theorem impl_Segment_away (aX : Int) (aY : Int) (bX : Int) (bY : Int) (x : Int) (y : Int) (w : World) (haX : -1000 ≤ aX ∧ aX ≤ 1000) (haY : -1000 ≤ aY ∧ aY ≤ 1000) (hbX : -1000 ≤ bX ∧ bX ≤ 1000) (hbY : -1000 ≤ bY ∧ bY ≤ 1000) (hx : -1000 ≤ x ∧ x ≤ 1000) (hy : -1000 ≤ y ∧ y ≤ 1000) :
    Calls Try.prog 79 #[.agg #[.int .i64 aX, .int .i64 aY, .int .i64 bX, .int .i64 bY], .agg #[.int .i64 x, .int .i64 y]] w fun e w' => e = .returned (.agg #[.int .i64 (NumV aX aY bX bY x y), .int .i64 (DenV aX aY bX bY x y)]) ∧ Below w.heap.size w w' := by
  obtain ⟨cl, cu⟩ := cross_bd0 aX aY bX bY x y haX haY hbX hbY hx hy
  obtain ⟨fl1, fu1⟩ := far_bd0 aX aY x y haX haY hx hy
  obtain ⟨fl2, fu2⟩ := far_bd0 bX bY x y hbX hbY hx hy
  obtain ⟨fl3, fu3⟩ := far_bd0 aX aY bX bY haX haY hbX hbY
  obtain ⟨ml, mu⟩ := mul_bd _ _ 8000000 8000000 ⟨cl, cu⟩ ⟨cl, cu⟩ (by omega) (by omega)
  obtain ⟨laX, uaX⟩ := haX
  obtain ⟨laY, uaY⟩ := haY
  obtain ⟨lbX, ubX⟩ := hbX
  obtain ⟨lbY, ubY⟩ := hbY
  obtain ⟨lx, ux⟩ := hx
  obtain ⟨ly, uy⟩ := hy
  by_cases q1 : dotV aX aY bX bY x y ≤ 0
  · have rn : NumV aX aY bX bY x y = farV aX aY x y := by simp [NumV, q1]
    have rd : DenV aX aY bX bY x y = 1 := by simp [DenV, q1]
    rw [rn, rd]
    clear rn rd
    have K1 : Hid (∀ W : World, Calls Try.prog 98 #[.agg #[.int .i64 bX, .int .i64 bY], .agg #[.int .i64 aX, .int .i64 aY]] W fun e w' => e = .returned (.agg #[.int .i64 (bX - aX), .int .i64 (bY - aY)]) ∧ Below W.heap.size W w') := Lib.hid fun W => by
      have h := impl_Point_minus (bX) (bY) (aX) (aY) W (by omega) (by omega) (by omega) (by omega)
      exact h
    have K2 : Hid (∀ W : World, Calls Try.prog 98 #[.agg #[.int .i64 x, .int .i64 y], .agg #[.int .i64 aX, .int .i64 aY]] W fun e w' => e = .returned (.agg #[.int .i64 (x - aX), .int .i64 (y - aY)]) ∧ Below W.heap.size W w') := Lib.hid fun W => by
      have h := impl_Point_minus (x) (y) (aX) (aY) W (by omega) (by omega) (by omega) (by omega)
      exact h
    have K3 : Hid (∀ W : World, Calls Try.prog 99 #[.agg #[.int .i64 (bX - aX), .int .i64 (bY - aY)], .agg #[.int .i64 (x - aX), .int .i64 (y - aY)]] W fun e w' => e = .returned (.int .i64 (dotV aX aY bX bY x y)) ∧ Below W.heap.size W w') := Lib.hid fun W => by
      have h := impl_Point_dot (bX - aX) (bY - aY) (x - aX) (y - aY) W (by omega) (by omega) (by omega) (by omega)
      exact h
    have K4 : Hid (∀ W : World, Calls Try.prog 98 #[.agg #[.int .i64 x, .int .i64 y], .agg #[.int .i64 bX, .int .i64 bY]] W fun e w' => e = .returned (.agg #[.int .i64 (x - bX), .int .i64 (y - bY)]) ∧ Below W.heap.size W w') := Lib.hid fun W => by
      have h := impl_Point_minus (x) (y) (bX) (bY) W (by omega) (by omega) (by omega) (by omega)
      exact h
    have K5 : Hid (∀ W : World, Calls Try.prog 99 #[.agg #[.int .i64 (bX - aX), .int .i64 (bY - aY)], .agg #[.int .i64 (x - bX), .int .i64 (y - bY)]] W fun e w' => e = .returned (.int .i64 (-dotV bX bY aX aY x y)) ∧ Below W.heap.size W w') := Lib.hid fun W => by
      have h := impl_Point_dot (bX - aX) (bY - aY) (x - bX) (y - bY) W (by omega) (by omega) (by omega) (by omega)
      rw [dotV_flip] at h
      exact h
    have K6 : Hid (∀ W : World, Calls Try.prog 100 #[.agg #[.int .i64 aX, .int .i64 aY], .agg #[.int .i64 x, .int .i64 y]] W fun e w' => e = .returned (.int .i64 (farV aX aY x y)) ∧ Below W.heap.size W w') := Lib.hid fun W => by
      have h := impl_far (aX) (aY) (x) (y) W (by omega) (by omega) (by omega) (by omega)
      exact h
    have K7 : Hid (∀ W : World, Calls Try.prog 100 #[.agg #[.int .i64 bX, .int .i64 bY], .agg #[.int .i64 x, .int .i64 y]] W fun e w' => e = .returned (.int .i64 (farV bX bY x y)) ∧ Below W.heap.size W w') := Lib.hid fun W => by
      have h := impl_far (bX) (bY) (x) (y) W (by omega) (by omega) (by omega) (by omega)
      exact h
    have K8 : Hid (∀ W : World, Calls Try.prog 101 #[.agg #[.int .i64 aX, .int .i64 aY], .agg #[.int .i64 bX, .int .i64 bY], .agg #[.int .i64 x, .int .i64 y]] W fun e w' => e = .returned (.int .i64 (crossV aX aY bX bY x y)) ∧ Below W.heap.size W w') := Lib.hid fun W => by
      have h := impl_turn (aX) (aY) (bX) (bY) (x) (y) W (by omega) (by omega) (by omega) (by omega) (by omega) (by omega)
      exact h
    have K9 : Hid (∀ W : World, Calls Try.prog 99 #[.agg #[.int .i64 (bX - aX), .int .i64 (bY - aY)], .agg #[.int .i64 (bX - aX), .int .i64 (bY - aY)]] W fun e w' => e = .returned (.int .i64 (farV aX aY bX bY)) ∧ Below W.heap.size W w') := Lib.hid fun W => by
      have h := impl_Point_dot (bX - aX) (bY - aY) (bX - aX) (bY - aY) W (by omega) (by omega) (by omega) (by omega)
      exact h
    generalize dotV aX aY bX bY x y = D1 at *
    generalize dotV bX bY aX aY x y = D2 at *
    generalize crossV aX aY bX bY x y = C at *
    go_enter Try.func79, Try.ntmps79
    go_wp2_with fail
    refine (K1.out _).mono ?_
    rintro e w1 ⟨rfl, b1⟩
    have s1 := b1.size
    try simp at s1
    have z1_0 : w.heap.size < w1.heap.size := by omega
    have k1_0_0 : w1.cell? ⟨w.heap.size, 0, none⟩ = some (.int .i64 (aX)) := (b1.cell (p := ⟨w.heap.size, 0, none⟩) (by first | (simp; done) | (simp; omega) | omega)).trans (by first | with_reducible assumption | (simp [go_sem]; done) | (simp [go_sem, *]; done))
    have g1_0_0 : w1.frozen? ⟨w.heap.size, 0, none⟩ = false := (b1.frozen (p := ⟨w.heap.size, 0, none⟩) (by first | (simp; done) | (simp; omega) | omega)).trans (by first | with_reducible assumption | (simp [go_sem]; done) | (simp [go_sem, *]; done))
    have k1_0_1 : w1.cell? ⟨w.heap.size, 1, none⟩ = some (.int .i64 (aY)) := (b1.cell (p := ⟨w.heap.size, 1, none⟩) (by first | (simp; done) | (simp; omega) | omega)).trans (by first | with_reducible assumption | (simp [go_sem]; done) | (simp [go_sem, *]; done))
    have g1_0_1 : w1.frozen? ⟨w.heap.size, 1, none⟩ = false := (b1.frozen (p := ⟨w.heap.size, 1, none⟩) (by first | (simp; done) | (simp; omega) | omega)).trans (by first | with_reducible assumption | (simp [go_sem]; done) | (simp [go_sem, *]; done))
    have k1_0_2 : w1.cell? ⟨w.heap.size, 2, none⟩ = some (.int .i64 (bX)) := (b1.cell (p := ⟨w.heap.size, 2, none⟩) (by first | (simp; done) | (simp; omega) | omega)).trans (by first | with_reducible assumption | (simp [go_sem]; done) | (simp [go_sem, *]; done))
    have g1_0_2 : w1.frozen? ⟨w.heap.size, 2, none⟩ = false := (b1.frozen (p := ⟨w.heap.size, 2, none⟩) (by first | (simp; done) | (simp; omega) | omega)).trans (by first | with_reducible assumption | (simp [go_sem]; done) | (simp [go_sem, *]; done))
    have k1_0_3 : w1.cell? ⟨w.heap.size, 3, none⟩ = some (.int .i64 (bY)) := (b1.cell (p := ⟨w.heap.size, 3, none⟩) (by first | (simp; done) | (simp; omega) | omega)).trans (by first | with_reducible assumption | (simp [go_sem]; done) | (simp [go_sem, *]; done))
    have g1_0_3 : w1.frozen? ⟨w.heap.size, 3, none⟩ = false := (b1.frozen (p := ⟨w.heap.size, 3, none⟩) (by first | (simp; done) | (simp; omega) | omega)).trans (by first | with_reducible assumption | (simp [go_sem]; done) | (simp [go_sem, *]; done))
    have z1_1 : w.heap.size + 1 < w1.heap.size := by omega
    have k1_1_0 : w1.cell? ⟨w.heap.size + 1, 0, none⟩ = some (.int .i64 (x)) := (b1.cell (p := ⟨w.heap.size + 1, 0, none⟩) (by first | (simp; done) | (simp; omega) | omega)).trans (by first | with_reducible assumption | (simp [go_sem]; done) | (simp [go_sem, *]; done))
    have g1_1_0 : w1.frozen? ⟨w.heap.size + 1, 0, none⟩ = false := (b1.frozen (p := ⟨w.heap.size + 1, 0, none⟩) (by first | (simp; done) | (simp; omega) | omega)).trans (by first | with_reducible assumption | (simp [go_sem]; done) | (simp [go_sem, *]; done))
    have k1_1_1 : w1.cell? ⟨w.heap.size + 1, 1, none⟩ = some (.int .i64 (y)) := (b1.cell (p := ⟨w.heap.size + 1, 1, none⟩) (by first | (simp; done) | (simp; omega) | omega)).trans (by first | with_reducible assumption | (simp [go_sem]; done) | (simp [go_sem, *]; done))
    have g1_1_1 : w1.frozen? ⟨w.heap.size + 1, 1, none⟩ = false := (b1.frozen (p := ⟨w.heap.size + 1, 1, none⟩) (by first | (simp; done) | (simp; omega) | omega)).trans (by first | with_reducible assumption | (simp [go_sem]; done) | (simp [go_sem, *]; done))
    have z1_2 : w.heap.size + 1 + 1 < w1.heap.size := by omega
    have k1_2_0 : w1.cell? ⟨w.heap.size + 1 + 1, 0, none⟩ = some (.int .i64 (0)) := (b1.cell (p := ⟨w.heap.size + 1 + 1, 0, none⟩) (by first | (simp; done) | (simp; omega) | omega)).trans (by first | with_reducible assumption | (simp [go_sem]; done) | (simp [go_sem, *]; done))
    have g1_2_0 : w1.frozen? ⟨w.heap.size + 1 + 1, 0, none⟩ = false := (b1.frozen (p := ⟨w.heap.size + 1 + 1, 0, none⟩) (by first | (simp; done) | (simp; omega) | omega)).trans (by first | with_reducible assumption | (simp [go_sem]; done) | (simp [go_sem, *]; done))
    have k1_2_1 : w1.cell? ⟨w.heap.size + 1 + 1, 1, none⟩ = some (.int .i64 (0)) := (b1.cell (p := ⟨w.heap.size + 1 + 1, 1, none⟩) (by first | (simp; done) | (simp; omega) | omega)).trans (by first | with_reducible assumption | (simp [go_sem]; done) | (simp [go_sem, *]; done))
    have g1_2_1 : w1.frozen? ⟨w.heap.size + 1 + 1, 1, none⟩ = false := (b1.frozen (p := ⟨w.heap.size + 1 + 1, 1, none⟩) (by first | (simp; done) | (simp; omega) | omega)).trans (by first | with_reducible assumption | (simp [go_sem]; done) | (simp [go_sem, *]; done))
    go_wp2
    have kc0 := cell_regrown (w := (w1.alloc (Obj.cells #[.int .i64 (bX - aX), .int .i64 (bY - aY)] 47))) (a := ⟨w.heap.size, 0, none⟩) (v := .int .i64 (aX)) (by first | ((repeat (first | with_reducible assumption | with_reducible refine calloc ?_ _)); done) | (simp [go_sem]; done) | (simp [go_sem, *]; done))
    have kc1 := cell_regrown (w := (w1.alloc (Obj.cells #[.int .i64 (bX - aX), .int .i64 (bY - aY)] 47))) (a := ⟨w.heap.size, 1, none⟩) (v := .int .i64 (aY)) (by first | ((repeat (first | with_reducible assumption | with_reducible refine calloc ?_ _)); done) | (simp [go_sem]; done) | (simp [go_sem, *]; done))
    have kc2 := cell_regrown (w := (w1.alloc (Obj.cells #[.int .i64 (bX - aX), .int .i64 (bY - aY)] 47))) (a := ⟨w.heap.size, 2, none⟩) (v := .int .i64 (bX)) (by first | ((repeat (first | with_reducible assumption | with_reducible refine calloc ?_ _)); done) | (simp [go_sem]; done) | (simp [go_sem, *]; done))
    have kc3 := cell_regrown (w := (w1.alloc (Obj.cells #[.int .i64 (bX - aX), .int .i64 (bY - aY)] 47))) (a := ⟨w.heap.size, 3, none⟩) (v := .int .i64 (bY)) (by first | ((repeat (first | with_reducible assumption | with_reducible refine calloc ?_ _)); done) | (simp [go_sem]; done) | (simp [go_sem, *]; done))
    have kc4 := cell_regrown (w := (w1.alloc (Obj.cells #[.int .i64 (bX - aX), .int .i64 (bY - aY)] 47))) (a := ⟨w.heap.size + 1, 0, none⟩) (v := .int .i64 (x)) (by first | ((repeat (first | with_reducible assumption | with_reducible refine calloc ?_ _)); done) | (simp [go_sem]; done) | (simp [go_sem, *]; done))
    have kc5 := cell_regrown (w := (w1.alloc (Obj.cells #[.int .i64 (bX - aX), .int .i64 (bY - aY)] 47))) (a := ⟨w.heap.size + 1, 1, none⟩) (v := .int .i64 (y)) (by first | ((repeat (first | with_reducible assumption | with_reducible refine calloc ?_ _)); done) | (simp [go_sem]; done) | (simp [go_sem, *]; done))
    have kc6 := cell_regrown (w := (w1.alloc (Obj.cells #[.int .i64 (bX - aX), .int .i64 (bY - aY)] 47))) (a := ⟨w.heap.size + 1 + 1, 0, none⟩) (v := .int .i64 (0)) (by first | ((repeat (first | with_reducible assumption | with_reducible refine calloc ?_ _)); done) | (simp [go_sem]; done) | (simp [go_sem, *]; done))
    have kc7 := cell_regrown (w := (w1.alloc (Obj.cells #[.int .i64 (bX - aX), .int .i64 (bY - aY)] 47))) (a := ⟨w.heap.size + 1 + 1, 1, none⟩) (v := .int .i64 (0)) (by first | ((repeat (first | with_reducible assumption | with_reducible refine calloc ?_ _)); done) | (simp [go_sem]; done) | (simp [go_sem, *]; done))
    have kc8 := cell_regrown (w := (w1.alloc (Obj.cells #[.int .i64 (bX - aX), .int .i64 (bY - aY)] 47))) (a := ⟨w1.heap.size, 0, none⟩) (v := .int .i64 (bX - aX)) (by first | ((repeat (first | with_reducible assumption | with_reducible refine calloc ?_ _)); done) | (simp [go_sem]; done) | (simp [go_sem, *]; done))
    have kc9 := cell_regrown (w := (w1.alloc (Obj.cells #[.int .i64 (bX - aX), .int .i64 (bY - aY)] 47))) (a := ⟨w1.heap.size, 1, none⟩) (v := .int .i64 (bY - aY)) (by first | ((repeat (first | with_reducible assumption | with_reducible refine calloc ?_ _)); done) | (simp [go_sem]; done) | (simp [go_sem, *]; done))
    refine wp_region_quiet_below (by kernel_rfl) (by kernel_rfl) ?_
    repeat (go_big_quiet_step ((first | (go_at_call 98; exact Calls.regrown_of (K2.out _)) | (go_at_call 99; exact Calls.regrown_of (K3.out _)))))
    refine wpQuiet_nil ?_
    intro w2 hw'
    have b2 : Below (w1.alloc (Obj.cells #[.int .i64 (bX - aX), .int .i64 (bY - aY)] 47)).heap.size (w1.alloc (Obj.cells #[.int .i64 (bX - aX), .int .i64 (bY - aY)] 47)) w2 := by
      obtain ⟨pp, rfl⟩ := hw'
      exact below_regrown _ _ _
    clear hw' kc0 kc1 kc2 kc3 kc4 kc5 kc6 kc7 kc8 kc9
    have s2 := b2.size
    try simp at s2
    have z2_0 : w.heap.size < w2.heap.size := by omega
    have k2_0_0 : w2.cell? ⟨w.heap.size, 0, none⟩ = some (.int .i64 (aX)) := (b2.cell (p := ⟨w.heap.size, 0, none⟩) (by first | (simp; done) | (simp; omega) | omega)).trans (by first | with_reducible assumption | (simp [go_sem]; done) | (simp [go_sem, *]; done))
    have g2_0_0 : w2.frozen? ⟨w.heap.size, 0, none⟩ = false := (b2.frozen (p := ⟨w.heap.size, 0, none⟩) (by first | (simp; done) | (simp; omega) | omega)).trans (by first | with_reducible assumption | (simp [go_sem]; done) | (simp [go_sem, *]; done))
    have k2_0_1 : w2.cell? ⟨w.heap.size, 1, none⟩ = some (.int .i64 (aY)) := (b2.cell (p := ⟨w.heap.size, 1, none⟩) (by first | (simp; done) | (simp; omega) | omega)).trans (by first | with_reducible assumption | (simp [go_sem]; done) | (simp [go_sem, *]; done))
    have g2_0_1 : w2.frozen? ⟨w.heap.size, 1, none⟩ = false := (b2.frozen (p := ⟨w.heap.size, 1, none⟩) (by first | (simp; done) | (simp; omega) | omega)).trans (by first | with_reducible assumption | (simp [go_sem]; done) | (simp [go_sem, *]; done))
    have k2_0_2 : w2.cell? ⟨w.heap.size, 2, none⟩ = some (.int .i64 (bX)) := (b2.cell (p := ⟨w.heap.size, 2, none⟩) (by first | (simp; done) | (simp; omega) | omega)).trans (by first | with_reducible assumption | (simp [go_sem]; done) | (simp [go_sem, *]; done))
    have g2_0_2 : w2.frozen? ⟨w.heap.size, 2, none⟩ = false := (b2.frozen (p := ⟨w.heap.size, 2, none⟩) (by first | (simp; done) | (simp; omega) | omega)).trans (by first | with_reducible assumption | (simp [go_sem]; done) | (simp [go_sem, *]; done))
    have k2_0_3 : w2.cell? ⟨w.heap.size, 3, none⟩ = some (.int .i64 (bY)) := (b2.cell (p := ⟨w.heap.size, 3, none⟩) (by first | (simp; done) | (simp; omega) | omega)).trans (by first | with_reducible assumption | (simp [go_sem]; done) | (simp [go_sem, *]; done))
    have g2_0_3 : w2.frozen? ⟨w.heap.size, 3, none⟩ = false := (b2.frozen (p := ⟨w.heap.size, 3, none⟩) (by first | (simp; done) | (simp; omega) | omega)).trans (by first | with_reducible assumption | (simp [go_sem]; done) | (simp [go_sem, *]; done))
    have z2_1 : w.heap.size + 1 < w2.heap.size := by omega
    have k2_1_0 : w2.cell? ⟨w.heap.size + 1, 0, none⟩ = some (.int .i64 (x)) := (b2.cell (p := ⟨w.heap.size + 1, 0, none⟩) (by first | (simp; done) | (simp; omega) | omega)).trans (by first | with_reducible assumption | (simp [go_sem]; done) | (simp [go_sem, *]; done))
    have g2_1_0 : w2.frozen? ⟨w.heap.size + 1, 0, none⟩ = false := (b2.frozen (p := ⟨w.heap.size + 1, 0, none⟩) (by first | (simp; done) | (simp; omega) | omega)).trans (by first | with_reducible assumption | (simp [go_sem]; done) | (simp [go_sem, *]; done))
    have k2_1_1 : w2.cell? ⟨w.heap.size + 1, 1, none⟩ = some (.int .i64 (y)) := (b2.cell (p := ⟨w.heap.size + 1, 1, none⟩) (by first | (simp; done) | (simp; omega) | omega)).trans (by first | with_reducible assumption | (simp [go_sem]; done) | (simp [go_sem, *]; done))
    have g2_1_1 : w2.frozen? ⟨w.heap.size + 1, 1, none⟩ = false := (b2.frozen (p := ⟨w.heap.size + 1, 1, none⟩) (by first | (simp; done) | (simp; omega) | omega)).trans (by first | with_reducible assumption | (simp [go_sem]; done) | (simp [go_sem, *]; done))
    have z2_2 : w.heap.size + 1 + 1 < w2.heap.size := by omega
    have k2_2_0 : w2.cell? ⟨w.heap.size + 1 + 1, 0, none⟩ = some (.int .i64 (0)) := (b2.cell (p := ⟨w.heap.size + 1 + 1, 0, none⟩) (by first | (simp; done) | (simp; omega) | omega)).trans (by first | with_reducible assumption | (simp [go_sem]; done) | (simp [go_sem, *]; done))
    have g2_2_0 : w2.frozen? ⟨w.heap.size + 1 + 1, 0, none⟩ = false := (b2.frozen (p := ⟨w.heap.size + 1 + 1, 0, none⟩) (by first | (simp; done) | (simp; omega) | omega)).trans (by first | with_reducible assumption | (simp [go_sem]; done) | (simp [go_sem, *]; done))
    have k2_2_1 : w2.cell? ⟨w.heap.size + 1 + 1, 1, none⟩ = some (.int .i64 (0)) := (b2.cell (p := ⟨w.heap.size + 1 + 1, 1, none⟩) (by first | (simp; done) | (simp; omega) | omega)).trans (by first | with_reducible assumption | (simp [go_sem]; done) | (simp [go_sem, *]; done))
    have g2_2_1 : w2.frozen? ⟨w.heap.size + 1 + 1, 1, none⟩ = false := (b2.frozen (p := ⟨w.heap.size + 1 + 1, 1, none⟩) (by first | (simp; done) | (simp; omega) | omega)).trans (by first | with_reducible assumption | (simp [go_sem]; done) | (simp [go_sem, *]; done))
    have z2_3 : w1.heap.size < w2.heap.size := by omega
    have k2_3_0 : w2.cell? ⟨w1.heap.size, 0, none⟩ = some (.int .i64 (bX - aX)) := (b2.cell (p := ⟨w1.heap.size, 0, none⟩) (by first | (simp; done) | (simp; omega) | omega)).trans (by first | with_reducible assumption | (simp [go_sem]; done) | (simp [go_sem, *]; done))
    have g2_3_0 : w2.frozen? ⟨w1.heap.size, 0, none⟩ = false := (b2.frozen (p := ⟨w1.heap.size, 0, none⟩) (by first | (simp; done) | (simp; omega) | omega)).trans (by first | with_reducible assumption | (simp [go_sem]; done) | (simp [go_sem, *]; done))
    have k2_3_1 : w2.cell? ⟨w1.heap.size, 1, none⟩ = some (.int .i64 (bY - aY)) := (b2.cell (p := ⟨w1.heap.size, 1, none⟩) (by first | (simp; done) | (simp; omega) | omega)).trans (by first | with_reducible assumption | (simp [go_sem]; done) | (simp [go_sem, *]; done))
    have g2_3_1 : w2.frozen? ⟨w1.heap.size, 1, none⟩ = false := (b2.frozen (p := ⟨w1.heap.size, 1, none⟩) (by first | (simp; done) | (simp; omega) | omega)).trans (by first | with_reducible assumption | (simp [go_sem]; done) | (simp [go_sem, *]; done))
    clear k1_0_0 g1_0_0 k1_0_1 g1_0_1 k1_0_2 g1_0_2 k1_0_3 g1_0_3 k1_1_0 g1_1_0 k1_1_1 g1_1_1 k1_2_0 g1_2_0 k1_2_1 g1_2_1
    go_wp2_with fail
    refine (K6.out _).mono ?_
    rintro e w3 ⟨rfl, b3⟩
    have s3 := b3.size
    try simp at s3
    have z3_0 : w.heap.size < w3.heap.size := by omega
    have k3_0_0 : w3.cell? ⟨w.heap.size, 0, none⟩ = some (.int .i64 (aX)) := (b3.cell (p := ⟨w.heap.size, 0, none⟩) (by first | (simp; done) | (simp; omega) | omega)).trans (by first | with_reducible assumption | (simp [go_sem]; done) | (simp [go_sem, *]; done))
    have g3_0_0 : w3.frozen? ⟨w.heap.size, 0, none⟩ = false := (b3.frozen (p := ⟨w.heap.size, 0, none⟩) (by first | (simp; done) | (simp; omega) | omega)).trans (by first | with_reducible assumption | (simp [go_sem]; done) | (simp [go_sem, *]; done))
    have k3_0_1 : w3.cell? ⟨w.heap.size, 1, none⟩ = some (.int .i64 (aY)) := (b3.cell (p := ⟨w.heap.size, 1, none⟩) (by first | (simp; done) | (simp; omega) | omega)).trans (by first | with_reducible assumption | (simp [go_sem]; done) | (simp [go_sem, *]; done))
    have g3_0_1 : w3.frozen? ⟨w.heap.size, 1, none⟩ = false := (b3.frozen (p := ⟨w.heap.size, 1, none⟩) (by first | (simp; done) | (simp; omega) | omega)).trans (by first | with_reducible assumption | (simp [go_sem]; done) | (simp [go_sem, *]; done))
    have k3_0_2 : w3.cell? ⟨w.heap.size, 2, none⟩ = some (.int .i64 (bX)) := (b3.cell (p := ⟨w.heap.size, 2, none⟩) (by first | (simp; done) | (simp; omega) | omega)).trans (by first | with_reducible assumption | (simp [go_sem]; done) | (simp [go_sem, *]; done))
    have g3_0_2 : w3.frozen? ⟨w.heap.size, 2, none⟩ = false := (b3.frozen (p := ⟨w.heap.size, 2, none⟩) (by first | (simp; done) | (simp; omega) | omega)).trans (by first | with_reducible assumption | (simp [go_sem]; done) | (simp [go_sem, *]; done))
    have k3_0_3 : w3.cell? ⟨w.heap.size, 3, none⟩ = some (.int .i64 (bY)) := (b3.cell (p := ⟨w.heap.size, 3, none⟩) (by first | (simp; done) | (simp; omega) | omega)).trans (by first | with_reducible assumption | (simp [go_sem]; done) | (simp [go_sem, *]; done))
    have g3_0_3 : w3.frozen? ⟨w.heap.size, 3, none⟩ = false := (b3.frozen (p := ⟨w.heap.size, 3, none⟩) (by first | (simp; done) | (simp; omega) | omega)).trans (by first | with_reducible assumption | (simp [go_sem]; done) | (simp [go_sem, *]; done))
    have z3_1 : w.heap.size + 1 < w3.heap.size := by omega
    have k3_1_0 : w3.cell? ⟨w.heap.size + 1, 0, none⟩ = some (.int .i64 (x)) := (b3.cell (p := ⟨w.heap.size + 1, 0, none⟩) (by first | (simp; done) | (simp; omega) | omega)).trans (by first | with_reducible assumption | (simp [go_sem]; done) | (simp [go_sem, *]; done))
    have g3_1_0 : w3.frozen? ⟨w.heap.size + 1, 0, none⟩ = false := (b3.frozen (p := ⟨w.heap.size + 1, 0, none⟩) (by first | (simp; done) | (simp; omega) | omega)).trans (by first | with_reducible assumption | (simp [go_sem]; done) | (simp [go_sem, *]; done))
    have k3_1_1 : w3.cell? ⟨w.heap.size + 1, 1, none⟩ = some (.int .i64 (y)) := (b3.cell (p := ⟨w.heap.size + 1, 1, none⟩) (by first | (simp; done) | (simp; omega) | omega)).trans (by first | with_reducible assumption | (simp [go_sem]; done) | (simp [go_sem, *]; done))
    have g3_1_1 : w3.frozen? ⟨w.heap.size + 1, 1, none⟩ = false := (b3.frozen (p := ⟨w.heap.size + 1, 1, none⟩) (by first | (simp; done) | (simp; omega) | omega)).trans (by first | with_reducible assumption | (simp [go_sem]; done) | (simp [go_sem, *]; done))
    have z3_2 : w.heap.size + 1 + 1 < w3.heap.size := by omega
    have k3_2_0 : w3.cell? ⟨w.heap.size + 1 + 1, 0, none⟩ = some (.int .i64 (0)) := (b3.cell (p := ⟨w.heap.size + 1 + 1, 0, none⟩) (by first | (simp; done) | (simp; omega) | omega)).trans (by first | with_reducible assumption | (simp [go_sem]; done) | (simp [go_sem, *]; done))
    have g3_2_0 : w3.frozen? ⟨w.heap.size + 1 + 1, 0, none⟩ = false := (b3.frozen (p := ⟨w.heap.size + 1 + 1, 0, none⟩) (by first | (simp; done) | (simp; omega) | omega)).trans (by first | with_reducible assumption | (simp [go_sem]; done) | (simp [go_sem, *]; done))
    have k3_2_1 : w3.cell? ⟨w.heap.size + 1 + 1, 1, none⟩ = some (.int .i64 (0)) := (b3.cell (p := ⟨w.heap.size + 1 + 1, 1, none⟩) (by first | (simp; done) | (simp; omega) | omega)).trans (by first | with_reducible assumption | (simp [go_sem]; done) | (simp [go_sem, *]; done))
    have g3_2_1 : w3.frozen? ⟨w.heap.size + 1 + 1, 1, none⟩ = false := (b3.frozen (p := ⟨w.heap.size + 1 + 1, 1, none⟩) (by first | (simp; done) | (simp; omega) | omega)).trans (by first | with_reducible assumption | (simp [go_sem]; done) | (simp [go_sem, *]; done))
    have z3_3 : w1.heap.size < w3.heap.size := by omega
    have k3_3_0 : w3.cell? ⟨w1.heap.size, 0, none⟩ = some (.int .i64 (bX - aX)) := (b3.cell (p := ⟨w1.heap.size, 0, none⟩) (by first | (simp; done) | (simp; omega) | omega)).trans (by first | with_reducible assumption | (simp [go_sem]; done) | (simp [go_sem, *]; done))
    have g3_3_0 : w3.frozen? ⟨w1.heap.size, 0, none⟩ = false := (b3.frozen (p := ⟨w1.heap.size, 0, none⟩) (by first | (simp; done) | (simp; omega) | omega)).trans (by first | with_reducible assumption | (simp [go_sem]; done) | (simp [go_sem, *]; done))
    have k3_3_1 : w3.cell? ⟨w1.heap.size, 1, none⟩ = some (.int .i64 (bY - aY)) := (b3.cell (p := ⟨w1.heap.size, 1, none⟩) (by first | (simp; done) | (simp; omega) | omega)).trans (by first | with_reducible assumption | (simp [go_sem]; done) | (simp [go_sem, *]; done))
    have g3_3_1 : w3.frozen? ⟨w1.heap.size, 1, none⟩ = false := (b3.frozen (p := ⟨w1.heap.size, 1, none⟩) (by first | (simp; done) | (simp; omega) | omega)).trans (by first | with_reducible assumption | (simp [go_sem]; done) | (simp [go_sem, *]; done))
    clear k2_0_0 g2_0_0 k2_0_1 g2_0_1 k2_0_2 g2_0_2 k2_0_3 g2_0_3 k2_1_0 g2_1_0 k2_1_1 g2_1_1 k2_2_0 g2_2_0 k2_2_1 g2_2_1 k2_3_0 g2_3_0 k2_3_1 g2_3_1
    go_wp2
    refine bodyPost_ret (v := .agg #[.int .i64 (farV aX aY x y), .int .i64 1]) (by simp [results, Try.results79, go_sem, *]) rfl ⟨rfl, ?_⟩
    (repeat (first | with_reducible exact Below.refl _ _ | with_reducible refine bl_alloc ?_ _ | with_reducible refine bl_drew ?_ | with_reducible refine bl_set ?_ (by first | (simp; done) | (simp; omega)) _ | with_reducible refine bl_call (by assumption) ?_))
  · by_cases q2 : dotV bX bY aX aY x y ≤ 0
    · have rn : NumV aX aY bX bY x y = farV bX bY x y := by simp [NumV, q1, q2]
      have rd : DenV aX aY bX bY x y = 1 := by simp [DenV, q1, q2]
      rw [rn, rd]
      clear rn rd
      have K1 : Hid (∀ W : World, Calls Try.prog 98 #[.agg #[.int .i64 bX, .int .i64 bY], .agg #[.int .i64 aX, .int .i64 aY]] W fun e w' => e = .returned (.agg #[.int .i64 (bX - aX), .int .i64 (bY - aY)]) ∧ Below W.heap.size W w') := Lib.hid fun W => by
        have h := impl_Point_minus (bX) (bY) (aX) (aY) W (by omega) (by omega) (by omega) (by omega)
        exact h
      have K2 : Hid (∀ W : World, Calls Try.prog 98 #[.agg #[.int .i64 x, .int .i64 y], .agg #[.int .i64 aX, .int .i64 aY]] W fun e w' => e = .returned (.agg #[.int .i64 (x - aX), .int .i64 (y - aY)]) ∧ Below W.heap.size W w') := Lib.hid fun W => by
        have h := impl_Point_minus (x) (y) (aX) (aY) W (by omega) (by omega) (by omega) (by omega)
        exact h
      have K3 : Hid (∀ W : World, Calls Try.prog 99 #[.agg #[.int .i64 (bX - aX), .int .i64 (bY - aY)], .agg #[.int .i64 (x - aX), .int .i64 (y - aY)]] W fun e w' => e = .returned (.int .i64 (dotV aX aY bX bY x y)) ∧ Below W.heap.size W w') := Lib.hid fun W => by
        have h := impl_Point_dot (bX - aX) (bY - aY) (x - aX) (y - aY) W (by omega) (by omega) (by omega) (by omega)
        exact h
      have K4 : Hid (∀ W : World, Calls Try.prog 98 #[.agg #[.int .i64 x, .int .i64 y], .agg #[.int .i64 bX, .int .i64 bY]] W fun e w' => e = .returned (.agg #[.int .i64 (x - bX), .int .i64 (y - bY)]) ∧ Below W.heap.size W w') := Lib.hid fun W => by
        have h := impl_Point_minus (x) (y) (bX) (bY) W (by omega) (by omega) (by omega) (by omega)
        exact h
      have K5 : Hid (∀ W : World, Calls Try.prog 99 #[.agg #[.int .i64 (bX - aX), .int .i64 (bY - aY)], .agg #[.int .i64 (x - bX), .int .i64 (y - bY)]] W fun e w' => e = .returned (.int .i64 (-dotV bX bY aX aY x y)) ∧ Below W.heap.size W w') := Lib.hid fun W => by
        have h := impl_Point_dot (bX - aX) (bY - aY) (x - bX) (y - bY) W (by omega) (by omega) (by omega) (by omega)
        rw [dotV_flip] at h
        exact h
      have K6 : Hid (∀ W : World, Calls Try.prog 100 #[.agg #[.int .i64 aX, .int .i64 aY], .agg #[.int .i64 x, .int .i64 y]] W fun e w' => e = .returned (.int .i64 (farV aX aY x y)) ∧ Below W.heap.size W w') := Lib.hid fun W => by
        have h := impl_far (aX) (aY) (x) (y) W (by omega) (by omega) (by omega) (by omega)
        exact h
      have K7 : Hid (∀ W : World, Calls Try.prog 100 #[.agg #[.int .i64 bX, .int .i64 bY], .agg #[.int .i64 x, .int .i64 y]] W fun e w' => e = .returned (.int .i64 (farV bX bY x y)) ∧ Below W.heap.size W w') := Lib.hid fun W => by
        have h := impl_far (bX) (bY) (x) (y) W (by omega) (by omega) (by omega) (by omega)
        exact h
      have K8 : Hid (∀ W : World, Calls Try.prog 101 #[.agg #[.int .i64 aX, .int .i64 aY], .agg #[.int .i64 bX, .int .i64 bY], .agg #[.int .i64 x, .int .i64 y]] W fun e w' => e = .returned (.int .i64 (crossV aX aY bX bY x y)) ∧ Below W.heap.size W w') := Lib.hid fun W => by
        have h := impl_turn (aX) (aY) (bX) (bY) (x) (y) W (by omega) (by omega) (by omega) (by omega) (by omega) (by omega)
        exact h
      have K9 : Hid (∀ W : World, Calls Try.prog 99 #[.agg #[.int .i64 (bX - aX), .int .i64 (bY - aY)], .agg #[.int .i64 (bX - aX), .int .i64 (bY - aY)]] W fun e w' => e = .returned (.int .i64 (farV aX aY bX bY)) ∧ Below W.heap.size W w') := Lib.hid fun W => by
        have h := impl_Point_dot (bX - aX) (bY - aY) (bX - aX) (bY - aY) W (by omega) (by omega) (by omega) (by omega)
        exact h
      generalize dotV aX aY bX bY x y = D1 at *
      generalize dotV bX bY aX aY x y = D2 at *
      generalize crossV aX aY bX bY x y = C at *
      have q3 : ¬ D1 ≤ 0 := q1
      go_enter Try.func79, Try.ntmps79
      go_wp2_with fail
      refine (K1.out _).mono ?_
      rintro e w1 ⟨rfl, b1⟩
      have s1 := b1.size
      try simp at s1
      have z1_0 : w.heap.size < w1.heap.size := by omega
      have k1_0_0 : w1.cell? ⟨w.heap.size, 0, none⟩ = some (.int .i64 (aX)) := (b1.cell (p := ⟨w.heap.size, 0, none⟩) (by first | (simp; done) | (simp; omega) | omega)).trans (by first | with_reducible assumption | (simp [go_sem]; done) | (simp [go_sem, *]; done))
      have g1_0_0 : w1.frozen? ⟨w.heap.size, 0, none⟩ = false := (b1.frozen (p := ⟨w.heap.size, 0, none⟩) (by first | (simp; done) | (simp; omega) | omega)).trans (by first | with_reducible assumption | (simp [go_sem]; done) | (simp [go_sem, *]; done))
      have k1_0_1 : w1.cell? ⟨w.heap.size, 1, none⟩ = some (.int .i64 (aY)) := (b1.cell (p := ⟨w.heap.size, 1, none⟩) (by first | (simp; done) | (simp; omega) | omega)).trans (by first | with_reducible assumption | (simp [go_sem]; done) | (simp [go_sem, *]; done))
      have g1_0_1 : w1.frozen? ⟨w.heap.size, 1, none⟩ = false := (b1.frozen (p := ⟨w.heap.size, 1, none⟩) (by first | (simp; done) | (simp; omega) | omega)).trans (by first | with_reducible assumption | (simp [go_sem]; done) | (simp [go_sem, *]; done))
      have k1_0_2 : w1.cell? ⟨w.heap.size, 2, none⟩ = some (.int .i64 (bX)) := (b1.cell (p := ⟨w.heap.size, 2, none⟩) (by first | (simp; done) | (simp; omega) | omega)).trans (by first | with_reducible assumption | (simp [go_sem]; done) | (simp [go_sem, *]; done))
      have g1_0_2 : w1.frozen? ⟨w.heap.size, 2, none⟩ = false := (b1.frozen (p := ⟨w.heap.size, 2, none⟩) (by first | (simp; done) | (simp; omega) | omega)).trans (by first | with_reducible assumption | (simp [go_sem]; done) | (simp [go_sem, *]; done))
      have k1_0_3 : w1.cell? ⟨w.heap.size, 3, none⟩ = some (.int .i64 (bY)) := (b1.cell (p := ⟨w.heap.size, 3, none⟩) (by first | (simp; done) | (simp; omega) | omega)).trans (by first | with_reducible assumption | (simp [go_sem]; done) | (simp [go_sem, *]; done))
      have g1_0_3 : w1.frozen? ⟨w.heap.size, 3, none⟩ = false := (b1.frozen (p := ⟨w.heap.size, 3, none⟩) (by first | (simp; done) | (simp; omega) | omega)).trans (by first | with_reducible assumption | (simp [go_sem]; done) | (simp [go_sem, *]; done))
      have z1_1 : w.heap.size + 1 < w1.heap.size := by omega
      have k1_1_0 : w1.cell? ⟨w.heap.size + 1, 0, none⟩ = some (.int .i64 (x)) := (b1.cell (p := ⟨w.heap.size + 1, 0, none⟩) (by first | (simp; done) | (simp; omega) | omega)).trans (by first | with_reducible assumption | (simp [go_sem]; done) | (simp [go_sem, *]; done))
      have g1_1_0 : w1.frozen? ⟨w.heap.size + 1, 0, none⟩ = false := (b1.frozen (p := ⟨w.heap.size + 1, 0, none⟩) (by first | (simp; done) | (simp; omega) | omega)).trans (by first | with_reducible assumption | (simp [go_sem]; done) | (simp [go_sem, *]; done))
      have k1_1_1 : w1.cell? ⟨w.heap.size + 1, 1, none⟩ = some (.int .i64 (y)) := (b1.cell (p := ⟨w.heap.size + 1, 1, none⟩) (by first | (simp; done) | (simp; omega) | omega)).trans (by first | with_reducible assumption | (simp [go_sem]; done) | (simp [go_sem, *]; done))
      have g1_1_1 : w1.frozen? ⟨w.heap.size + 1, 1, none⟩ = false := (b1.frozen (p := ⟨w.heap.size + 1, 1, none⟩) (by first | (simp; done) | (simp; omega) | omega)).trans (by first | with_reducible assumption | (simp [go_sem]; done) | (simp [go_sem, *]; done))
      have z1_2 : w.heap.size + 1 + 1 < w1.heap.size := by omega
      have k1_2_0 : w1.cell? ⟨w.heap.size + 1 + 1, 0, none⟩ = some (.int .i64 (0)) := (b1.cell (p := ⟨w.heap.size + 1 + 1, 0, none⟩) (by first | (simp; done) | (simp; omega) | omega)).trans (by first | with_reducible assumption | (simp [go_sem]; done) | (simp [go_sem, *]; done))
      have g1_2_0 : w1.frozen? ⟨w.heap.size + 1 + 1, 0, none⟩ = false := (b1.frozen (p := ⟨w.heap.size + 1 + 1, 0, none⟩) (by first | (simp; done) | (simp; omega) | omega)).trans (by first | with_reducible assumption | (simp [go_sem]; done) | (simp [go_sem, *]; done))
      have k1_2_1 : w1.cell? ⟨w.heap.size + 1 + 1, 1, none⟩ = some (.int .i64 (0)) := (b1.cell (p := ⟨w.heap.size + 1 + 1, 1, none⟩) (by first | (simp; done) | (simp; omega) | omega)).trans (by first | with_reducible assumption | (simp [go_sem]; done) | (simp [go_sem, *]; done))
      have g1_2_1 : w1.frozen? ⟨w.heap.size + 1 + 1, 1, none⟩ = false := (b1.frozen (p := ⟨w.heap.size + 1 + 1, 1, none⟩) (by first | (simp; done) | (simp; omega) | omega)).trans (by first | with_reducible assumption | (simp [go_sem]; done) | (simp [go_sem, *]; done))
      go_wp2
      have kc0 := cell_regrown (w := (w1.alloc (Obj.cells #[.int .i64 (bX - aX), .int .i64 (bY - aY)] 47))) (a := ⟨w.heap.size, 0, none⟩) (v := .int .i64 (aX)) (by first | ((repeat (first | with_reducible assumption | with_reducible refine calloc ?_ _)); done) | (simp [go_sem]; done) | (simp [go_sem, *]; done))
      have kc1 := cell_regrown (w := (w1.alloc (Obj.cells #[.int .i64 (bX - aX), .int .i64 (bY - aY)] 47))) (a := ⟨w.heap.size, 1, none⟩) (v := .int .i64 (aY)) (by first | ((repeat (first | with_reducible assumption | with_reducible refine calloc ?_ _)); done) | (simp [go_sem]; done) | (simp [go_sem, *]; done))
      have kc2 := cell_regrown (w := (w1.alloc (Obj.cells #[.int .i64 (bX - aX), .int .i64 (bY - aY)] 47))) (a := ⟨w.heap.size, 2, none⟩) (v := .int .i64 (bX)) (by first | ((repeat (first | with_reducible assumption | with_reducible refine calloc ?_ _)); done) | (simp [go_sem]; done) | (simp [go_sem, *]; done))
      have kc3 := cell_regrown (w := (w1.alloc (Obj.cells #[.int .i64 (bX - aX), .int .i64 (bY - aY)] 47))) (a := ⟨w.heap.size, 3, none⟩) (v := .int .i64 (bY)) (by first | ((repeat (first | with_reducible assumption | with_reducible refine calloc ?_ _)); done) | (simp [go_sem]; done) | (simp [go_sem, *]; done))
      have kc4 := cell_regrown (w := (w1.alloc (Obj.cells #[.int .i64 (bX - aX), .int .i64 (bY - aY)] 47))) (a := ⟨w.heap.size + 1, 0, none⟩) (v := .int .i64 (x)) (by first | ((repeat (first | with_reducible assumption | with_reducible refine calloc ?_ _)); done) | (simp [go_sem]; done) | (simp [go_sem, *]; done))
      have kc5 := cell_regrown (w := (w1.alloc (Obj.cells #[.int .i64 (bX - aX), .int .i64 (bY - aY)] 47))) (a := ⟨w.heap.size + 1, 1, none⟩) (v := .int .i64 (y)) (by first | ((repeat (first | with_reducible assumption | with_reducible refine calloc ?_ _)); done) | (simp [go_sem]; done) | (simp [go_sem, *]; done))
      have kc6 := cell_regrown (w := (w1.alloc (Obj.cells #[.int .i64 (bX - aX), .int .i64 (bY - aY)] 47))) (a := ⟨w.heap.size + 1 + 1, 0, none⟩) (v := .int .i64 (0)) (by first | ((repeat (first | with_reducible assumption | with_reducible refine calloc ?_ _)); done) | (simp [go_sem]; done) | (simp [go_sem, *]; done))
      have kc7 := cell_regrown (w := (w1.alloc (Obj.cells #[.int .i64 (bX - aX), .int .i64 (bY - aY)] 47))) (a := ⟨w.heap.size + 1 + 1, 1, none⟩) (v := .int .i64 (0)) (by first | ((repeat (first | with_reducible assumption | with_reducible refine calloc ?_ _)); done) | (simp [go_sem]; done) | (simp [go_sem, *]; done))
      have kc8 := cell_regrown (w := (w1.alloc (Obj.cells #[.int .i64 (bX - aX), .int .i64 (bY - aY)] 47))) (a := ⟨w1.heap.size, 0, none⟩) (v := .int .i64 (bX - aX)) (by first | ((repeat (first | with_reducible assumption | with_reducible refine calloc ?_ _)); done) | (simp [go_sem]; done) | (simp [go_sem, *]; done))
      have kc9 := cell_regrown (w := (w1.alloc (Obj.cells #[.int .i64 (bX - aX), .int .i64 (bY - aY)] 47))) (a := ⟨w1.heap.size, 1, none⟩) (v := .int .i64 (bY - aY)) (by first | ((repeat (first | with_reducible assumption | with_reducible refine calloc ?_ _)); done) | (simp [go_sem]; done) | (simp [go_sem, *]; done))
      refine wp_region_quiet_below (by kernel_rfl) (by kernel_rfl) ?_
      repeat (go_big_quiet_step ((first | (go_at_call 98; exact Calls.regrown_of (K2.out _)) | (go_at_call 99; exact Calls.regrown_of (K3.out _)))))
      refine wpQuiet_nil ?_
      intro w2 hw'
      have b2 : Below (w1.alloc (Obj.cells #[.int .i64 (bX - aX), .int .i64 (bY - aY)] 47)).heap.size (w1.alloc (Obj.cells #[.int .i64 (bX - aX), .int .i64 (bY - aY)] 47)) w2 := by
        obtain ⟨pp, rfl⟩ := hw'
        exact below_regrown _ _ _
      clear hw' kc0 kc1 kc2 kc3 kc4 kc5 kc6 kc7 kc8 kc9
      have s2 := b2.size
      try simp at s2
      have z2_0 : w.heap.size < w2.heap.size := by omega
      have k2_0_0 : w2.cell? ⟨w.heap.size, 0, none⟩ = some (.int .i64 (aX)) := (b2.cell (p := ⟨w.heap.size, 0, none⟩) (by first | (simp; done) | (simp; omega) | omega)).trans (by first | with_reducible assumption | (simp [go_sem]; done) | (simp [go_sem, *]; done))
      have g2_0_0 : w2.frozen? ⟨w.heap.size, 0, none⟩ = false := (b2.frozen (p := ⟨w.heap.size, 0, none⟩) (by first | (simp; done) | (simp; omega) | omega)).trans (by first | with_reducible assumption | (simp [go_sem]; done) | (simp [go_sem, *]; done))
      have k2_0_1 : w2.cell? ⟨w.heap.size, 1, none⟩ = some (.int .i64 (aY)) := (b2.cell (p := ⟨w.heap.size, 1, none⟩) (by first | (simp; done) | (simp; omega) | omega)).trans (by first | with_reducible assumption | (simp [go_sem]; done) | (simp [go_sem, *]; done))
      have g2_0_1 : w2.frozen? ⟨w.heap.size, 1, none⟩ = false := (b2.frozen (p := ⟨w.heap.size, 1, none⟩) (by first | (simp; done) | (simp; omega) | omega)).trans (by first | with_reducible assumption | (simp [go_sem]; done) | (simp [go_sem, *]; done))
      have k2_0_2 : w2.cell? ⟨w.heap.size, 2, none⟩ = some (.int .i64 (bX)) := (b2.cell (p := ⟨w.heap.size, 2, none⟩) (by first | (simp; done) | (simp; omega) | omega)).trans (by first | with_reducible assumption | (simp [go_sem]; done) | (simp [go_sem, *]; done))
      have g2_0_2 : w2.frozen? ⟨w.heap.size, 2, none⟩ = false := (b2.frozen (p := ⟨w.heap.size, 2, none⟩) (by first | (simp; done) | (simp; omega) | omega)).trans (by first | with_reducible assumption | (simp [go_sem]; done) | (simp [go_sem, *]; done))
      have k2_0_3 : w2.cell? ⟨w.heap.size, 3, none⟩ = some (.int .i64 (bY)) := (b2.cell (p := ⟨w.heap.size, 3, none⟩) (by first | (simp; done) | (simp; omega) | omega)).trans (by first | with_reducible assumption | (simp [go_sem]; done) | (simp [go_sem, *]; done))
      have g2_0_3 : w2.frozen? ⟨w.heap.size, 3, none⟩ = false := (b2.frozen (p := ⟨w.heap.size, 3, none⟩) (by first | (simp; done) | (simp; omega) | omega)).trans (by first | with_reducible assumption | (simp [go_sem]; done) | (simp [go_sem, *]; done))
      have z2_1 : w.heap.size + 1 < w2.heap.size := by omega
      have k2_1_0 : w2.cell? ⟨w.heap.size + 1, 0, none⟩ = some (.int .i64 (x)) := (b2.cell (p := ⟨w.heap.size + 1, 0, none⟩) (by first | (simp; done) | (simp; omega) | omega)).trans (by first | with_reducible assumption | (simp [go_sem]; done) | (simp [go_sem, *]; done))
      have g2_1_0 : w2.frozen? ⟨w.heap.size + 1, 0, none⟩ = false := (b2.frozen (p := ⟨w.heap.size + 1, 0, none⟩) (by first | (simp; done) | (simp; omega) | omega)).trans (by first | with_reducible assumption | (simp [go_sem]; done) | (simp [go_sem, *]; done))
      have k2_1_1 : w2.cell? ⟨w.heap.size + 1, 1, none⟩ = some (.int .i64 (y)) := (b2.cell (p := ⟨w.heap.size + 1, 1, none⟩) (by first | (simp; done) | (simp; omega) | omega)).trans (by first | with_reducible assumption | (simp [go_sem]; done) | (simp [go_sem, *]; done))
      have g2_1_1 : w2.frozen? ⟨w.heap.size + 1, 1, none⟩ = false := (b2.frozen (p := ⟨w.heap.size + 1, 1, none⟩) (by first | (simp; done) | (simp; omega) | omega)).trans (by first | with_reducible assumption | (simp [go_sem]; done) | (simp [go_sem, *]; done))
      have z2_2 : w.heap.size + 1 + 1 < w2.heap.size := by omega
      have k2_2_0 : w2.cell? ⟨w.heap.size + 1 + 1, 0, none⟩ = some (.int .i64 (0)) := (b2.cell (p := ⟨w.heap.size + 1 + 1, 0, none⟩) (by first | (simp; done) | (simp; omega) | omega)).trans (by first | with_reducible assumption | (simp [go_sem]; done) | (simp [go_sem, *]; done))
      have g2_2_0 : w2.frozen? ⟨w.heap.size + 1 + 1, 0, none⟩ = false := (b2.frozen (p := ⟨w.heap.size + 1 + 1, 0, none⟩) (by first | (simp; done) | (simp; omega) | omega)).trans (by first | with_reducible assumption | (simp [go_sem]; done) | (simp [go_sem, *]; done))
      have k2_2_1 : w2.cell? ⟨w.heap.size + 1 + 1, 1, none⟩ = some (.int .i64 (0)) := (b2.cell (p := ⟨w.heap.size + 1 + 1, 1, none⟩) (by first | (simp; done) | (simp; omega) | omega)).trans (by first | with_reducible assumption | (simp [go_sem]; done) | (simp [go_sem, *]; done))
      have g2_2_1 : w2.frozen? ⟨w.heap.size + 1 + 1, 1, none⟩ = false := (b2.frozen (p := ⟨w.heap.size + 1 + 1, 1, none⟩) (by first | (simp; done) | (simp; omega) | omega)).trans (by first | with_reducible assumption | (simp [go_sem]; done) | (simp [go_sem, *]; done))
      have z2_3 : w1.heap.size < w2.heap.size := by omega
      have k2_3_0 : w2.cell? ⟨w1.heap.size, 0, none⟩ = some (.int .i64 (bX - aX)) := (b2.cell (p := ⟨w1.heap.size, 0, none⟩) (by first | (simp; done) | (simp; omega) | omega)).trans (by first | with_reducible assumption | (simp [go_sem]; done) | (simp [go_sem, *]; done))
      have g2_3_0 : w2.frozen? ⟨w1.heap.size, 0, none⟩ = false := (b2.frozen (p := ⟨w1.heap.size, 0, none⟩) (by first | (simp; done) | (simp; omega) | omega)).trans (by first | with_reducible assumption | (simp [go_sem]; done) | (simp [go_sem, *]; done))
      have k2_3_1 : w2.cell? ⟨w1.heap.size, 1, none⟩ = some (.int .i64 (bY - aY)) := (b2.cell (p := ⟨w1.heap.size, 1, none⟩) (by first | (simp; done) | (simp; omega) | omega)).trans (by first | with_reducible assumption | (simp [go_sem]; done) | (simp [go_sem, *]; done))
      have g2_3_1 : w2.frozen? ⟨w1.heap.size, 1, none⟩ = false := (b2.frozen (p := ⟨w1.heap.size, 1, none⟩) (by first | (simp; done) | (simp; omega) | omega)).trans (by first | with_reducible assumption | (simp [go_sem]; done) | (simp [go_sem, *]; done))
      clear k1_0_0 g1_0_0 k1_0_1 g1_0_1 k1_0_2 g1_0_2 k1_0_3 g1_0_3 k1_1_0 g1_1_0 k1_1_1 g1_1_1 k1_2_0 g1_2_0 k1_2_1 g1_2_1
      go_wp2
      have kc0 := cell_regrown (w := w2) (a := ⟨w.heap.size, 0, none⟩) (v := .int .i64 (aX)) (by first | ((repeat (first | with_reducible assumption | with_reducible refine calloc ?_ _)); done) | (simp [go_sem]; done) | (simp [go_sem, *]; done))
      have kc1 := cell_regrown (w := w2) (a := ⟨w.heap.size, 1, none⟩) (v := .int .i64 (aY)) (by first | ((repeat (first | with_reducible assumption | with_reducible refine calloc ?_ _)); done) | (simp [go_sem]; done) | (simp [go_sem, *]; done))
      have kc2 := cell_regrown (w := w2) (a := ⟨w.heap.size, 2, none⟩) (v := .int .i64 (bX)) (by first | ((repeat (first | with_reducible assumption | with_reducible refine calloc ?_ _)); done) | (simp [go_sem]; done) | (simp [go_sem, *]; done))
      have kc3 := cell_regrown (w := w2) (a := ⟨w.heap.size, 3, none⟩) (v := .int .i64 (bY)) (by first | ((repeat (first | with_reducible assumption | with_reducible refine calloc ?_ _)); done) | (simp [go_sem]; done) | (simp [go_sem, *]; done))
      have kc4 := cell_regrown (w := w2) (a := ⟨w.heap.size + 1, 0, none⟩) (v := .int .i64 (x)) (by first | ((repeat (first | with_reducible assumption | with_reducible refine calloc ?_ _)); done) | (simp [go_sem]; done) | (simp [go_sem, *]; done))
      have kc5 := cell_regrown (w := w2) (a := ⟨w.heap.size + 1, 1, none⟩) (v := .int .i64 (y)) (by first | ((repeat (first | with_reducible assumption | with_reducible refine calloc ?_ _)); done) | (simp [go_sem]; done) | (simp [go_sem, *]; done))
      have kc6 := cell_regrown (w := w2) (a := ⟨w.heap.size + 1 + 1, 0, none⟩) (v := .int .i64 (0)) (by first | ((repeat (first | with_reducible assumption | with_reducible refine calloc ?_ _)); done) | (simp [go_sem]; done) | (simp [go_sem, *]; done))
      have kc7 := cell_regrown (w := w2) (a := ⟨w.heap.size + 1 + 1, 1, none⟩) (v := .int .i64 (0)) (by first | ((repeat (first | with_reducible assumption | with_reducible refine calloc ?_ _)); done) | (simp [go_sem]; done) | (simp [go_sem, *]; done))
      have kc8 := cell_regrown (w := w2) (a := ⟨w1.heap.size, 0, none⟩) (v := .int .i64 (bX - aX)) (by first | ((repeat (first | with_reducible assumption | with_reducible refine calloc ?_ _)); done) | (simp [go_sem]; done) | (simp [go_sem, *]; done))
      have kc9 := cell_regrown (w := w2) (a := ⟨w1.heap.size, 1, none⟩) (v := .int .i64 (bY - aY)) (by first | ((repeat (first | with_reducible assumption | with_reducible refine calloc ?_ _)); done) | (simp [go_sem]; done) | (simp [go_sem, *]; done))
      refine wp_region_quiet_below (by kernel_rfl) (by kernel_rfl) ?_
      repeat (go_big_quiet_step ((first | (go_at_call 98; exact Calls.regrown_of (K4.out _)) | (go_at_call 99; exact Calls.regrown_of (K5.out _)))))
      refine wpQuiet_nil ?_
      intro w3 hw'
      have b3 : Below w2.heap.size w2 w3 := by
        obtain ⟨pp, rfl⟩ := hw'
        exact below_regrown _ _ _
      clear hw' kc0 kc1 kc2 kc3 kc4 kc5 kc6 kc7 kc8 kc9
      have s3 := b3.size
      try simp at s3
      have z3_0 : w.heap.size < w3.heap.size := by omega
      have k3_0_0 : w3.cell? ⟨w.heap.size, 0, none⟩ = some (.int .i64 (aX)) := (b3.cell (p := ⟨w.heap.size, 0, none⟩) (by first | (simp; done) | (simp; omega) | omega)).trans (by first | with_reducible assumption | (simp [go_sem]; done) | (simp [go_sem, *]; done))
      have g3_0_0 : w3.frozen? ⟨w.heap.size, 0, none⟩ = false := (b3.frozen (p := ⟨w.heap.size, 0, none⟩) (by first | (simp; done) | (simp; omega) | omega)).trans (by first | with_reducible assumption | (simp [go_sem]; done) | (simp [go_sem, *]; done))
      have k3_0_1 : w3.cell? ⟨w.heap.size, 1, none⟩ = some (.int .i64 (aY)) := (b3.cell (p := ⟨w.heap.size, 1, none⟩) (by first | (simp; done) | (simp; omega) | omega)).trans (by first | with_reducible assumption | (simp [go_sem]; done) | (simp [go_sem, *]; done))
      have g3_0_1 : w3.frozen? ⟨w.heap.size, 1, none⟩ = false := (b3.frozen (p := ⟨w.heap.size, 1, none⟩) (by first | (simp; done) | (simp; omega) | omega)).trans (by first | with_reducible assumption | (simp [go_sem]; done) | (simp [go_sem, *]; done))
      have k3_0_2 : w3.cell? ⟨w.heap.size, 2, none⟩ = some (.int .i64 (bX)) := (b3.cell (p := ⟨w.heap.size, 2, none⟩) (by first | (simp; done) | (simp; omega) | omega)).trans (by first | with_reducible assumption | (simp [go_sem]; done) | (simp [go_sem, *]; done))
      have g3_0_2 : w3.frozen? ⟨w.heap.size, 2, none⟩ = false := (b3.frozen (p := ⟨w.heap.size, 2, none⟩) (by first | (simp; done) | (simp; omega) | omega)).trans (by first | with_reducible assumption | (simp [go_sem]; done) | (simp [go_sem, *]; done))
      have k3_0_3 : w3.cell? ⟨w.heap.size, 3, none⟩ = some (.int .i64 (bY)) := (b3.cell (p := ⟨w.heap.size, 3, none⟩) (by first | (simp; done) | (simp; omega) | omega)).trans (by first | with_reducible assumption | (simp [go_sem]; done) | (simp [go_sem, *]; done))
      have g3_0_3 : w3.frozen? ⟨w.heap.size, 3, none⟩ = false := (b3.frozen (p := ⟨w.heap.size, 3, none⟩) (by first | (simp; done) | (simp; omega) | omega)).trans (by first | with_reducible assumption | (simp [go_sem]; done) | (simp [go_sem, *]; done))
      have z3_1 : w.heap.size + 1 < w3.heap.size := by omega
      have k3_1_0 : w3.cell? ⟨w.heap.size + 1, 0, none⟩ = some (.int .i64 (x)) := (b3.cell (p := ⟨w.heap.size + 1, 0, none⟩) (by first | (simp; done) | (simp; omega) | omega)).trans (by first | with_reducible assumption | (simp [go_sem]; done) | (simp [go_sem, *]; done))
      have g3_1_0 : w3.frozen? ⟨w.heap.size + 1, 0, none⟩ = false := (b3.frozen (p := ⟨w.heap.size + 1, 0, none⟩) (by first | (simp; done) | (simp; omega) | omega)).trans (by first | with_reducible assumption | (simp [go_sem]; done) | (simp [go_sem, *]; done))
      have k3_1_1 : w3.cell? ⟨w.heap.size + 1, 1, none⟩ = some (.int .i64 (y)) := (b3.cell (p := ⟨w.heap.size + 1, 1, none⟩) (by first | (simp; done) | (simp; omega) | omega)).trans (by first | with_reducible assumption | (simp [go_sem]; done) | (simp [go_sem, *]; done))
      have g3_1_1 : w3.frozen? ⟨w.heap.size + 1, 1, none⟩ = false := (b3.frozen (p := ⟨w.heap.size + 1, 1, none⟩) (by first | (simp; done) | (simp; omega) | omega)).trans (by first | with_reducible assumption | (simp [go_sem]; done) | (simp [go_sem, *]; done))
      have z3_2 : w.heap.size + 1 + 1 < w3.heap.size := by omega
      have k3_2_0 : w3.cell? ⟨w.heap.size + 1 + 1, 0, none⟩ = some (.int .i64 (0)) := (b3.cell (p := ⟨w.heap.size + 1 + 1, 0, none⟩) (by first | (simp; done) | (simp; omega) | omega)).trans (by first | with_reducible assumption | (simp [go_sem]; done) | (simp [go_sem, *]; done))
      have g3_2_0 : w3.frozen? ⟨w.heap.size + 1 + 1, 0, none⟩ = false := (b3.frozen (p := ⟨w.heap.size + 1 + 1, 0, none⟩) (by first | (simp; done) | (simp; omega) | omega)).trans (by first | with_reducible assumption | (simp [go_sem]; done) | (simp [go_sem, *]; done))
      have k3_2_1 : w3.cell? ⟨w.heap.size + 1 + 1, 1, none⟩ = some (.int .i64 (0)) := (b3.cell (p := ⟨w.heap.size + 1 + 1, 1, none⟩) (by first | (simp; done) | (simp; omega) | omega)).trans (by first | with_reducible assumption | (simp [go_sem]; done) | (simp [go_sem, *]; done))
      have g3_2_1 : w3.frozen? ⟨w.heap.size + 1 + 1, 1, none⟩ = false := (b3.frozen (p := ⟨w.heap.size + 1 + 1, 1, none⟩) (by first | (simp; done) | (simp; omega) | omega)).trans (by first | with_reducible assumption | (simp [go_sem]; done) | (simp [go_sem, *]; done))
      have z3_3 : w1.heap.size < w3.heap.size := by omega
      have k3_3_0 : w3.cell? ⟨w1.heap.size, 0, none⟩ = some (.int .i64 (bX - aX)) := (b3.cell (p := ⟨w1.heap.size, 0, none⟩) (by first | (simp; done) | (simp; omega) | omega)).trans (by first | with_reducible assumption | (simp [go_sem]; done) | (simp [go_sem, *]; done))
      have g3_3_0 : w3.frozen? ⟨w1.heap.size, 0, none⟩ = false := (b3.frozen (p := ⟨w1.heap.size, 0, none⟩) (by first | (simp; done) | (simp; omega) | omega)).trans (by first | with_reducible assumption | (simp [go_sem]; done) | (simp [go_sem, *]; done))
      have k3_3_1 : w3.cell? ⟨w1.heap.size, 1, none⟩ = some (.int .i64 (bY - aY)) := (b3.cell (p := ⟨w1.heap.size, 1, none⟩) (by first | (simp; done) | (simp; omega) | omega)).trans (by first | with_reducible assumption | (simp [go_sem]; done) | (simp [go_sem, *]; done))
      have g3_3_1 : w3.frozen? ⟨w1.heap.size, 1, none⟩ = false := (b3.frozen (p := ⟨w1.heap.size, 1, none⟩) (by first | (simp; done) | (simp; omega) | omega)).trans (by first | with_reducible assumption | (simp [go_sem]; done) | (simp [go_sem, *]; done))
      clear k2_0_0 g2_0_0 k2_0_1 g2_0_1 k2_0_2 g2_0_2 k2_0_3 g2_0_3 k2_1_0 g2_1_0 k2_1_1 g2_1_1 k2_2_0 g2_2_0 k2_2_1 g2_2_1 k2_3_0 g2_3_0 k2_3_1 g2_3_1
      go_wp2_with fail
      refine (K7.out _).mono ?_
      rintro e w4 ⟨rfl, b4⟩
      have s4 := b4.size
      try simp at s4
      have z4_0 : w.heap.size < w4.heap.size := by omega
      have k4_0_0 : w4.cell? ⟨w.heap.size, 0, none⟩ = some (.int .i64 (aX)) := (b4.cell (p := ⟨w.heap.size, 0, none⟩) (by first | (simp; done) | (simp; omega) | omega)).trans (by first | with_reducible assumption | (simp [go_sem]; done) | (simp [go_sem, *]; done))
      have g4_0_0 : w4.frozen? ⟨w.heap.size, 0, none⟩ = false := (b4.frozen (p := ⟨w.heap.size, 0, none⟩) (by first | (simp; done) | (simp; omega) | omega)).trans (by first | with_reducible assumption | (simp [go_sem]; done) | (simp [go_sem, *]; done))
      have k4_0_1 : w4.cell? ⟨w.heap.size, 1, none⟩ = some (.int .i64 (aY)) := (b4.cell (p := ⟨w.heap.size, 1, none⟩) (by first | (simp; done) | (simp; omega) | omega)).trans (by first | with_reducible assumption | (simp [go_sem]; done) | (simp [go_sem, *]; done))
      have g4_0_1 : w4.frozen? ⟨w.heap.size, 1, none⟩ = false := (b4.frozen (p := ⟨w.heap.size, 1, none⟩) (by first | (simp; done) | (simp; omega) | omega)).trans (by first | with_reducible assumption | (simp [go_sem]; done) | (simp [go_sem, *]; done))
      have k4_0_2 : w4.cell? ⟨w.heap.size, 2, none⟩ = some (.int .i64 (bX)) := (b4.cell (p := ⟨w.heap.size, 2, none⟩) (by first | (simp; done) | (simp; omega) | omega)).trans (by first | with_reducible assumption | (simp [go_sem]; done) | (simp [go_sem, *]; done))
      have g4_0_2 : w4.frozen? ⟨w.heap.size, 2, none⟩ = false := (b4.frozen (p := ⟨w.heap.size, 2, none⟩) (by first | (simp; done) | (simp; omega) | omega)).trans (by first | with_reducible assumption | (simp [go_sem]; done) | (simp [go_sem, *]; done))
      have k4_0_3 : w4.cell? ⟨w.heap.size, 3, none⟩ = some (.int .i64 (bY)) := (b4.cell (p := ⟨w.heap.size, 3, none⟩) (by first | (simp; done) | (simp; omega) | omega)).trans (by first | with_reducible assumption | (simp [go_sem]; done) | (simp [go_sem, *]; done))
      have g4_0_3 : w4.frozen? ⟨w.heap.size, 3, none⟩ = false := (b4.frozen (p := ⟨w.heap.size, 3, none⟩) (by first | (simp; done) | (simp; omega) | omega)).trans (by first | with_reducible assumption | (simp [go_sem]; done) | (simp [go_sem, *]; done))
      have z4_1 : w.heap.size + 1 < w4.heap.size := by omega
      have k4_1_0 : w4.cell? ⟨w.heap.size + 1, 0, none⟩ = some (.int .i64 (x)) := (b4.cell (p := ⟨w.heap.size + 1, 0, none⟩) (by first | (simp; done) | (simp; omega) | omega)).trans (by first | with_reducible assumption | (simp [go_sem]; done) | (simp [go_sem, *]; done))
      have g4_1_0 : w4.frozen? ⟨w.heap.size + 1, 0, none⟩ = false := (b4.frozen (p := ⟨w.heap.size + 1, 0, none⟩) (by first | (simp; done) | (simp; omega) | omega)).trans (by first | with_reducible assumption | (simp [go_sem]; done) | (simp [go_sem, *]; done))
      have k4_1_1 : w4.cell? ⟨w.heap.size + 1, 1, none⟩ = some (.int .i64 (y)) := (b4.cell (p := ⟨w.heap.size + 1, 1, none⟩) (by first | (simp; done) | (simp; omega) | omega)).trans (by first | with_reducible assumption | (simp [go_sem]; done) | (simp [go_sem, *]; done))
      have g4_1_1 : w4.frozen? ⟨w.heap.size + 1, 1, none⟩ = false := (b4.frozen (p := ⟨w.heap.size + 1, 1, none⟩) (by first | (simp; done) | (simp; omega) | omega)).trans (by first | with_reducible assumption | (simp [go_sem]; done) | (simp [go_sem, *]; done))
      have z4_2 : w.heap.size + 1 + 1 < w4.heap.size := by omega
      have k4_2_0 : w4.cell? ⟨w.heap.size + 1 + 1, 0, none⟩ = some (.int .i64 (0)) := (b4.cell (p := ⟨w.heap.size + 1 + 1, 0, none⟩) (by first | (simp; done) | (simp; omega) | omega)).trans (by first | with_reducible assumption | (simp [go_sem]; done) | (simp [go_sem, *]; done))
      have g4_2_0 : w4.frozen? ⟨w.heap.size + 1 + 1, 0, none⟩ = false := (b4.frozen (p := ⟨w.heap.size + 1 + 1, 0, none⟩) (by first | (simp; done) | (simp; omega) | omega)).trans (by first | with_reducible assumption | (simp [go_sem]; done) | (simp [go_sem, *]; done))
      have k4_2_1 : w4.cell? ⟨w.heap.size + 1 + 1, 1, none⟩ = some (.int .i64 (0)) := (b4.cell (p := ⟨w.heap.size + 1 + 1, 1, none⟩) (by first | (simp; done) | (simp; omega) | omega)).trans (by first | with_reducible assumption | (simp [go_sem]; done) | (simp [go_sem, *]; done))
      have g4_2_1 : w4.frozen? ⟨w.heap.size + 1 + 1, 1, none⟩ = false := (b4.frozen (p := ⟨w.heap.size + 1 + 1, 1, none⟩) (by first | (simp; done) | (simp; omega) | omega)).trans (by first | with_reducible assumption | (simp [go_sem]; done) | (simp [go_sem, *]; done))
      have z4_3 : w1.heap.size < w4.heap.size := by omega
      have k4_3_0 : w4.cell? ⟨w1.heap.size, 0, none⟩ = some (.int .i64 (bX - aX)) := (b4.cell (p := ⟨w1.heap.size, 0, none⟩) (by first | (simp; done) | (simp; omega) | omega)).trans (by first | with_reducible assumption | (simp [go_sem]; done) | (simp [go_sem, *]; done))
      have g4_3_0 : w4.frozen? ⟨w1.heap.size, 0, none⟩ = false := (b4.frozen (p := ⟨w1.heap.size, 0, none⟩) (by first | (simp; done) | (simp; omega) | omega)).trans (by first | with_reducible assumption | (simp [go_sem]; done) | (simp [go_sem, *]; done))
      have k4_3_1 : w4.cell? ⟨w1.heap.size, 1, none⟩ = some (.int .i64 (bY - aY)) := (b4.cell (p := ⟨w1.heap.size, 1, none⟩) (by first | (simp; done) | (simp; omega) | omega)).trans (by first | with_reducible assumption | (simp [go_sem]; done) | (simp [go_sem, *]; done))
      have g4_3_1 : w4.frozen? ⟨w1.heap.size, 1, none⟩ = false := (b4.frozen (p := ⟨w1.heap.size, 1, none⟩) (by first | (simp; done) | (simp; omega) | omega)).trans (by first | with_reducible assumption | (simp [go_sem]; done) | (simp [go_sem, *]; done))
      clear k3_0_0 g3_0_0 k3_0_1 g3_0_1 k3_0_2 g3_0_2 k3_0_3 g3_0_3 k3_1_0 g3_1_0 k3_1_1 g3_1_1 k3_2_0 g3_2_0 k3_2_1 g3_2_1 k3_3_0 g3_3_0 k3_3_1 g3_3_1
      go_wp2
      refine bodyPost_ret (v := .agg #[.int .i64 (farV bX bY x y), .int .i64 1]) (by simp [results, Try.results79, go_sem, *]) rfl ⟨rfl, ?_⟩
      (repeat (first | with_reducible exact Below.refl _ _ | with_reducible refine bl_alloc ?_ _ | with_reducible refine bl_drew ?_ | with_reducible refine bl_set ?_ (by first | (simp; done) | (simp; omega)) _ | with_reducible refine bl_call (by assumption) ?_))
    · have rn : NumV aX aY bX bY x y = crossV aX aY bX bY x y * crossV aX aY bX bY x y := by simp [NumV, q1, q2]
      have rd : DenV aX aY bX bY x y = farV aX aY bX bY := by simp [DenV, q1, q2]
      rw [rn, rd]
      clear rn rd
      have K1 : Hid (∀ W : World, Calls Try.prog 98 #[.agg #[.int .i64 bX, .int .i64 bY], .agg #[.int .i64 aX, .int .i64 aY]] W fun e w' => e = .returned (.agg #[.int .i64 (bX - aX), .int .i64 (bY - aY)]) ∧ Below W.heap.size W w') := Lib.hid fun W => by
        have h := impl_Point_minus (bX) (bY) (aX) (aY) W (by omega) (by omega) (by omega) (by omega)
        exact h
      have K2 : Hid (∀ W : World, Calls Try.prog 98 #[.agg #[.int .i64 x, .int .i64 y], .agg #[.int .i64 aX, .int .i64 aY]] W fun e w' => e = .returned (.agg #[.int .i64 (x - aX), .int .i64 (y - aY)]) ∧ Below W.heap.size W w') := Lib.hid fun W => by
        have h := impl_Point_minus (x) (y) (aX) (aY) W (by omega) (by omega) (by omega) (by omega)
        exact h
      have K3 : Hid (∀ W : World, Calls Try.prog 99 #[.agg #[.int .i64 (bX - aX), .int .i64 (bY - aY)], .agg #[.int .i64 (x - aX), .int .i64 (y - aY)]] W fun e w' => e = .returned (.int .i64 (dotV aX aY bX bY x y)) ∧ Below W.heap.size W w') := Lib.hid fun W => by
        have h := impl_Point_dot (bX - aX) (bY - aY) (x - aX) (y - aY) W (by omega) (by omega) (by omega) (by omega)
        exact h
      have K4 : Hid (∀ W : World, Calls Try.prog 98 #[.agg #[.int .i64 x, .int .i64 y], .agg #[.int .i64 bX, .int .i64 bY]] W fun e w' => e = .returned (.agg #[.int .i64 (x - bX), .int .i64 (y - bY)]) ∧ Below W.heap.size W w') := Lib.hid fun W => by
        have h := impl_Point_minus (x) (y) (bX) (bY) W (by omega) (by omega) (by omega) (by omega)
        exact h
      have K5 : Hid (∀ W : World, Calls Try.prog 99 #[.agg #[.int .i64 (bX - aX), .int .i64 (bY - aY)], .agg #[.int .i64 (x - bX), .int .i64 (y - bY)]] W fun e w' => e = .returned (.int .i64 (-dotV bX bY aX aY x y)) ∧ Below W.heap.size W w') := Lib.hid fun W => by
        have h := impl_Point_dot (bX - aX) (bY - aY) (x - bX) (y - bY) W (by omega) (by omega) (by omega) (by omega)
        rw [dotV_flip] at h
        exact h
      have K6 : Hid (∀ W : World, Calls Try.prog 100 #[.agg #[.int .i64 aX, .int .i64 aY], .agg #[.int .i64 x, .int .i64 y]] W fun e w' => e = .returned (.int .i64 (farV aX aY x y)) ∧ Below W.heap.size W w') := Lib.hid fun W => by
        have h := impl_far (aX) (aY) (x) (y) W (by omega) (by omega) (by omega) (by omega)
        exact h
      have K7 : Hid (∀ W : World, Calls Try.prog 100 #[.agg #[.int .i64 bX, .int .i64 bY], .agg #[.int .i64 x, .int .i64 y]] W fun e w' => e = .returned (.int .i64 (farV bX bY x y)) ∧ Below W.heap.size W w') := Lib.hid fun W => by
        have h := impl_far (bX) (bY) (x) (y) W (by omega) (by omega) (by omega) (by omega)
        exact h
      have K8 : Hid (∀ W : World, Calls Try.prog 101 #[.agg #[.int .i64 aX, .int .i64 aY], .agg #[.int .i64 bX, .int .i64 bY], .agg #[.int .i64 x, .int .i64 y]] W fun e w' => e = .returned (.int .i64 (crossV aX aY bX bY x y)) ∧ Below W.heap.size W w') := Lib.hid fun W => by
        have h := impl_turn (aX) (aY) (bX) (bY) (x) (y) W (by omega) (by omega) (by omega) (by omega) (by omega) (by omega)
        exact h
      have K9 : Hid (∀ W : World, Calls Try.prog 99 #[.agg #[.int .i64 (bX - aX), .int .i64 (bY - aY)], .agg #[.int .i64 (bX - aX), .int .i64 (bY - aY)]] W fun e w' => e = .returned (.int .i64 (farV aX aY bX bY)) ∧ Below W.heap.size W w') := Lib.hid fun W => by
        have h := impl_Point_dot (bX - aX) (bY - aY) (bX - aX) (bY - aY) W (by omega) (by omega) (by omega) (by omega)
        exact h
      generalize dotV aX aY bX bY x y = D1 at *
      generalize dotV bX bY aX aY x y = D2 at *
      generalize crossV aX aY bX bY x y = C at *
      have q3 : ¬ D1 ≤ 0 := q1
      go_enter Try.func79, Try.ntmps79
      go_wp2_with fail
      refine (K1.out _).mono ?_
      rintro e w1 ⟨rfl, b1⟩
      have s1 := b1.size
      try simp at s1
      have z1_0 : w.heap.size < w1.heap.size := by omega
      have k1_0_0 : w1.cell? ⟨w.heap.size, 0, none⟩ = some (.int .i64 (aX)) := (b1.cell (p := ⟨w.heap.size, 0, none⟩) (by first | (simp; done) | (simp; omega) | omega)).trans (by first | with_reducible assumption | (simp [go_sem]; done) | (simp [go_sem, *]; done))
      have g1_0_0 : w1.frozen? ⟨w.heap.size, 0, none⟩ = false := (b1.frozen (p := ⟨w.heap.size, 0, none⟩) (by first | (simp; done) | (simp; omega) | omega)).trans (by first | with_reducible assumption | (simp [go_sem]; done) | (simp [go_sem, *]; done))
      have k1_0_1 : w1.cell? ⟨w.heap.size, 1, none⟩ = some (.int .i64 (aY)) := (b1.cell (p := ⟨w.heap.size, 1, none⟩) (by first | (simp; done) | (simp; omega) | omega)).trans (by first | with_reducible assumption | (simp [go_sem]; done) | (simp [go_sem, *]; done))
      have g1_0_1 : w1.frozen? ⟨w.heap.size, 1, none⟩ = false := (b1.frozen (p := ⟨w.heap.size, 1, none⟩) (by first | (simp; done) | (simp; omega) | omega)).trans (by first | with_reducible assumption | (simp [go_sem]; done) | (simp [go_sem, *]; done))
      have k1_0_2 : w1.cell? ⟨w.heap.size, 2, none⟩ = some (.int .i64 (bX)) := (b1.cell (p := ⟨w.heap.size, 2, none⟩) (by first | (simp; done) | (simp; omega) | omega)).trans (by first | with_reducible assumption | (simp [go_sem]; done) | (simp [go_sem, *]; done))
      have g1_0_2 : w1.frozen? ⟨w.heap.size, 2, none⟩ = false := (b1.frozen (p := ⟨w.heap.size, 2, none⟩) (by first | (simp; done) | (simp; omega) | omega)).trans (by first | with_reducible assumption | (simp [go_sem]; done) | (simp [go_sem, *]; done))
      have k1_0_3 : w1.cell? ⟨w.heap.size, 3, none⟩ = some (.int .i64 (bY)) := (b1.cell (p := ⟨w.heap.size, 3, none⟩) (by first | (simp; done) | (simp; omega) | omega)).trans (by first | with_reducible assumption | (simp [go_sem]; done) | (simp [go_sem, *]; done))
      have g1_0_3 : w1.frozen? ⟨w.heap.size, 3, none⟩ = false := (b1.frozen (p := ⟨w.heap.size, 3, none⟩) (by first | (simp; done) | (simp; omega) | omega)).trans (by first | with_reducible assumption | (simp [go_sem]; done) | (simp [go_sem, *]; done))
      have z1_1 : w.heap.size + 1 < w1.heap.size := by omega
      have k1_1_0 : w1.cell? ⟨w.heap.size + 1, 0, none⟩ = some (.int .i64 (x)) := (b1.cell (p := ⟨w.heap.size + 1, 0, none⟩) (by first | (simp; done) | (simp; omega) | omega)).trans (by first | with_reducible assumption | (simp [go_sem]; done) | (simp [go_sem, *]; done))
      have g1_1_0 : w1.frozen? ⟨w.heap.size + 1, 0, none⟩ = false := (b1.frozen (p := ⟨w.heap.size + 1, 0, none⟩) (by first | (simp; done) | (simp; omega) | omega)).trans (by first | with_reducible assumption | (simp [go_sem]; done) | (simp [go_sem, *]; done))
      have k1_1_1 : w1.cell? ⟨w.heap.size + 1, 1, none⟩ = some (.int .i64 (y)) := (b1.cell (p := ⟨w.heap.size + 1, 1, none⟩) (by first | (simp; done) | (simp; omega) | omega)).trans (by first | with_reducible assumption | (simp [go_sem]; done) | (simp [go_sem, *]; done))
      have g1_1_1 : w1.frozen? ⟨w.heap.size + 1, 1, none⟩ = false := (b1.frozen (p := ⟨w.heap.size + 1, 1, none⟩) (by first | (simp; done) | (simp; omega) | omega)).trans (by first | with_reducible assumption | (simp [go_sem]; done) | (simp [go_sem, *]; done))
      have z1_2 : w.heap.size + 1 + 1 < w1.heap.size := by omega
      have k1_2_0 : w1.cell? ⟨w.heap.size + 1 + 1, 0, none⟩ = some (.int .i64 (0)) := (b1.cell (p := ⟨w.heap.size + 1 + 1, 0, none⟩) (by first | (simp; done) | (simp; omega) | omega)).trans (by first | with_reducible assumption | (simp [go_sem]; done) | (simp [go_sem, *]; done))
      have g1_2_0 : w1.frozen? ⟨w.heap.size + 1 + 1, 0, none⟩ = false := (b1.frozen (p := ⟨w.heap.size + 1 + 1, 0, none⟩) (by first | (simp; done) | (simp; omega) | omega)).trans (by first | with_reducible assumption | (simp [go_sem]; done) | (simp [go_sem, *]; done))
      have k1_2_1 : w1.cell? ⟨w.heap.size + 1 + 1, 1, none⟩ = some (.int .i64 (0)) := (b1.cell (p := ⟨w.heap.size + 1 + 1, 1, none⟩) (by first | (simp; done) | (simp; omega) | omega)).trans (by first | with_reducible assumption | (simp [go_sem]; done) | (simp [go_sem, *]; done))
      have g1_2_1 : w1.frozen? ⟨w.heap.size + 1 + 1, 1, none⟩ = false := (b1.frozen (p := ⟨w.heap.size + 1 + 1, 1, none⟩) (by first | (simp; done) | (simp; omega) | omega)).trans (by first | with_reducible assumption | (simp [go_sem]; done) | (simp [go_sem, *]; done))
      go_wp2
      have kc0 := cell_regrown (w := (w1.alloc (Obj.cells #[.int .i64 (bX - aX), .int .i64 (bY - aY)] 47))) (a := ⟨w.heap.size, 0, none⟩) (v := .int .i64 (aX)) (by first | ((repeat (first | with_reducible assumption | with_reducible refine calloc ?_ _)); done) | (simp [go_sem]; done) | (simp [go_sem, *]; done))
      have kc1 := cell_regrown (w := (w1.alloc (Obj.cells #[.int .i64 (bX - aX), .int .i64 (bY - aY)] 47))) (a := ⟨w.heap.size, 1, none⟩) (v := .int .i64 (aY)) (by first | ((repeat (first | with_reducible assumption | with_reducible refine calloc ?_ _)); done) | (simp [go_sem]; done) | (simp [go_sem, *]; done))
      have kc2 := cell_regrown (w := (w1.alloc (Obj.cells #[.int .i64 (bX - aX), .int .i64 (bY - aY)] 47))) (a := ⟨w.heap.size, 2, none⟩) (v := .int .i64 (bX)) (by first | ((repeat (first | with_reducible assumption | with_reducible refine calloc ?_ _)); done) | (simp [go_sem]; done) | (simp [go_sem, *]; done))
      have kc3 := cell_regrown (w := (w1.alloc (Obj.cells #[.int .i64 (bX - aX), .int .i64 (bY - aY)] 47))) (a := ⟨w.heap.size, 3, none⟩) (v := .int .i64 (bY)) (by first | ((repeat (first | with_reducible assumption | with_reducible refine calloc ?_ _)); done) | (simp [go_sem]; done) | (simp [go_sem, *]; done))
      have kc4 := cell_regrown (w := (w1.alloc (Obj.cells #[.int .i64 (bX - aX), .int .i64 (bY - aY)] 47))) (a := ⟨w.heap.size + 1, 0, none⟩) (v := .int .i64 (x)) (by first | ((repeat (first | with_reducible assumption | with_reducible refine calloc ?_ _)); done) | (simp [go_sem]; done) | (simp [go_sem, *]; done))
      have kc5 := cell_regrown (w := (w1.alloc (Obj.cells #[.int .i64 (bX - aX), .int .i64 (bY - aY)] 47))) (a := ⟨w.heap.size + 1, 1, none⟩) (v := .int .i64 (y)) (by first | ((repeat (first | with_reducible assumption | with_reducible refine calloc ?_ _)); done) | (simp [go_sem]; done) | (simp [go_sem, *]; done))
      have kc6 := cell_regrown (w := (w1.alloc (Obj.cells #[.int .i64 (bX - aX), .int .i64 (bY - aY)] 47))) (a := ⟨w.heap.size + 1 + 1, 0, none⟩) (v := .int .i64 (0)) (by first | ((repeat (first | with_reducible assumption | with_reducible refine calloc ?_ _)); done) | (simp [go_sem]; done) | (simp [go_sem, *]; done))
      have kc7 := cell_regrown (w := (w1.alloc (Obj.cells #[.int .i64 (bX - aX), .int .i64 (bY - aY)] 47))) (a := ⟨w.heap.size + 1 + 1, 1, none⟩) (v := .int .i64 (0)) (by first | ((repeat (first | with_reducible assumption | with_reducible refine calloc ?_ _)); done) | (simp [go_sem]; done) | (simp [go_sem, *]; done))
      have kc8 := cell_regrown (w := (w1.alloc (Obj.cells #[.int .i64 (bX - aX), .int .i64 (bY - aY)] 47))) (a := ⟨w1.heap.size, 0, none⟩) (v := .int .i64 (bX - aX)) (by first | ((repeat (first | with_reducible assumption | with_reducible refine calloc ?_ _)); done) | (simp [go_sem]; done) | (simp [go_sem, *]; done))
      have kc9 := cell_regrown (w := (w1.alloc (Obj.cells #[.int .i64 (bX - aX), .int .i64 (bY - aY)] 47))) (a := ⟨w1.heap.size, 1, none⟩) (v := .int .i64 (bY - aY)) (by first | ((repeat (first | with_reducible assumption | with_reducible refine calloc ?_ _)); done) | (simp [go_sem]; done) | (simp [go_sem, *]; done))
      refine wp_region_quiet_below (by kernel_rfl) (by kernel_rfl) ?_
      repeat (go_big_quiet_step ((first | (go_at_call 98; exact Calls.regrown_of (K2.out _)) | (go_at_call 99; exact Calls.regrown_of (K3.out _)))))
      refine wpQuiet_nil ?_
      intro w2 hw'
      have b2 : Below (w1.alloc (Obj.cells #[.int .i64 (bX - aX), .int .i64 (bY - aY)] 47)).heap.size (w1.alloc (Obj.cells #[.int .i64 (bX - aX), .int .i64 (bY - aY)] 47)) w2 := by
        obtain ⟨pp, rfl⟩ := hw'
        exact below_regrown _ _ _
      clear hw' kc0 kc1 kc2 kc3 kc4 kc5 kc6 kc7 kc8 kc9
      have s2 := b2.size
      try simp at s2
      have z2_0 : w.heap.size < w2.heap.size := by omega
      have k2_0_0 : w2.cell? ⟨w.heap.size, 0, none⟩ = some (.int .i64 (aX)) := (b2.cell (p := ⟨w.heap.size, 0, none⟩) (by first | (simp; done) | (simp; omega) | omega)).trans (by first | with_reducible assumption | (simp [go_sem]; done) | (simp [go_sem, *]; done))
      have g2_0_0 : w2.frozen? ⟨w.heap.size, 0, none⟩ = false := (b2.frozen (p := ⟨w.heap.size, 0, none⟩) (by first | (simp; done) | (simp; omega) | omega)).trans (by first | with_reducible assumption | (simp [go_sem]; done) | (simp [go_sem, *]; done))
      have k2_0_1 : w2.cell? ⟨w.heap.size, 1, none⟩ = some (.int .i64 (aY)) := (b2.cell (p := ⟨w.heap.size, 1, none⟩) (by first | (simp; done) | (simp; omega) | omega)).trans (by first | with_reducible assumption | (simp [go_sem]; done) | (simp [go_sem, *]; done))
      have g2_0_1 : w2.frozen? ⟨w.heap.size, 1, none⟩ = false := (b2.frozen (p := ⟨w.heap.size, 1, none⟩) (by first | (simp; done) | (simp; omega) | omega)).trans (by first | with_reducible assumption | (simp [go_sem]; done) | (simp [go_sem, *]; done))
      have k2_0_2 : w2.cell? ⟨w.heap.size, 2, none⟩ = some (.int .i64 (bX)) := (b2.cell (p := ⟨w.heap.size, 2, none⟩) (by first | (simp; done) | (simp; omega) | omega)).trans (by first | with_reducible assumption | (simp [go_sem]; done) | (simp [go_sem, *]; done))
      have g2_0_2 : w2.frozen? ⟨w.heap.size, 2, none⟩ = false := (b2.frozen (p := ⟨w.heap.size, 2, none⟩) (by first | (simp; done) | (simp; omega) | omega)).trans (by first | with_reducible assumption | (simp [go_sem]; done) | (simp [go_sem, *]; done))
      have k2_0_3 : w2.cell? ⟨w.heap.size, 3, none⟩ = some (.int .i64 (bY)) := (b2.cell (p := ⟨w.heap.size, 3, none⟩) (by first | (simp; done) | (simp; omega) | omega)).trans (by first | with_reducible assumption | (simp [go_sem]; done) | (simp [go_sem, *]; done))
      have g2_0_3 : w2.frozen? ⟨w.heap.size, 3, none⟩ = false := (b2.frozen (p := ⟨w.heap.size, 3, none⟩) (by first | (simp; done) | (simp; omega) | omega)).trans (by first | with_reducible assumption | (simp [go_sem]; done) | (simp [go_sem, *]; done))
      have z2_1 : w.heap.size + 1 < w2.heap.size := by omega
      have k2_1_0 : w2.cell? ⟨w.heap.size + 1, 0, none⟩ = some (.int .i64 (x)) := (b2.cell (p := ⟨w.heap.size + 1, 0, none⟩) (by first | (simp; done) | (simp; omega) | omega)).trans (by first | with_reducible assumption | (simp [go_sem]; done) | (simp [go_sem, *]; done))
      have g2_1_0 : w2.frozen? ⟨w.heap.size + 1, 0, none⟩ = false := (b2.frozen (p := ⟨w.heap.size + 1, 0, none⟩) (by first | (simp; done) | (simp; omega) | omega)).trans (by first | with_reducible assumption | (simp [go_sem]; done) | (simp [go_sem, *]; done))
      have k2_1_1 : w2.cell? ⟨w.heap.size + 1, 1, none⟩ = some (.int .i64 (y)) := (b2.cell (p := ⟨w.heap.size + 1, 1, none⟩) (by first | (simp; done) | (simp; omega) | omega)).trans (by first | with_reducible assumption | (simp [go_sem]; done) | (simp [go_sem, *]; done))
      have g2_1_1 : w2.frozen? ⟨w.heap.size + 1, 1, none⟩ = false := (b2.frozen (p := ⟨w.heap.size + 1, 1, none⟩) (by first | (simp; done) | (simp; omega) | omega)).trans (by first | with_reducible assumption | (simp [go_sem]; done) | (simp [go_sem, *]; done))
      have z2_2 : w.heap.size + 1 + 1 < w2.heap.size := by omega
      have k2_2_0 : w2.cell? ⟨w.heap.size + 1 + 1, 0, none⟩ = some (.int .i64 (0)) := (b2.cell (p := ⟨w.heap.size + 1 + 1, 0, none⟩) (by first | (simp; done) | (simp; omega) | omega)).trans (by first | with_reducible assumption | (simp [go_sem]; done) | (simp [go_sem, *]; done))
      have g2_2_0 : w2.frozen? ⟨w.heap.size + 1 + 1, 0, none⟩ = false := (b2.frozen (p := ⟨w.heap.size + 1 + 1, 0, none⟩) (by first | (simp; done) | (simp; omega) | omega)).trans (by first | with_reducible assumption | (simp [go_sem]; done) | (simp [go_sem, *]; done))
      have k2_2_1 : w2.cell? ⟨w.heap.size + 1 + 1, 1, none⟩ = some (.int .i64 (0)) := (b2.cell (p := ⟨w.heap.size + 1 + 1, 1, none⟩) (by first | (simp; done) | (simp; omega) | omega)).trans (by first | with_reducible assumption | (simp [go_sem]; done) | (simp [go_sem, *]; done))
      have g2_2_1 : w2.frozen? ⟨w.heap.size + 1 + 1, 1, none⟩ = false := (b2.frozen (p := ⟨w.heap.size + 1 + 1, 1, none⟩) (by first | (simp; done) | (simp; omega) | omega)).trans (by first | with_reducible assumption | (simp [go_sem]; done) | (simp [go_sem, *]; done))
      have z2_3 : w1.heap.size < w2.heap.size := by omega
      have k2_3_0 : w2.cell? ⟨w1.heap.size, 0, none⟩ = some (.int .i64 (bX - aX)) := (b2.cell (p := ⟨w1.heap.size, 0, none⟩) (by first | (simp; done) | (simp; omega) | omega)).trans (by first | with_reducible assumption | (simp [go_sem]; done) | (simp [go_sem, *]; done))
      have g2_3_0 : w2.frozen? ⟨w1.heap.size, 0, none⟩ = false := (b2.frozen (p := ⟨w1.heap.size, 0, none⟩) (by first | (simp; done) | (simp; omega) | omega)).trans (by first | with_reducible assumption | (simp [go_sem]; done) | (simp [go_sem, *]; done))
      have k2_3_1 : w2.cell? ⟨w1.heap.size, 1, none⟩ = some (.int .i64 (bY - aY)) := (b2.cell (p := ⟨w1.heap.size, 1, none⟩) (by first | (simp; done) | (simp; omega) | omega)).trans (by first | with_reducible assumption | (simp [go_sem]; done) | (simp [go_sem, *]; done))
      have g2_3_1 : w2.frozen? ⟨w1.heap.size, 1, none⟩ = false := (b2.frozen (p := ⟨w1.heap.size, 1, none⟩) (by first | (simp; done) | (simp; omega) | omega)).trans (by first | with_reducible assumption | (simp [go_sem]; done) | (simp [go_sem, *]; done))
      clear k1_0_0 g1_0_0 k1_0_1 g1_0_1 k1_0_2 g1_0_2 k1_0_3 g1_0_3 k1_1_0 g1_1_0 k1_1_1 g1_1_1 k1_2_0 g1_2_0 k1_2_1 g1_2_1
      go_wp2
      have kc0 := cell_regrown (w := w2) (a := ⟨w.heap.size, 0, none⟩) (v := .int .i64 (aX)) (by first | ((repeat (first | with_reducible assumption | with_reducible refine calloc ?_ _)); done) | (simp [go_sem]; done) | (simp [go_sem, *]; done))
      have kc1 := cell_regrown (w := w2) (a := ⟨w.heap.size, 1, none⟩) (v := .int .i64 (aY)) (by first | ((repeat (first | with_reducible assumption | with_reducible refine calloc ?_ _)); done) | (simp [go_sem]; done) | (simp [go_sem, *]; done))
      have kc2 := cell_regrown (w := w2) (a := ⟨w.heap.size, 2, none⟩) (v := .int .i64 (bX)) (by first | ((repeat (first | with_reducible assumption | with_reducible refine calloc ?_ _)); done) | (simp [go_sem]; done) | (simp [go_sem, *]; done))
      have kc3 := cell_regrown (w := w2) (a := ⟨w.heap.size, 3, none⟩) (v := .int .i64 (bY)) (by first | ((repeat (first | with_reducible assumption | with_reducible refine calloc ?_ _)); done) | (simp [go_sem]; done) | (simp [go_sem, *]; done))
      have kc4 := cell_regrown (w := w2) (a := ⟨w.heap.size + 1, 0, none⟩) (v := .int .i64 (x)) (by first | ((repeat (first | with_reducible assumption | with_reducible refine calloc ?_ _)); done) | (simp [go_sem]; done) | (simp [go_sem, *]; done))
      have kc5 := cell_regrown (w := w2) (a := ⟨w.heap.size + 1, 1, none⟩) (v := .int .i64 (y)) (by first | ((repeat (first | with_reducible assumption | with_reducible refine calloc ?_ _)); done) | (simp [go_sem]; done) | (simp [go_sem, *]; done))
      have kc6 := cell_regrown (w := w2) (a := ⟨w.heap.size + 1 + 1, 0, none⟩) (v := .int .i64 (0)) (by first | ((repeat (first | with_reducible assumption | with_reducible refine calloc ?_ _)); done) | (simp [go_sem]; done) | (simp [go_sem, *]; done))
      have kc7 := cell_regrown (w := w2) (a := ⟨w.heap.size + 1 + 1, 1, none⟩) (v := .int .i64 (0)) (by first | ((repeat (first | with_reducible assumption | with_reducible refine calloc ?_ _)); done) | (simp [go_sem]; done) | (simp [go_sem, *]; done))
      have kc8 := cell_regrown (w := w2) (a := ⟨w1.heap.size, 0, none⟩) (v := .int .i64 (bX - aX)) (by first | ((repeat (first | with_reducible assumption | with_reducible refine calloc ?_ _)); done) | (simp [go_sem]; done) | (simp [go_sem, *]; done))
      have kc9 := cell_regrown (w := w2) (a := ⟨w1.heap.size, 1, none⟩) (v := .int .i64 (bY - aY)) (by first | ((repeat (first | with_reducible assumption | with_reducible refine calloc ?_ _)); done) | (simp [go_sem]; done) | (simp [go_sem, *]; done))
      refine wp_region_quiet_below (by kernel_rfl) (by kernel_rfl) ?_
      repeat (go_big_quiet_step ((first | (go_at_call 98; exact Calls.regrown_of (K4.out _)) | (go_at_call 99; exact Calls.regrown_of (K5.out _)))))
      refine wpQuiet_nil ?_
      intro w3 hw'
      have b3 : Below w2.heap.size w2 w3 := by
        obtain ⟨pp, rfl⟩ := hw'
        exact below_regrown _ _ _
      clear hw' kc0 kc1 kc2 kc3 kc4 kc5 kc6 kc7 kc8 kc9
      have s3 := b3.size
      try simp at s3
      have z3_0 : w.heap.size < w3.heap.size := by omega
      have k3_0_0 : w3.cell? ⟨w.heap.size, 0, none⟩ = some (.int .i64 (aX)) := (b3.cell (p := ⟨w.heap.size, 0, none⟩) (by first | (simp; done) | (simp; omega) | omega)).trans (by first | with_reducible assumption | (simp [go_sem]; done) | (simp [go_sem, *]; done))
      have g3_0_0 : w3.frozen? ⟨w.heap.size, 0, none⟩ = false := (b3.frozen (p := ⟨w.heap.size, 0, none⟩) (by first | (simp; done) | (simp; omega) | omega)).trans (by first | with_reducible assumption | (simp [go_sem]; done) | (simp [go_sem, *]; done))
      have k3_0_1 : w3.cell? ⟨w.heap.size, 1, none⟩ = some (.int .i64 (aY)) := (b3.cell (p := ⟨w.heap.size, 1, none⟩) (by first | (simp; done) | (simp; omega) | omega)).trans (by first | with_reducible assumption | (simp [go_sem]; done) | (simp [go_sem, *]; done))
      have g3_0_1 : w3.frozen? ⟨w.heap.size, 1, none⟩ = false := (b3.frozen (p := ⟨w.heap.size, 1, none⟩) (by first | (simp; done) | (simp; omega) | omega)).trans (by first | with_reducible assumption | (simp [go_sem]; done) | (simp [go_sem, *]; done))
      have k3_0_2 : w3.cell? ⟨w.heap.size, 2, none⟩ = some (.int .i64 (bX)) := (b3.cell (p := ⟨w.heap.size, 2, none⟩) (by first | (simp; done) | (simp; omega) | omega)).trans (by first | with_reducible assumption | (simp [go_sem]; done) | (simp [go_sem, *]; done))
      have g3_0_2 : w3.frozen? ⟨w.heap.size, 2, none⟩ = false := (b3.frozen (p := ⟨w.heap.size, 2, none⟩) (by first | (simp; done) | (simp; omega) | omega)).trans (by first | with_reducible assumption | (simp [go_sem]; done) | (simp [go_sem, *]; done))
      have k3_0_3 : w3.cell? ⟨w.heap.size, 3, none⟩ = some (.int .i64 (bY)) := (b3.cell (p := ⟨w.heap.size, 3, none⟩) (by first | (simp; done) | (simp; omega) | omega)).trans (by first | with_reducible assumption | (simp [go_sem]; done) | (simp [go_sem, *]; done))
      have g3_0_3 : w3.frozen? ⟨w.heap.size, 3, none⟩ = false := (b3.frozen (p := ⟨w.heap.size, 3, none⟩) (by first | (simp; done) | (simp; omega) | omega)).trans (by first | with_reducible assumption | (simp [go_sem]; done) | (simp [go_sem, *]; done))
      have z3_1 : w.heap.size + 1 < w3.heap.size := by omega
      have k3_1_0 : w3.cell? ⟨w.heap.size + 1, 0, none⟩ = some (.int .i64 (x)) := (b3.cell (p := ⟨w.heap.size + 1, 0, none⟩) (by first | (simp; done) | (simp; omega) | omega)).trans (by first | with_reducible assumption | (simp [go_sem]; done) | (simp [go_sem, *]; done))
      have g3_1_0 : w3.frozen? ⟨w.heap.size + 1, 0, none⟩ = false := (b3.frozen (p := ⟨w.heap.size + 1, 0, none⟩) (by first | (simp; done) | (simp; omega) | omega)).trans (by first | with_reducible assumption | (simp [go_sem]; done) | (simp [go_sem, *]; done))
      have k3_1_1 : w3.cell? ⟨w.heap.size + 1, 1, none⟩ = some (.int .i64 (y)) := (b3.cell (p := ⟨w.heap.size + 1, 1, none⟩) (by first | (simp; done) | (simp; omega) | omega)).trans (by first | with_reducible assumption | (simp [go_sem]; done) | (simp [go_sem, *]; done))
      have g3_1_1 : w3.frozen? ⟨w.heap.size + 1, 1, none⟩ = false := (b3.frozen (p := ⟨w.heap.size + 1, 1, none⟩) (by first | (simp; done) | (simp; omega) | omega)).trans (by first | with_reducible assumption | (simp [go_sem]; done) | (simp [go_sem, *]; done))
      have z3_2 : w.heap.size + 1 + 1 < w3.heap.size := by omega
      have k3_2_0 : w3.cell? ⟨w.heap.size + 1 + 1, 0, none⟩ = some (.int .i64 (0)) := (b3.cell (p := ⟨w.heap.size + 1 + 1, 0, none⟩) (by first | (simp; done) | (simp; omega) | omega)).trans (by first | with_reducible assumption | (simp [go_sem]; done) | (simp [go_sem, *]; done))
      have g3_2_0 : w3.frozen? ⟨w.heap.size + 1 + 1, 0, none⟩ = false := (b3.frozen (p := ⟨w.heap.size + 1 + 1, 0, none⟩) (by first | (simp; done) | (simp; omega) | omega)).trans (by first | with_reducible assumption | (simp [go_sem]; done) | (simp [go_sem, *]; done))
      have k3_2_1 : w3.cell? ⟨w.heap.size + 1 + 1, 1, none⟩ = some (.int .i64 (0)) := (b3.cell (p := ⟨w.heap.size + 1 + 1, 1, none⟩) (by first | (simp; done) | (simp; omega) | omega)).trans (by first | with_reducible assumption | (simp [go_sem]; done) | (simp [go_sem, *]; done))
      have g3_2_1 : w3.frozen? ⟨w.heap.size + 1 + 1, 1, none⟩ = false := (b3.frozen (p := ⟨w.heap.size + 1 + 1, 1, none⟩) (by first | (simp; done) | (simp; omega) | omega)).trans (by first | with_reducible assumption | (simp [go_sem]; done) | (simp [go_sem, *]; done))
      have z3_3 : w1.heap.size < w3.heap.size := by omega
      have k3_3_0 : w3.cell? ⟨w1.heap.size, 0, none⟩ = some (.int .i64 (bX - aX)) := (b3.cell (p := ⟨w1.heap.size, 0, none⟩) (by first | (simp; done) | (simp; omega) | omega)).trans (by first | with_reducible assumption | (simp [go_sem]; done) | (simp [go_sem, *]; done))
      have g3_3_0 : w3.frozen? ⟨w1.heap.size, 0, none⟩ = false := (b3.frozen (p := ⟨w1.heap.size, 0, none⟩) (by first | (simp; done) | (simp; omega) | omega)).trans (by first | with_reducible assumption | (simp [go_sem]; done) | (simp [go_sem, *]; done))
      have k3_3_1 : w3.cell? ⟨w1.heap.size, 1, none⟩ = some (.int .i64 (bY - aY)) := (b3.cell (p := ⟨w1.heap.size, 1, none⟩) (by first | (simp; done) | (simp; omega) | omega)).trans (by first | with_reducible assumption | (simp [go_sem]; done) | (simp [go_sem, *]; done))
      have g3_3_1 : w3.frozen? ⟨w1.heap.size, 1, none⟩ = false := (b3.frozen (p := ⟨w1.heap.size, 1, none⟩) (by first | (simp; done) | (simp; omega) | omega)).trans (by first | with_reducible assumption | (simp [go_sem]; done) | (simp [go_sem, *]; done))
      clear k2_0_0 g2_0_0 k2_0_1 g2_0_1 k2_0_2 g2_0_2 k2_0_3 g2_0_3 k2_1_0 g2_1_0 k2_1_1 g2_1_1 k2_2_0 g2_2_0 k2_2_1 g2_2_1 k2_3_0 g2_3_0 k2_3_1 g2_3_1
      go_wp2_with fail
      refine (K8.out _).mono ?_
      rintro e w4 ⟨rfl, b4⟩
      have s4 := b4.size
      try simp at s4
      have z4_0 : w.heap.size < w4.heap.size := by omega
      have k4_0_0 : w4.cell? ⟨w.heap.size, 0, none⟩ = some (.int .i64 (aX)) := (b4.cell (p := ⟨w.heap.size, 0, none⟩) (by first | (simp; done) | (simp; omega) | omega)).trans (by first | with_reducible assumption | (simp [go_sem]; done) | (simp [go_sem, *]; done))
      have g4_0_0 : w4.frozen? ⟨w.heap.size, 0, none⟩ = false := (b4.frozen (p := ⟨w.heap.size, 0, none⟩) (by first | (simp; done) | (simp; omega) | omega)).trans (by first | with_reducible assumption | (simp [go_sem]; done) | (simp [go_sem, *]; done))
      have k4_0_1 : w4.cell? ⟨w.heap.size, 1, none⟩ = some (.int .i64 (aY)) := (b4.cell (p := ⟨w.heap.size, 1, none⟩) (by first | (simp; done) | (simp; omega) | omega)).trans (by first | with_reducible assumption | (simp [go_sem]; done) | (simp [go_sem, *]; done))
      have g4_0_1 : w4.frozen? ⟨w.heap.size, 1, none⟩ = false := (b4.frozen (p := ⟨w.heap.size, 1, none⟩) (by first | (simp; done) | (simp; omega) | omega)).trans (by first | with_reducible assumption | (simp [go_sem]; done) | (simp [go_sem, *]; done))
      have k4_0_2 : w4.cell? ⟨w.heap.size, 2, none⟩ = some (.int .i64 (bX)) := (b4.cell (p := ⟨w.heap.size, 2, none⟩) (by first | (simp; done) | (simp; omega) | omega)).trans (by first | with_reducible assumption | (simp [go_sem]; done) | (simp [go_sem, *]; done))
      have g4_0_2 : w4.frozen? ⟨w.heap.size, 2, none⟩ = false := (b4.frozen (p := ⟨w.heap.size, 2, none⟩) (by first | (simp; done) | (simp; omega) | omega)).trans (by first | with_reducible assumption | (simp [go_sem]; done) | (simp [go_sem, *]; done))
      have k4_0_3 : w4.cell? ⟨w.heap.size, 3, none⟩ = some (.int .i64 (bY)) := (b4.cell (p := ⟨w.heap.size, 3, none⟩) (by first | (simp; done) | (simp; omega) | omega)).trans (by first | with_reducible assumption | (simp [go_sem]; done) | (simp [go_sem, *]; done))
      have g4_0_3 : w4.frozen? ⟨w.heap.size, 3, none⟩ = false := (b4.frozen (p := ⟨w.heap.size, 3, none⟩) (by first | (simp; done) | (simp; omega) | omega)).trans (by first | with_reducible assumption | (simp [go_sem]; done) | (simp [go_sem, *]; done))
      have z4_1 : w.heap.size + 1 < w4.heap.size := by omega
      have k4_1_0 : w4.cell? ⟨w.heap.size + 1, 0, none⟩ = some (.int .i64 (x)) := (b4.cell (p := ⟨w.heap.size + 1, 0, none⟩) (by first | (simp; done) | (simp; omega) | omega)).trans (by first | with_reducible assumption | (simp [go_sem]; done) | (simp [go_sem, *]; done))
      have g4_1_0 : w4.frozen? ⟨w.heap.size + 1, 0, none⟩ = false := (b4.frozen (p := ⟨w.heap.size + 1, 0, none⟩) (by first | (simp; done) | (simp; omega) | omega)).trans (by first | with_reducible assumption | (simp [go_sem]; done) | (simp [go_sem, *]; done))
      have k4_1_1 : w4.cell? ⟨w.heap.size + 1, 1, none⟩ = some (.int .i64 (y)) := (b4.cell (p := ⟨w.heap.size + 1, 1, none⟩) (by first | (simp; done) | (simp; omega) | omega)).trans (by first | with_reducible assumption | (simp [go_sem]; done) | (simp [go_sem, *]; done))
      have g4_1_1 : w4.frozen? ⟨w.heap.size + 1, 1, none⟩ = false := (b4.frozen (p := ⟨w.heap.size + 1, 1, none⟩) (by first | (simp; done) | (simp; omega) | omega)).trans (by first | with_reducible assumption | (simp [go_sem]; done) | (simp [go_sem, *]; done))
      have z4_2 : w.heap.size + 1 + 1 < w4.heap.size := by omega
      have k4_2_0 : w4.cell? ⟨w.heap.size + 1 + 1, 0, none⟩ = some (.int .i64 (0)) := (b4.cell (p := ⟨w.heap.size + 1 + 1, 0, none⟩) (by first | (simp; done) | (simp; omega) | omega)).trans (by first | with_reducible assumption | (simp [go_sem]; done) | (simp [go_sem, *]; done))
      have g4_2_0 : w4.frozen? ⟨w.heap.size + 1 + 1, 0, none⟩ = false := (b4.frozen (p := ⟨w.heap.size + 1 + 1, 0, none⟩) (by first | (simp; done) | (simp; omega) | omega)).trans (by first | with_reducible assumption | (simp [go_sem]; done) | (simp [go_sem, *]; done))
      have k4_2_1 : w4.cell? ⟨w.heap.size + 1 + 1, 1, none⟩ = some (.int .i64 (0)) := (b4.cell (p := ⟨w.heap.size + 1 + 1, 1, none⟩) (by first | (simp; done) | (simp; omega) | omega)).trans (by first | with_reducible assumption | (simp [go_sem]; done) | (simp [go_sem, *]; done))
      have g4_2_1 : w4.frozen? ⟨w.heap.size + 1 + 1, 1, none⟩ = false := (b4.frozen (p := ⟨w.heap.size + 1 + 1, 1, none⟩) (by first | (simp; done) | (simp; omega) | omega)).trans (by first | with_reducible assumption | (simp [go_sem]; done) | (simp [go_sem, *]; done))
      have z4_3 : w1.heap.size < w4.heap.size := by omega
      have k4_3_0 : w4.cell? ⟨w1.heap.size, 0, none⟩ = some (.int .i64 (bX - aX)) := (b4.cell (p := ⟨w1.heap.size, 0, none⟩) (by first | (simp; done) | (simp; omega) | omega)).trans (by first | with_reducible assumption | (simp [go_sem]; done) | (simp [go_sem, *]; done))
      have g4_3_0 : w4.frozen? ⟨w1.heap.size, 0, none⟩ = false := (b4.frozen (p := ⟨w1.heap.size, 0, none⟩) (by first | (simp; done) | (simp; omega) | omega)).trans (by first | with_reducible assumption | (simp [go_sem]; done) | (simp [go_sem, *]; done))
      have k4_3_1 : w4.cell? ⟨w1.heap.size, 1, none⟩ = some (.int .i64 (bY - aY)) := (b4.cell (p := ⟨w1.heap.size, 1, none⟩) (by first | (simp; done) | (simp; omega) | omega)).trans (by first | with_reducible assumption | (simp [go_sem]; done) | (simp [go_sem, *]; done))
      have g4_3_1 : w4.frozen? ⟨w1.heap.size, 1, none⟩ = false := (b4.frozen (p := ⟨w1.heap.size, 1, none⟩) (by first | (simp; done) | (simp; omega) | omega)).trans (by first | with_reducible assumption | (simp [go_sem]; done) | (simp [go_sem, *]; done))
      clear k3_0_0 g3_0_0 k3_0_1 g3_0_1 k3_0_2 g3_0_2 k3_0_3 g3_0_3 k3_1_0 g3_1_0 k3_1_1 g3_1_1 k3_2_0 g3_2_0 k3_2_1 g3_2_1 k3_3_0 g3_3_0 k3_3_1 g3_3_1
      go_wp2_with fail
      refine (K9.out _).mono ?_
      rintro e w5 ⟨rfl, b5⟩
      have s5 := b5.size
      try simp at s5
      have z5_0 : w.heap.size < w5.heap.size := by omega
      have k5_0_0 : w5.cell? ⟨w.heap.size, 0, none⟩ = some (.int .i64 (aX)) := (b5.cell (p := ⟨w.heap.size, 0, none⟩) (by first | (simp; done) | (simp; omega) | omega)).trans (by first | with_reducible assumption | (simp [go_sem]; done) | (simp [go_sem, *]; done))
      have g5_0_0 : w5.frozen? ⟨w.heap.size, 0, none⟩ = false := (b5.frozen (p := ⟨w.heap.size, 0, none⟩) (by first | (simp; done) | (simp; omega) | omega)).trans (by first | with_reducible assumption | (simp [go_sem]; done) | (simp [go_sem, *]; done))
      have k5_0_1 : w5.cell? ⟨w.heap.size, 1, none⟩ = some (.int .i64 (aY)) := (b5.cell (p := ⟨w.heap.size, 1, none⟩) (by first | (simp; done) | (simp; omega) | omega)).trans (by first | with_reducible assumption | (simp [go_sem]; done) | (simp [go_sem, *]; done))
      have g5_0_1 : w5.frozen? ⟨w.heap.size, 1, none⟩ = false := (b5.frozen (p := ⟨w.heap.size, 1, none⟩) (by first | (simp; done) | (simp; omega) | omega)).trans (by first | with_reducible assumption | (simp [go_sem]; done) | (simp [go_sem, *]; done))
      have k5_0_2 : w5.cell? ⟨w.heap.size, 2, none⟩ = some (.int .i64 (bX)) := (b5.cell (p := ⟨w.heap.size, 2, none⟩) (by first | (simp; done) | (simp; omega) | omega)).trans (by first | with_reducible assumption | (simp [go_sem]; done) | (simp [go_sem, *]; done))
      have g5_0_2 : w5.frozen? ⟨w.heap.size, 2, none⟩ = false := (b5.frozen (p := ⟨w.heap.size, 2, none⟩) (by first | (simp; done) | (simp; omega) | omega)).trans (by first | with_reducible assumption | (simp [go_sem]; done) | (simp [go_sem, *]; done))
      have k5_0_3 : w5.cell? ⟨w.heap.size, 3, none⟩ = some (.int .i64 (bY)) := (b5.cell (p := ⟨w.heap.size, 3, none⟩) (by first | (simp; done) | (simp; omega) | omega)).trans (by first | with_reducible assumption | (simp [go_sem]; done) | (simp [go_sem, *]; done))
      have g5_0_3 : w5.frozen? ⟨w.heap.size, 3, none⟩ = false := (b5.frozen (p := ⟨w.heap.size, 3, none⟩) (by first | (simp; done) | (simp; omega) | omega)).trans (by first | with_reducible assumption | (simp [go_sem]; done) | (simp [go_sem, *]; done))
      have z5_1 : w.heap.size + 1 < w5.heap.size := by omega
      have k5_1_0 : w5.cell? ⟨w.heap.size + 1, 0, none⟩ = some (.int .i64 (x)) := (b5.cell (p := ⟨w.heap.size + 1, 0, none⟩) (by first | (simp; done) | (simp; omega) | omega)).trans (by first | with_reducible assumption | (simp [go_sem]; done) | (simp [go_sem, *]; done))
      have g5_1_0 : w5.frozen? ⟨w.heap.size + 1, 0, none⟩ = false := (b5.frozen (p := ⟨w.heap.size + 1, 0, none⟩) (by first | (simp; done) | (simp; omega) | omega)).trans (by first | with_reducible assumption | (simp [go_sem]; done) | (simp [go_sem, *]; done))
      have k5_1_1 : w5.cell? ⟨w.heap.size + 1, 1, none⟩ = some (.int .i64 (y)) := (b5.cell (p := ⟨w.heap.size + 1, 1, none⟩) (by first | (simp; done) | (simp; omega) | omega)).trans (by first | with_reducible assumption | (simp [go_sem]; done) | (simp [go_sem, *]; done))
      have g5_1_1 : w5.frozen? ⟨w.heap.size + 1, 1, none⟩ = false := (b5.frozen (p := ⟨w.heap.size + 1, 1, none⟩) (by first | (simp; done) | (simp; omega) | omega)).trans (by first | with_reducible assumption | (simp [go_sem]; done) | (simp [go_sem, *]; done))
      have z5_2 : w.heap.size + 1 + 1 < w5.heap.size := by omega
      have k5_2_0 : w5.cell? ⟨w.heap.size + 1 + 1, 0, none⟩ = some (.int .i64 (0)) := (b5.cell (p := ⟨w.heap.size + 1 + 1, 0, none⟩) (by first | (simp; done) | (simp; omega) | omega)).trans (by first | with_reducible assumption | (simp [go_sem]; done) | (simp [go_sem, *]; done))
      have g5_2_0 : w5.frozen? ⟨w.heap.size + 1 + 1, 0, none⟩ = false := (b5.frozen (p := ⟨w.heap.size + 1 + 1, 0, none⟩) (by first | (simp; done) | (simp; omega) | omega)).trans (by first | with_reducible assumption | (simp [go_sem]; done) | (simp [go_sem, *]; done))
      have k5_2_1 : w5.cell? ⟨w.heap.size + 1 + 1, 1, none⟩ = some (.int .i64 (0)) := (b5.cell (p := ⟨w.heap.size + 1 + 1, 1, none⟩) (by first | (simp; done) | (simp; omega) | omega)).trans (by first | with_reducible assumption | (simp [go_sem]; done) | (simp [go_sem, *]; done))
      have g5_2_1 : w5.frozen? ⟨w.heap.size + 1 + 1, 1, none⟩ = false := (b5.frozen (p := ⟨w.heap.size + 1 + 1, 1, none⟩) (by first | (simp; done) | (simp; omega) | omega)).trans (by first | with_reducible assumption | (simp [go_sem]; done) | (simp [go_sem, *]; done))
      have z5_3 : w1.heap.size < w5.heap.size := by omega
      have k5_3_0 : w5.cell? ⟨w1.heap.size, 0, none⟩ = some (.int .i64 (bX - aX)) := (b5.cell (p := ⟨w1.heap.size, 0, none⟩) (by first | (simp; done) | (simp; omega) | omega)).trans (by first | with_reducible assumption | (simp [go_sem]; done) | (simp [go_sem, *]; done))
      have g5_3_0 : w5.frozen? ⟨w1.heap.size, 0, none⟩ = false := (b5.frozen (p := ⟨w1.heap.size, 0, none⟩) (by first | (simp; done) | (simp; omega) | omega)).trans (by first | with_reducible assumption | (simp [go_sem]; done) | (simp [go_sem, *]; done))
      have k5_3_1 : w5.cell? ⟨w1.heap.size, 1, none⟩ = some (.int .i64 (bY - aY)) := (b5.cell (p := ⟨w1.heap.size, 1, none⟩) (by first | (simp; done) | (simp; omega) | omega)).trans (by first | with_reducible assumption | (simp [go_sem]; done) | (simp [go_sem, *]; done))
      have g5_3_1 : w5.frozen? ⟨w1.heap.size, 1, none⟩ = false := (b5.frozen (p := ⟨w1.heap.size, 1, none⟩) (by first | (simp; done) | (simp; omega) | omega)).trans (by first | with_reducible assumption | (simp [go_sem]; done) | (simp [go_sem, *]; done))
      clear k4_0_0 g4_0_0 k4_0_1 g4_0_1 k4_0_2 g4_0_2 k4_0_3 g4_0_3 k4_1_0 g4_1_0 k4_1_1 g4_1_1 k4_2_0 g4_2_0 k4_2_1 g4_2_1 k4_3_0 g4_3_0 k4_3_1 g4_3_1
      go_wp2
      refine bodyPost_ret (v := .agg #[.int .i64 (C * C), .int .i64 (farV aX aY bX bY)]) (by simp [results, Try.results79, go_sem, *]) rfl ⟨rfl, ?_⟩
      (repeat (first | with_reducible exact Below.refl _ _ | with_reducible refine bl_alloc ?_ _ | with_reducible refine bl_drew ?_ | with_reducible refine bl_set ?_ (by first | (simp; done) | (simp; omega)) _ | with_reducible refine bl_call (by assumption) ?_))

theorem impl_squareOk (n : Int) (w : World) :
    Calls Try.prog 78 #[.int .i64 n] w fun e w' => e = .returned (.bool (inB n 0 8000000)) ∧ w = w' := by
  go_enter Try.func78, Try.ntmps78
  go_wp2_with (first | (go_at_call 55; refine (impl_within _ _ _ _).mono ?_; rintro e w' ⟨rfl, rfl⟩))
  all_goals go_ret
  all_goals exact ⟨rfl, rfl⟩

set_option maxHeartbeats 4000000 in
theorem spec_CompareToSegment (aX : Int) (aY : Int) (bX : Int) (bY : Int) (x : Int) (y : Int) (n : Int) (w : World) :
    Calls Try.prog 40 #[.agg #[.int .i64 aX, .int .i64 aY, .int .i64 bX, .int .i64 bY], .agg #[.int .i64 x, .int .i64 y], .int .i64 n] w fun e w' => e = .returned (.int .i64 (CtsF aX aY bX bY x y n)) ∧ Below w.heap.size w w' := by
  cases q1 : segB aX aY bX bY with
  | false =>
    have hr : CtsF aX aY bX bY x y n = 2 := by simp [CtsF, ctsB, q1]
    rw [hr]
    clear hr
    have K1 : Hid (∀ W : World, Calls Try.prog 72 #[.agg #[.int .i64 aX, .int .i64 aY, .int .i64 bX, .int .i64 bY]] W fun e w' => e = .returned (.bool false) ∧ Below W.heap.size W w') := Lib.hid fun W => by
      have h := spec_validSegment (aX) (aY) (bX) (bY) W
      rw [q1] at h
      exact h
    clear q1
    go_enter Try.func40, Try.ntmps40
    go_wp2_with fail
    refine (K1.out _).mono ?_
    rintro e w1 ⟨rfl, b1⟩
    have s1 := b1.size
    try simp at s1
    have z1_0 : w.heap.size < w1.heap.size := by omega
    have k1_0_0 : w1.cell? ⟨w.heap.size, 0, none⟩ = some (.int .i64 (aX)) := (b1.cell (p := ⟨w.heap.size, 0, none⟩) (by first | (simp; done) | (simp; omega) | omega)).trans (by first | with_reducible assumption | (simp [go_sem]; done) | (simp [go_sem, *]; done))
    have g1_0_0 : w1.frozen? ⟨w.heap.size, 0, none⟩ = false := (b1.frozen (p := ⟨w.heap.size, 0, none⟩) (by first | (simp; done) | (simp; omega) | omega)).trans (by first | with_reducible assumption | (simp [go_sem]; done) | (simp [go_sem, *]; done))
    have k1_0_1 : w1.cell? ⟨w.heap.size, 1, none⟩ = some (.int .i64 (aY)) := (b1.cell (p := ⟨w.heap.size, 1, none⟩) (by first | (simp; done) | (simp; omega) | omega)).trans (by first | with_reducible assumption | (simp [go_sem]; done) | (simp [go_sem, *]; done))
    have g1_0_1 : w1.frozen? ⟨w.heap.size, 1, none⟩ = false := (b1.frozen (p := ⟨w.heap.size, 1, none⟩) (by first | (simp; done) | (simp; omega) | omega)).trans (by first | with_reducible assumption | (simp [go_sem]; done) | (simp [go_sem, *]; done))
    have k1_0_2 : w1.cell? ⟨w.heap.size, 2, none⟩ = some (.int .i64 (bX)) := (b1.cell (p := ⟨w.heap.size, 2, none⟩) (by first | (simp; done) | (simp; omega) | omega)).trans (by first | with_reducible assumption | (simp [go_sem]; done) | (simp [go_sem, *]; done))
    have g1_0_2 : w1.frozen? ⟨w.heap.size, 2, none⟩ = false := (b1.frozen (p := ⟨w.heap.size, 2, none⟩) (by first | (simp; done) | (simp; omega) | omega)).trans (by first | with_reducible assumption | (simp [go_sem]; done) | (simp [go_sem, *]; done))
    have k1_0_3 : w1.cell? ⟨w.heap.size, 3, none⟩ = some (.int .i64 (bY)) := (b1.cell (p := ⟨w.heap.size, 3, none⟩) (by first | (simp; done) | (simp; omega) | omega)).trans (by first | with_reducible assumption | (simp [go_sem]; done) | (simp [go_sem, *]; done))
    have g1_0_3 : w1.frozen? ⟨w.heap.size, 3, none⟩ = false := (b1.frozen (p := ⟨w.heap.size, 3, none⟩) (by first | (simp; done) | (simp; omega) | omega)).trans (by first | with_reducible assumption | (simp [go_sem]; done) | (simp [go_sem, *]; done))
    have z1_1 : w.heap.size + 1 < w1.heap.size := by omega
    have k1_1_0 : w1.cell? ⟨w.heap.size + 1, 0, none⟩ = some (.int .i64 (x)) := (b1.cell (p := ⟨w.heap.size + 1, 0, none⟩) (by first | (simp; done) | (simp; omega) | omega)).trans (by first | with_reducible assumption | (simp [go_sem]; done) | (simp [go_sem, *]; done))
    have g1_1_0 : w1.frozen? ⟨w.heap.size + 1, 0, none⟩ = false := (b1.frozen (p := ⟨w.heap.size + 1, 0, none⟩) (by first | (simp; done) | (simp; omega) | omega)).trans (by first | with_reducible assumption | (simp [go_sem]; done) | (simp [go_sem, *]; done))
    have k1_1_1 : w1.cell? ⟨w.heap.size + 1, 1, none⟩ = some (.int .i64 (y)) := (b1.cell (p := ⟨w.heap.size + 1, 1, none⟩) (by first | (simp; done) | (simp; omega) | omega)).trans (by first | with_reducible assumption | (simp [go_sem]; done) | (simp [go_sem, *]; done))
    have g1_1_1 : w1.frozen? ⟨w.heap.size + 1, 1, none⟩ = false := (b1.frozen (p := ⟨w.heap.size + 1, 1, none⟩) (by first | (simp; done) | (simp; omega) | omega)).trans (by first | with_reducible assumption | (simp [go_sem]; done) | (simp [go_sem, *]; done))
    go_wp2
    go_ret
    exact ⟨rfl, (by (repeat (first | with_reducible exact Below.refl _ _ | with_reducible refine bl_alloc ?_ _ | with_reducible refine bl_drew ?_ | with_reducible refine bl_set ?_ (by first | (simp; done) | (simp; omega)) _ | with_reducible refine bl_call (by assumption) ?_)))⟩
  
  | true =>
    cases q2 : ptB x y with
    | false =>
      have hr : CtsF aX aY bX bY x y n = 2 := by simp [CtsF, ctsB, q1, q2]
      rw [hr]
      clear hr
      have K1 : Hid (∀ W : World, Calls Try.prog 72 #[.agg #[.int .i64 aX, .int .i64 aY, .int .i64 bX, .int .i64 bY]] W fun e w' => e = .returned (.bool true) ∧ Below W.heap.size W w') := Lib.hid fun W => by
        have h := spec_validSegment (aX) (aY) (bX) (bY) W
        rw [q1] at h
        exact h
      have K2 : Hid (∀ W : World, Calls Try.prog 73 #[.agg #[.int .i64 x, .int .i64 y]] W fun e w' => e = .returned (.bool false) ∧ Below W.heap.size W w') := Lib.hid fun W => by
        have h := spec_validPoint (x) (y) W
        rw [q2] at h
        exact h
      clear q1 q2
      go_enter Try.func40, Try.ntmps40
      go_wp2_with fail
      refine (K1.out _).mono ?_
      rintro e w1 ⟨rfl, b1⟩
      have s1 := b1.size
      try simp at s1
      have z1_0 : w.heap.size < w1.heap.size := by omega
      have k1_0_0 : w1.cell? ⟨w.heap.size, 0, none⟩ = some (.int .i64 (aX)) := (b1.cell (p := ⟨w.heap.size, 0, none⟩) (by first | (simp; done) | (simp; omega) | omega)).trans (by first | with_reducible assumption | (simp [go_sem]; done) | (simp [go_sem, *]; done))
      have g1_0_0 : w1.frozen? ⟨w.heap.size, 0, none⟩ = false := (b1.frozen (p := ⟨w.heap.size, 0, none⟩) (by first | (simp; done) | (simp; omega) | omega)).trans (by first | with_reducible assumption | (simp [go_sem]; done) | (simp [go_sem, *]; done))
      have k1_0_1 : w1.cell? ⟨w.heap.size, 1, none⟩ = some (.int .i64 (aY)) := (b1.cell (p := ⟨w.heap.size, 1, none⟩) (by first | (simp; done) | (simp; omega) | omega)).trans (by first | with_reducible assumption | (simp [go_sem]; done) | (simp [go_sem, *]; done))
      have g1_0_1 : w1.frozen? ⟨w.heap.size, 1, none⟩ = false := (b1.frozen (p := ⟨w.heap.size, 1, none⟩) (by first | (simp; done) | (simp; omega) | omega)).trans (by first | with_reducible assumption | (simp [go_sem]; done) | (simp [go_sem, *]; done))
      have k1_0_2 : w1.cell? ⟨w.heap.size, 2, none⟩ = some (.int .i64 (bX)) := (b1.cell (p := ⟨w.heap.size, 2, none⟩) (by first | (simp; done) | (simp; omega) | omega)).trans (by first | with_reducible assumption | (simp [go_sem]; done) | (simp [go_sem, *]; done))
      have g1_0_2 : w1.frozen? ⟨w.heap.size, 2, none⟩ = false := (b1.frozen (p := ⟨w.heap.size, 2, none⟩) (by first | (simp; done) | (simp; omega) | omega)).trans (by first | with_reducible assumption | (simp [go_sem]; done) | (simp [go_sem, *]; done))
      have k1_0_3 : w1.cell? ⟨w.heap.size, 3, none⟩ = some (.int .i64 (bY)) := (b1.cell (p := ⟨w.heap.size, 3, none⟩) (by first | (simp; done) | (simp; omega) | omega)).trans (by first | with_reducible assumption | (simp [go_sem]; done) | (simp [go_sem, *]; done))
      have g1_0_3 : w1.frozen? ⟨w.heap.size, 3, none⟩ = false := (b1.frozen (p := ⟨w.heap.size, 3, none⟩) (by first | (simp; done) | (simp; omega) | omega)).trans (by first | with_reducible assumption | (simp [go_sem]; done) | (simp [go_sem, *]; done))
      have z1_1 : w.heap.size + 1 < w1.heap.size := by omega
      have k1_1_0 : w1.cell? ⟨w.heap.size + 1, 0, none⟩ = some (.int .i64 (x)) := (b1.cell (p := ⟨w.heap.size + 1, 0, none⟩) (by first | (simp; done) | (simp; omega) | omega)).trans (by first | with_reducible assumption | (simp [go_sem]; done) | (simp [go_sem, *]; done))
      have g1_1_0 : w1.frozen? ⟨w.heap.size + 1, 0, none⟩ = false := (b1.frozen (p := ⟨w.heap.size + 1, 0, none⟩) (by first | (simp; done) | (simp; omega) | omega)).trans (by first | with_reducible assumption | (simp [go_sem]; done) | (simp [go_sem, *]; done))
      have k1_1_1 : w1.cell? ⟨w.heap.size + 1, 1, none⟩ = some (.int .i64 (y)) := (b1.cell (p := ⟨w.heap.size + 1, 1, none⟩) (by first | (simp; done) | (simp; omega) | omega)).trans (by first | with_reducible assumption | (simp [go_sem]; done) | (simp [go_sem, *]; done))
      have g1_1_1 : w1.frozen? ⟨w.heap.size + 1, 1, none⟩ = false := (b1.frozen (p := ⟨w.heap.size + 1, 1, none⟩) (by first | (simp; done) | (simp; omega) | omega)).trans (by first | with_reducible assumption | (simp [go_sem]; done) | (simp [go_sem, *]; done))
      go_wp2_with fail
      refine (K2.out _).mono ?_
      rintro e w2 ⟨rfl, b2⟩
      have s2 := b2.size
      try simp at s2
      have z2_0 : w.heap.size < w2.heap.size := by omega
      have k2_0_0 : w2.cell? ⟨w.heap.size, 0, none⟩ = some (.int .i64 (aX)) := (b2.cell (p := ⟨w.heap.size, 0, none⟩) (by first | (simp; done) | (simp; omega) | omega)).trans (by first | with_reducible assumption | (simp [go_sem]; done) | (simp [go_sem, *]; done))
      have g2_0_0 : w2.frozen? ⟨w.heap.size, 0, none⟩ = false := (b2.frozen (p := ⟨w.heap.size, 0, none⟩) (by first | (simp; done) | (simp; omega) | omega)).trans (by first | with_reducible assumption | (simp [go_sem]; done) | (simp [go_sem, *]; done))
      have k2_0_1 : w2.cell? ⟨w.heap.size, 1, none⟩ = some (.int .i64 (aY)) := (b2.cell (p := ⟨w.heap.size, 1, none⟩) (by first | (simp; done) | (simp; omega) | omega)).trans (by first | with_reducible assumption | (simp [go_sem]; done) | (simp [go_sem, *]; done))
      have g2_0_1 : w2.frozen? ⟨w.heap.size, 1, none⟩ = false := (b2.frozen (p := ⟨w.heap.size, 1, none⟩) (by first | (simp; done) | (simp; omega) | omega)).trans (by first | with_reducible assumption | (simp [go_sem]; done) | (simp [go_sem, *]; done))
      have k2_0_2 : w2.cell? ⟨w.heap.size, 2, none⟩ = some (.int .i64 (bX)) := (b2.cell (p := ⟨w.heap.size, 2, none⟩) (by first | (simp; done) | (simp; omega) | omega)).trans (by first | with_reducible assumption | (simp [go_sem]; done) | (simp [go_sem, *]; done))
      have g2_0_2 : w2.frozen? ⟨w.heap.size, 2, none⟩ = false := (b2.frozen (p := ⟨w.heap.size, 2, none⟩) (by first | (simp; done) | (simp; omega) | omega)).trans (by first | with_reducible assumption | (simp [go_sem]; done) | (simp [go_sem, *]; done))
      have k2_0_3 : w2.cell? ⟨w.heap.size, 3, none⟩ = some (.int .i64 (bY)) := (b2.cell (p := ⟨w.heap.size, 3, none⟩) (by first | (simp; done) | (simp; omega) | omega)).trans (by first | with_reducible assumption | (simp [go_sem]; done) | (simp [go_sem, *]; done))
      have g2_0_3 : w2.frozen? ⟨w.heap.size, 3, none⟩ = false := (b2.frozen (p := ⟨w.heap.size, 3, none⟩) (by first | (simp; done) | (simp; omega) | omega)).trans (by first | with_reducible assumption | (simp [go_sem]; done) | (simp [go_sem, *]; done))
      have z2_1 : w.heap.size + 1 < w2.heap.size := by omega
      have k2_1_0 : w2.cell? ⟨w.heap.size + 1, 0, none⟩ = some (.int .i64 (x)) := (b2.cell (p := ⟨w.heap.size + 1, 0, none⟩) (by first | (simp; done) | (simp; omega) | omega)).trans (by first | with_reducible assumption | (simp [go_sem]; done) | (simp [go_sem, *]; done))
      have g2_1_0 : w2.frozen? ⟨w.heap.size + 1, 0, none⟩ = false := (b2.frozen (p := ⟨w.heap.size + 1, 0, none⟩) (by first | (simp; done) | (simp; omega) | omega)).trans (by first | with_reducible assumption | (simp [go_sem]; done) | (simp [go_sem, *]; done))
      have k2_1_1 : w2.cell? ⟨w.heap.size + 1, 1, none⟩ = some (.int .i64 (y)) := (b2.cell (p := ⟨w.heap.size + 1, 1, none⟩) (by first | (simp; done) | (simp; omega) | omega)).trans (by first | with_reducible assumption | (simp [go_sem]; done) | (simp [go_sem, *]; done))
      have g2_1_1 : w2.frozen? ⟨w.heap.size + 1, 1, none⟩ = false := (b2.frozen (p := ⟨w.heap.size + 1, 1, none⟩) (by first | (simp; done) | (simp; omega) | omega)).trans (by first | with_reducible assumption | (simp [go_sem]; done) | (simp [go_sem, *]; done))
      clear k1_0_0 g1_0_0 k1_0_1 g1_0_1 k1_0_2 g1_0_2 k1_0_3 g1_0_3 k1_1_0 g1_1_0 k1_1_1 g1_1_1
      go_wp2
      go_ret
      exact ⟨rfl, (by (repeat (first | with_reducible exact Below.refl _ _ | with_reducible refine bl_alloc ?_ _ | with_reducible refine bl_drew ?_ | with_reducible refine bl_set ?_ (by first | (simp; done) | (simp; omega)) _ | with_reducible refine bl_call (by assumption) ?_)))⟩
  
    | true =>
      cases q3 : inB n 0 8000000 with
      | false =>
        have hr : CtsF aX aY bX bY x y n = 2 := by simp [CtsF, ctsB, q1, q2, q3]
        rw [hr]
        clear hr
        have K1 : Hid (∀ W : World, Calls Try.prog 72 #[.agg #[.int .i64 aX, .int .i64 aY, .int .i64 bX, .int .i64 bY]] W fun e w' => e = .returned (.bool true) ∧ Below W.heap.size W w') := Lib.hid fun W => by
          have h := spec_validSegment (aX) (aY) (bX) (bY) W
          rw [q1] at h
          exact h
        have K2 : Hid (∀ W : World, Calls Try.prog 73 #[.agg #[.int .i64 x, .int .i64 y]] W fun e w' => e = .returned (.bool true) ∧ Below W.heap.size W w') := Lib.hid fun W => by
          have h := spec_validPoint (x) (y) W
          rw [q2] at h
          exact h
        have K3 : Hid (∀ W : World, Calls Try.prog 58 #[.int .i64 n, .int .i64 0, .int .i64 8000000] W fun e w' => e = .returned (.bool false) ∧ W = w') := Lib.hid fun W => by
          have h := spec_inRange (n) (0) (8000000) W
          rw [q3] at h
          exact h
        clear q1 q2 q3
        go_enter Try.func40, Try.ntmps40
        go_wp2_with fail
        refine (K1.out _).mono ?_
        rintro e w1 ⟨rfl, b1⟩
        have s1 := b1.size
        try simp at s1
        have z1_0 : w.heap.size < w1.heap.size := by omega
        have k1_0_0 : w1.cell? ⟨w.heap.size, 0, none⟩ = some (.int .i64 (aX)) := (b1.cell (p := ⟨w.heap.size, 0, none⟩) (by first | (simp; done) | (simp; omega) | omega)).trans (by first | with_reducible assumption | (simp [go_sem]; done) | (simp [go_sem, *]; done))
        have g1_0_0 : w1.frozen? ⟨w.heap.size, 0, none⟩ = false := (b1.frozen (p := ⟨w.heap.size, 0, none⟩) (by first | (simp; done) | (simp; omega) | omega)).trans (by first | with_reducible assumption | (simp [go_sem]; done) | (simp [go_sem, *]; done))
        have k1_0_1 : w1.cell? ⟨w.heap.size, 1, none⟩ = some (.int .i64 (aY)) := (b1.cell (p := ⟨w.heap.size, 1, none⟩) (by first | (simp; done) | (simp; omega) | omega)).trans (by first | with_reducible assumption | (simp [go_sem]; done) | (simp [go_sem, *]; done))
        have g1_0_1 : w1.frozen? ⟨w.heap.size, 1, none⟩ = false := (b1.frozen (p := ⟨w.heap.size, 1, none⟩) (by first | (simp; done) | (simp; omega) | omega)).trans (by first | with_reducible assumption | (simp [go_sem]; done) | (simp [go_sem, *]; done))
        have k1_0_2 : w1.cell? ⟨w.heap.size, 2, none⟩ = some (.int .i64 (bX)) := (b1.cell (p := ⟨w.heap.size, 2, none⟩) (by first | (simp; done) | (simp; omega) | omega)).trans (by first | with_reducible assumption | (simp [go_sem]; done) | (simp [go_sem, *]; done))
        have g1_0_2 : w1.frozen? ⟨w.heap.size, 2, none⟩ = false := (b1.frozen (p := ⟨w.heap.size, 2, none⟩) (by first | (simp; done) | (simp; omega) | omega)).trans (by first | with_reducible assumption | (simp [go_sem]; done) | (simp [go_sem, *]; done))
        have k1_0_3 : w1.cell? ⟨w.heap.size, 3, none⟩ = some (.int .i64 (bY)) := (b1.cell (p := ⟨w.heap.size, 3, none⟩) (by first | (simp; done) | (simp; omega) | omega)).trans (by first | with_reducible assumption | (simp [go_sem]; done) | (simp [go_sem, *]; done))
        have g1_0_3 : w1.frozen? ⟨w.heap.size, 3, none⟩ = false := (b1.frozen (p := ⟨w.heap.size, 3, none⟩) (by first | (simp; done) | (simp; omega) | omega)).trans (by first | with_reducible assumption | (simp [go_sem]; done) | (simp [go_sem, *]; done))
        have z1_1 : w.heap.size + 1 < w1.heap.size := by omega
        have k1_1_0 : w1.cell? ⟨w.heap.size + 1, 0, none⟩ = some (.int .i64 (x)) := (b1.cell (p := ⟨w.heap.size + 1, 0, none⟩) (by first | (simp; done) | (simp; omega) | omega)).trans (by first | with_reducible assumption | (simp [go_sem]; done) | (simp [go_sem, *]; done))
        have g1_1_0 : w1.frozen? ⟨w.heap.size + 1, 0, none⟩ = false := (b1.frozen (p := ⟨w.heap.size + 1, 0, none⟩) (by first | (simp; done) | (simp; omega) | omega)).trans (by first | with_reducible assumption | (simp [go_sem]; done) | (simp [go_sem, *]; done))
        have k1_1_1 : w1.cell? ⟨w.heap.size + 1, 1, none⟩ = some (.int .i64 (y)) := (b1.cell (p := ⟨w.heap.size + 1, 1, none⟩) (by first | (simp; done) | (simp; omega) | omega)).trans (by first | with_reducible assumption | (simp [go_sem]; done) | (simp [go_sem, *]; done))
        have g1_1_1 : w1.frozen? ⟨w.heap.size + 1, 1, none⟩ = false := (b1.frozen (p := ⟨w.heap.size + 1, 1, none⟩) (by first | (simp; done) | (simp; omega) | omega)).trans (by first | with_reducible assumption | (simp [go_sem]; done) | (simp [go_sem, *]; done))
        go_wp2_with fail
        refine (K2.out _).mono ?_
        rintro e w2 ⟨rfl, b2⟩
        have s2 := b2.size
        try simp at s2
        have z2_0 : w.heap.size < w2.heap.size := by omega
        have k2_0_0 : w2.cell? ⟨w.heap.size, 0, none⟩ = some (.int .i64 (aX)) := (b2.cell (p := ⟨w.heap.size, 0, none⟩) (by first | (simp; done) | (simp; omega) | omega)).trans (by first | with_reducible assumption | (simp [go_sem]; done) | (simp [go_sem, *]; done))
        have g2_0_0 : w2.frozen? ⟨w.heap.size, 0, none⟩ = false := (b2.frozen (p := ⟨w.heap.size, 0, none⟩) (by first | (simp; done) | (simp; omega) | omega)).trans (by first | with_reducible assumption | (simp [go_sem]; done) | (simp [go_sem, *]; done))
        have k2_0_1 : w2.cell? ⟨w.heap.size, 1, none⟩ = some (.int .i64 (aY)) := (b2.cell (p := ⟨w.heap.size, 1, none⟩) (by first | (simp; done) | (simp; omega) | omega)).trans (by first | with_reducible assumption | (simp [go_sem]; done) | (simp [go_sem, *]; done))
        have g2_0_1 : w2.frozen? ⟨w.heap.size, 1, none⟩ = false := (b2.frozen (p := ⟨w.heap.size, 1, none⟩) (by first | (simp; done) | (simp; omega) | omega)).trans (by first | with_reducible assumption | (simp [go_sem]; done) | (simp [go_sem, *]; done))
        have k2_0_2 : w2.cell? ⟨w.heap.size, 2, none⟩ = some (.int .i64 (bX)) := (b2.cell (p := ⟨w.heap.size, 2, none⟩) (by first | (simp; done) | (simp; omega) | omega)).trans (by first | with_reducible assumption | (simp [go_sem]; done) | (simp [go_sem, *]; done))
        have g2_0_2 : w2.frozen? ⟨w.heap.size, 2, none⟩ = false := (b2.frozen (p := ⟨w.heap.size, 2, none⟩) (by first | (simp; done) | (simp; omega) | omega)).trans (by first | with_reducible assumption | (simp [go_sem]; done) | (simp [go_sem, *]; done))
        have k2_0_3 : w2.cell? ⟨w.heap.size, 3, none⟩ = some (.int .i64 (bY)) := (b2.cell (p := ⟨w.heap.size, 3, none⟩) (by first | (simp; done) | (simp; omega) | omega)).trans (by first | with_reducible assumption | (simp [go_sem]; done) | (simp [go_sem, *]; done))
        have g2_0_3 : w2.frozen? ⟨w.heap.size, 3, none⟩ = false := (b2.frozen (p := ⟨w.heap.size, 3, none⟩) (by first | (simp; done) | (simp; omega) | omega)).trans (by first | with_reducible assumption | (simp [go_sem]; done) | (simp [go_sem, *]; done))
        have z2_1 : w.heap.size + 1 < w2.heap.size := by omega
        have k2_1_0 : w2.cell? ⟨w.heap.size + 1, 0, none⟩ = some (.int .i64 (x)) := (b2.cell (p := ⟨w.heap.size + 1, 0, none⟩) (by first | (simp; done) | (simp; omega) | omega)).trans (by first | with_reducible assumption | (simp [go_sem]; done) | (simp [go_sem, *]; done))
        have g2_1_0 : w2.frozen? ⟨w.heap.size + 1, 0, none⟩ = false := (b2.frozen (p := ⟨w.heap.size + 1, 0, none⟩) (by first | (simp; done) | (simp; omega) | omega)).trans (by first | with_reducible assumption | (simp [go_sem]; done) | (simp [go_sem, *]; done))
        have k2_1_1 : w2.cell? ⟨w.heap.size + 1, 1, none⟩ = some (.int .i64 (y)) := (b2.cell (p := ⟨w.heap.size + 1, 1, none⟩) (by first | (simp; done) | (simp; omega) | omega)).trans (by first | with_reducible assumption | (simp [go_sem]; done) | (simp [go_sem, *]; done))
        have g2_1_1 : w2.frozen? ⟨w.heap.size + 1, 1, none⟩ = false := (b2.frozen (p := ⟨w.heap.size + 1, 1, none⟩) (by first | (simp; done) | (simp; omega) | omega)).trans (by first | with_reducible assumption | (simp [go_sem]; done) | (simp [go_sem, *]; done))
        clear k1_0_0 g1_0_0 k1_0_1 g1_0_1 k1_0_2 g1_0_2 k1_0_3 g1_0_3 k1_1_0 g1_1_0 k1_1_1 g1_1_1
        go_wp2_with fail
        refine (K3.out _).mono ?_
        rintro e w' ⟨rfl, rfl⟩
        go_wp2
        go_ret
        exact ⟨rfl, (by (repeat (first | with_reducible exact Below.refl _ _ | with_reducible refine bl_alloc ?_ _ | with_reducible refine bl_drew ?_ | with_reducible refine bl_set ?_ (by first | (simp; done) | (simp; omega)) _ | with_reducible refine bl_call (by assumption) ?_)))⟩
  
      | true =>
        have hr : CtsF aX aY bX bY x y n = sgnI (NumV aX aY bX bY x y - n * DenV aX aY bX bY x y) := by simp [CtsF, ctsB, q1, q2, q3]
        rw [hr]
        clear hr
        obtain ⟨⟨ha1, ha2⟩, ⟨hb1, hb2⟩⟩ := segB_true q1
        obtain ⟨hx, hy⟩ := ptB_true q2
        obtain ⟨ln, un⟩ := inB_true q3
        obtain ⟨⟨nl, nu⟩, ⟨dl, du⟩⟩ := num_bd0 aX aY bX bY x y ha1 ha2 hb1 hb2 hx hy
        obtain ⟨pl, pu⟩ := mul_bd n (DenV aX aY bX bY x y) 8000000 8000000 ⟨by omega, by omega⟩ ⟨dl, du⟩ (by omega) (by omega)
        have K1 : Hid (∀ W : World, Calls Try.prog 72 #[.agg #[.int .i64 aX, .int .i64 aY, .int .i64 bX, .int .i64 bY]] W fun e w' => e = .returned (.bool true) ∧ Below W.heap.size W w') := Lib.hid fun W => by
          have h := spec_validSegment (aX) (aY) (bX) (bY) W
          rw [q1] at h
          exact h
        have K2 : Hid (∀ W : World, Calls Try.prog 73 #[.agg #[.int .i64 x, .int .i64 y]] W fun e w' => e = .returned (.bool true) ∧ Below W.heap.size W w') := Lib.hid fun W => by
          have h := spec_validPoint (x) (y) W
          rw [q2] at h
          exact h
        have K3 : Hid (∀ W : World, Calls Try.prog 58 #[.int .i64 n, .int .i64 0, .int .i64 8000000] W fun e w' => e = .returned (.bool true) ∧ W = w') := Lib.hid fun W => by
          have h := spec_inRange (n) (0) (8000000) W
          rw [q3] at h
          exact h
        have K4 : Hid (∀ W : World, Calls Try.prog 74 #[.agg #[.int .i64 aX, .int .i64 aY, .int .i64 bX, .int .i64 bY], .agg #[.int .i64 x, .int .i64 y]] W fun e w' => e = .returned (.tuple #[.int .i64 (NumV aX aY bX bY x y), .int .i64 (DenV aX aY bX bY x y)]) ∧ Below W.heap.size W w') := Lib.hid fun W => by
          have h := spec_toSegment (aX) (aY) (bX) (bY) (x) (y) W (by omega) (by omega) (by omega) (by omega) (by omega) (by omega)
          exact h
        have K5 : Hid (∀ W : World, Calls Try.prog 75 #[.int .i64 (NumV aX aY bX bY x y - n * DenV aX aY bX bY x y)] W fun e w' => e = .returned (.int .i64 (sgnI (NumV aX aY bX bY x y - n * DenV aX aY bX bY x y))) ∧ W = w') := Lib.hid fun W => by
          have h := spec_sign (NumV aX aY bX bY x y - n * DenV aX aY bX bY x y) W
          exact h
        generalize NumV aX aY bX bY x y = N at *
        generalize DenV aX aY bX bY x y = D at *
        clear q1 q2 q3
        go_enter Try.func40, Try.ntmps40
        go_wp2_with fail
        refine (K1.out _).mono ?_
        rintro e w1 ⟨rfl, b1⟩
        have s1 := b1.size
        try simp at s1
        have z1_0 : w.heap.size < w1.heap.size := by omega
        have k1_0_0 : w1.cell? ⟨w.heap.size, 0, none⟩ = some (.int .i64 (aX)) := (b1.cell (p := ⟨w.heap.size, 0, none⟩) (by first | (simp; done) | (simp; omega) | omega)).trans (by first | with_reducible assumption | (simp [go_sem]; done) | (simp [go_sem, *]; done))
        have g1_0_0 : w1.frozen? ⟨w.heap.size, 0, none⟩ = false := (b1.frozen (p := ⟨w.heap.size, 0, none⟩) (by first | (simp; done) | (simp; omega) | omega)).trans (by first | with_reducible assumption | (simp [go_sem]; done) | (simp [go_sem, *]; done))
        have k1_0_1 : w1.cell? ⟨w.heap.size, 1, none⟩ = some (.int .i64 (aY)) := (b1.cell (p := ⟨w.heap.size, 1, none⟩) (by first | (simp; done) | (simp; omega) | omega)).trans (by first | with_reducible assumption | (simp [go_sem]; done) | (simp [go_sem, *]; done))
        have g1_0_1 : w1.frozen? ⟨w.heap.size, 1, none⟩ = false := (b1.frozen (p := ⟨w.heap.size, 1, none⟩) (by first | (simp; done) | (simp; omega) | omega)).trans (by first | with_reducible assumption | (simp [go_sem]; done) | (simp [go_sem, *]; done))
        have k1_0_2 : w1.cell? ⟨w.heap.size, 2, none⟩ = some (.int .i64 (bX)) := (b1.cell (p := ⟨w.heap.size, 2, none⟩) (by first | (simp; done) | (simp; omega) | omega)).trans (by first | with_reducible assumption | (simp [go_sem]; done) | (simp [go_sem, *]; done))
        have g1_0_2 : w1.frozen? ⟨w.heap.size, 2, none⟩ = false := (b1.frozen (p := ⟨w.heap.size, 2, none⟩) (by first | (simp; done) | (simp; omega) | omega)).trans (by first | with_reducible assumption | (simp [go_sem]; done) | (simp [go_sem, *]; done))
        have k1_0_3 : w1.cell? ⟨w.heap.size, 3, none⟩ = some (.int .i64 (bY)) := (b1.cell (p := ⟨w.heap.size, 3, none⟩) (by first | (simp; done) | (simp; omega) | omega)).trans (by first | with_reducible assumption | (simp [go_sem]; done) | (simp [go_sem, *]; done))
        have g1_0_3 : w1.frozen? ⟨w.heap.size, 3, none⟩ = false := (b1.frozen (p := ⟨w.heap.size, 3, none⟩) (by first | (simp; done) | (simp; omega) | omega)).trans (by first | with_reducible assumption | (simp [go_sem]; done) | (simp [go_sem, *]; done))
        have z1_1 : w.heap.size + 1 < w1.heap.size := by omega
        have k1_1_0 : w1.cell? ⟨w.heap.size + 1, 0, none⟩ = some (.int .i64 (x)) := (b1.cell (p := ⟨w.heap.size + 1, 0, none⟩) (by first | (simp; done) | (simp; omega) | omega)).trans (by first | with_reducible assumption | (simp [go_sem]; done) | (simp [go_sem, *]; done))
        have g1_1_0 : w1.frozen? ⟨w.heap.size + 1, 0, none⟩ = false := (b1.frozen (p := ⟨w.heap.size + 1, 0, none⟩) (by first | (simp; done) | (simp; omega) | omega)).trans (by first | with_reducible assumption | (simp [go_sem]; done) | (simp [go_sem, *]; done))
        have k1_1_1 : w1.cell? ⟨w.heap.size + 1, 1, none⟩ = some (.int .i64 (y)) := (b1.cell (p := ⟨w.heap.size + 1, 1, none⟩) (by first | (simp; done) | (simp; omega) | omega)).trans (by first | with_reducible assumption | (simp [go_sem]; done) | (simp [go_sem, *]; done))
        have g1_1_1 : w1.frozen? ⟨w.heap.size + 1, 1, none⟩ = false := (b1.frozen (p := ⟨w.heap.size + 1, 1, none⟩) (by first | (simp; done) | (simp; omega) | omega)).trans (by first | with_reducible assumption | (simp [go_sem]; done) | (simp [go_sem, *]; done))
        go_wp2_with fail
        refine (K2.out _).mono ?_
        rintro e w2 ⟨rfl, b2⟩
        have s2 := b2.size
        try simp at s2
        have z2_0 : w.heap.size < w2.heap.size := by omega
        have k2_0_0 : w2.cell? ⟨w.heap.size, 0, none⟩ = some (.int .i64 (aX)) := (b2.cell (p := ⟨w.heap.size, 0, none⟩) (by first | (simp; done) | (simp; omega) | omega)).trans (by first | with_reducible assumption | (simp [go_sem]; done) | (simp [go_sem, *]; done))
        have g2_0_0 : w2.frozen? ⟨w.heap.size, 0, none⟩ = false := (b2.frozen (p := ⟨w.heap.size, 0, none⟩) (by first | (simp; done) | (simp; omega) | omega)).trans (by first | with_reducible assumption | (simp [go_sem]; done) | (simp [go_sem, *]; done))
        have k2_0_1 : w2.cell? ⟨w.heap.size, 1, none⟩ = some (.int .i64 (aY)) := (b2.cell (p := ⟨w.heap.size, 1, none⟩) (by first | (simp; done) | (simp; omega) | omega)).trans (by first | with_reducible assumption | (simp [go_sem]; done) | (simp [go_sem, *]; done))
        have g2_0_1 : w2.frozen? ⟨w.heap.size, 1, none⟩ = false := (b2.frozen (p := ⟨w.heap.size, 1, none⟩) (by first | (simp; done) | (simp; omega) | omega)).trans (by first | with_reducible assumption | (simp [go_sem]; done) | (simp [go_sem, *]; done))
        have k2_0_2 : w2.cell? ⟨w.heap.size, 2, none⟩ = some (.int .i64 (bX)) := (b2.cell (p := ⟨w.heap.size, 2, none⟩) (by first | (simp; done) | (simp; omega) | omega)).trans (by first | with_reducible assumption | (simp [go_sem]; done) | (simp [go_sem, *]; done))
        have g2_0_2 : w2.frozen? ⟨w.heap.size, 2, none⟩ = false := (b2.frozen (p := ⟨w.heap.size, 2, none⟩) (by first | (simp; done) | (simp; omega) | omega)).trans (by first | with_reducible assumption | (simp [go_sem]; done) | (simp [go_sem, *]; done))
        have k2_0_3 : w2.cell? ⟨w.heap.size, 3, none⟩ = some (.int .i64 (bY)) := (b2.cell (p := ⟨w.heap.size, 3, none⟩) (by first | (simp; done) | (simp; omega) | omega)).trans (by first | with_reducible assumption | (simp [go_sem]; done) | (simp [go_sem, *]; done))
        have g2_0_3 : w2.frozen? ⟨w.heap.size, 3, none⟩ = false := (b2.frozen (p := ⟨w.heap.size, 3, none⟩) (by first | (simp; done) | (simp; omega) | omega)).trans (by first | with_reducible assumption | (simp [go_sem]; done) | (simp [go_sem, *]; done))
        have z2_1 : w.heap.size + 1 < w2.heap.size := by omega
        have k2_1_0 : w2.cell? ⟨w.heap.size + 1, 0, none⟩ = some (.int .i64 (x)) := (b2.cell (p := ⟨w.heap.size + 1, 0, none⟩) (by first | (simp; done) | (simp; omega) | omega)).trans (by first | with_reducible assumption | (simp [go_sem]; done) | (simp [go_sem, *]; done))
        have g2_1_0 : w2.frozen? ⟨w.heap.size + 1, 0, none⟩ = false := (b2.frozen (p := ⟨w.heap.size + 1, 0, none⟩) (by first | (simp; done) | (simp; omega) | omega)).trans (by first | with_reducible assumption | (simp [go_sem]; done) | (simp [go_sem, *]; done))
        have k2_1_1 : w2.cell? ⟨w.heap.size + 1, 1, none⟩ = some (.int .i64 (y)) := (b2.cell (p := ⟨w.heap.size + 1, 1, none⟩) (by first | (simp; done) | (simp; omega) | omega)).trans (by first | with_reducible assumption | (simp [go_sem]; done) | (simp [go_sem, *]; done))
        have g2_1_1 : w2.frozen? ⟨w.heap.size + 1, 1, none⟩ = false := (b2.frozen (p := ⟨w.heap.size + 1, 1, none⟩) (by first | (simp; done) | (simp; omega) | omega)).trans (by first | with_reducible assumption | (simp [go_sem]; done) | (simp [go_sem, *]; done))
        clear k1_0_0 g1_0_0 k1_0_1 g1_0_1 k1_0_2 g1_0_2 k1_0_3 g1_0_3 k1_1_0 g1_1_0 k1_1_1 g1_1_1
        go_wp2_with fail
        refine (K3.out _).mono ?_
        rintro e w' ⟨rfl, rfl⟩
        go_wp2_with fail
        refine (K4.out _).mono ?_
        rintro e w3 ⟨rfl, b3⟩
        have s3 := b3.size
        try simp at s3
        have z3_0 : w.heap.size < w3.heap.size := by omega
        have k3_0_0 : w3.cell? ⟨w.heap.size, 0, none⟩ = some (.int .i64 (aX)) := (b3.cell (p := ⟨w.heap.size, 0, none⟩) (by first | (simp; done) | (simp; omega) | omega)).trans (by first | with_reducible assumption | (simp [go_sem]; done) | (simp [go_sem, *]; done))
        have g3_0_0 : w3.frozen? ⟨w.heap.size, 0, none⟩ = false := (b3.frozen (p := ⟨w.heap.size, 0, none⟩) (by first | (simp; done) | (simp; omega) | omega)).trans (by first | with_reducible assumption | (simp [go_sem]; done) | (simp [go_sem, *]; done))
        have k3_0_1 : w3.cell? ⟨w.heap.size, 1, none⟩ = some (.int .i64 (aY)) := (b3.cell (p := ⟨w.heap.size, 1, none⟩) (by first | (simp; done) | (simp; omega) | omega)).trans (by first | with_reducible assumption | (simp [go_sem]; done) | (simp [go_sem, *]; done))
        have g3_0_1 : w3.frozen? ⟨w.heap.size, 1, none⟩ = false := (b3.frozen (p := ⟨w.heap.size, 1, none⟩) (by first | (simp; done) | (simp; omega) | omega)).trans (by first | with_reducible assumption | (simp [go_sem]; done) | (simp [go_sem, *]; done))
        have k3_0_2 : w3.cell? ⟨w.heap.size, 2, none⟩ = some (.int .i64 (bX)) := (b3.cell (p := ⟨w.heap.size, 2, none⟩) (by first | (simp; done) | (simp; omega) | omega)).trans (by first | with_reducible assumption | (simp [go_sem]; done) | (simp [go_sem, *]; done))
        have g3_0_2 : w3.frozen? ⟨w.heap.size, 2, none⟩ = false := (b3.frozen (p := ⟨w.heap.size, 2, none⟩) (by first | (simp; done) | (simp; omega) | omega)).trans (by first | with_reducible assumption | (simp [go_sem]; done) | (simp [go_sem, *]; done))
        have k3_0_3 : w3.cell? ⟨w.heap.size, 3, none⟩ = some (.int .i64 (bY)) := (b3.cell (p := ⟨w.heap.size, 3, none⟩) (by first | (simp; done) | (simp; omega) | omega)).trans (by first | with_reducible assumption | (simp [go_sem]; done) | (simp [go_sem, *]; done))
        have g3_0_3 : w3.frozen? ⟨w.heap.size, 3, none⟩ = false := (b3.frozen (p := ⟨w.heap.size, 3, none⟩) (by first | (simp; done) | (simp; omega) | omega)).trans (by first | with_reducible assumption | (simp [go_sem]; done) | (simp [go_sem, *]; done))
        have z3_1 : w.heap.size + 1 < w3.heap.size := by omega
        have k3_1_0 : w3.cell? ⟨w.heap.size + 1, 0, none⟩ = some (.int .i64 (x)) := (b3.cell (p := ⟨w.heap.size + 1, 0, none⟩) (by first | (simp; done) | (simp; omega) | omega)).trans (by first | with_reducible assumption | (simp [go_sem]; done) | (simp [go_sem, *]; done))
        have g3_1_0 : w3.frozen? ⟨w.heap.size + 1, 0, none⟩ = false := (b3.frozen (p := ⟨w.heap.size + 1, 0, none⟩) (by first | (simp; done) | (simp; omega) | omega)).trans (by first | with_reducible assumption | (simp [go_sem]; done) | (simp [go_sem, *]; done))
        have k3_1_1 : w3.cell? ⟨w.heap.size + 1, 1, none⟩ = some (.int .i64 (y)) := (b3.cell (p := ⟨w.heap.size + 1, 1, none⟩) (by first | (simp; done) | (simp; omega) | omega)).trans (by first | with_reducible assumption | (simp [go_sem]; done) | (simp [go_sem, *]; done))
        have g3_1_1 : w3.frozen? ⟨w.heap.size + 1, 1, none⟩ = false := (b3.frozen (p := ⟨w.heap.size + 1, 1, none⟩) (by first | (simp; done) | (simp; omega) | omega)).trans (by first | with_reducible assumption | (simp [go_sem]; done) | (simp [go_sem, *]; done))
        clear k2_0_0 g2_0_0 k2_0_1 g2_0_1 k2_0_2 g2_0_2 k2_0_3 g2_0_3 k2_1_0 g2_1_0 k2_1_1 g2_1_1
        go_wp2_with fail
        refine (K5.out _).mono ?_
        rintro e w' ⟨rfl, rfl⟩
        go_wp2
        go_ret
        exact ⟨rfl, (by (repeat (first | with_reducible exact Below.refl _ _ | with_reducible refine bl_alloc ?_ _ | with_reducible refine bl_drew ?_ | with_reducible refine bl_set ?_ (by first | (simp; done) | (simp; omega)) _ | with_reducible refine bl_call (by assumption) ?_)))⟩

set_option maxHeartbeats 4000000 in
theorem impl_CompareToSegment (aX : Int) (aY : Int) (bX : Int) (bY : Int) (x : Int) (y : Int) (n : Int) (w : World) :
    Calls Try.prog 43 #[.agg #[.int .i64 aX, .int .i64 aY, .int .i64 bX, .int .i64 bY], .agg #[.int .i64 x, .int .i64 y], .int .i64 n] w fun e w' => e = .returned (.int .i64 (CtsF aX aY bX bY x y n)) ∧ Below w.heap.size w w' := by
  cases q1 : segB aX aY bX bY with
  | false =>
    have hr : CtsF aX aY bX bY x y n = 2 := by simp [CtsF, ctsB, q1]
    rw [hr]
    clear hr
    have K1 : Hid (∀ W : World, Calls Try.prog 76 #[.agg #[.int .i64 aX, .int .i64 aY, .int .i64 bX, .int .i64 bY]] W fun e w' => e = .returned (.bool false) ∧ Below W.heap.size W w') := Lib.hid fun W => by
      have h := impl_Segment_valid (aX) (aY) (bX) (bY) W
      rw [q1] at h
      exact h
    clear q1
    go_enter Try.func43, Try.ntmps43
    go_wp2_with fail
    refine (K1.out _).mono ?_
    rintro e w1 ⟨rfl, b1⟩
    have s1 := b1.size
    try simp at s1
    have z1_0 : w.heap.size < w1.heap.size := by omega
    have k1_0_0 : w1.cell? ⟨w.heap.size, 0, none⟩ = some (.int .i64 (aX)) := (b1.cell (p := ⟨w.heap.size, 0, none⟩) (by first | (simp; done) | (simp; omega) | omega)).trans (by first | with_reducible assumption | (simp [go_sem]; done) | (simp [go_sem, *]; done))
    have g1_0_0 : w1.frozen? ⟨w.heap.size, 0, none⟩ = false := (b1.frozen (p := ⟨w.heap.size, 0, none⟩) (by first | (simp; done) | (simp; omega) | omega)).trans (by first | with_reducible assumption | (simp [go_sem]; done) | (simp [go_sem, *]; done))
    have k1_0_1 : w1.cell? ⟨w.heap.size, 1, none⟩ = some (.int .i64 (aY)) := (b1.cell (p := ⟨w.heap.size, 1, none⟩) (by first | (simp; done) | (simp; omega) | omega)).trans (by first | with_reducible assumption | (simp [go_sem]; done) | (simp [go_sem, *]; done))
    have g1_0_1 : w1.frozen? ⟨w.heap.size, 1, none⟩ = false := (b1.frozen (p := ⟨w.heap.size, 1, none⟩) (by first | (simp; done) | (simp; omega) | omega)).trans (by first | with_reducible assumption | (simp [go_sem]; done) | (simp [go_sem, *]; done))
    have k1_0_2 : w1.cell? ⟨w.heap.size, 2, none⟩ = some (.int .i64 (bX)) := (b1.cell (p := ⟨w.heap.size, 2, none⟩) (by first | (simp; done) | (simp; omega) | omega)).trans (by first | with_reducible assumption | (simp [go_sem]; done) | (simp [go_sem, *]; done))
    have g1_0_2 : w1.frozen? ⟨w.heap.size, 2, none⟩ = false := (b1.frozen (p := ⟨w.heap.size, 2, none⟩) (by first | (simp; done) | (simp; omega) | omega)).trans (by first | with_reducible assumption | (simp [go_sem]; done) | (simp [go_sem, *]; done))
    have k1_0_3 : w1.cell? ⟨w.heap.size, 3, none⟩ = some (.int .i64 (bY)) := (b1.cell (p := ⟨w.heap.size, 3, none⟩) (by first | (simp; done) | (simp; omega) | omega)).trans (by first | with_reducible assumption | (simp [go_sem]; done) | (simp [go_sem, *]; done))
    have g1_0_3 : w1.frozen? ⟨w.heap.size, 3, none⟩ = false := (b1.frozen (p := ⟨w.heap.size, 3, none⟩) (by first | (simp; done) | (simp; omega) | omega)).trans (by first | with_reducible assumption | (simp [go_sem]; done) | (simp [go_sem, *]; done))
    have z1_1 : w.heap.size + 1 < w1.heap.size := by omega
    have k1_1_0 : w1.cell? ⟨w.heap.size + 1, 0, none⟩ = some (.int .i64 (x)) := (b1.cell (p := ⟨w.heap.size + 1, 0, none⟩) (by first | (simp; done) | (simp; omega) | omega)).trans (by first | with_reducible assumption | (simp [go_sem]; done) | (simp [go_sem, *]; done))
    have g1_1_0 : w1.frozen? ⟨w.heap.size + 1, 0, none⟩ = false := (b1.frozen (p := ⟨w.heap.size + 1, 0, none⟩) (by first | (simp; done) | (simp; omega) | omega)).trans (by first | with_reducible assumption | (simp [go_sem]; done) | (simp [go_sem, *]; done))
    have k1_1_1 : w1.cell? ⟨w.heap.size + 1, 1, none⟩ = some (.int .i64 (y)) := (b1.cell (p := ⟨w.heap.size + 1, 1, none⟩) (by first | (simp; done) | (simp; omega) | omega)).trans (by first | with_reducible assumption | (simp [go_sem]; done) | (simp [go_sem, *]; done))
    have g1_1_1 : w1.frozen? ⟨w.heap.size + 1, 1, none⟩ = false := (b1.frozen (p := ⟨w.heap.size + 1, 1, none⟩) (by first | (simp; done) | (simp; omega) | omega)).trans (by first | with_reducible assumption | (simp [go_sem]; done) | (simp [go_sem, *]; done))
    go_wp2
    go_ret
    exact ⟨rfl, (by (repeat (first | with_reducible exact Below.refl _ _ | with_reducible refine bl_alloc ?_ _ | with_reducible refine bl_drew ?_ | with_reducible refine bl_set ?_ (by first | (simp; done) | (simp; omega)) _ | with_reducible refine bl_call (by assumption) ?_)))⟩
  
  | true =>
    cases q2 : ptB x y with
    | false =>
      have hr : CtsF aX aY bX bY x y n = 2 := by simp [CtsF, ctsB, q1, q2]
      rw [hr]
      clear hr
      have K1 : Hid (∀ W : World, Calls Try.prog 76 #[.agg #[.int .i64 aX, .int .i64 aY, .int .i64 bX, .int .i64 bY]] W fun e w' => e = .returned (.bool true) ∧ Below W.heap.size W w') := Lib.hid fun W => by
        have h := impl_Segment_valid (aX) (aY) (bX) (bY) W
        rw [q1] at h
        exact h
      have K2 : Hid (∀ W : World, Calls Try.prog 77 #[.agg #[.int .i64 x, .int .i64 y]] W fun e w' => e = .returned (.bool false) ∧ Below W.heap.size W w') := Lib.hid fun W => by
        have h := impl_Point_valid (x) (y) W
        rw [q2] at h
        exact h
      clear q1 q2
      go_enter Try.func43, Try.ntmps43
      go_wp2_with fail
      refine (K1.out _).mono ?_
      rintro e w1 ⟨rfl, b1⟩
      have s1 := b1.size
      try simp at s1
      have z1_0 : w.heap.size < w1.heap.size := by omega
      have k1_0_0 : w1.cell? ⟨w.heap.size, 0, none⟩ = some (.int .i64 (aX)) := (b1.cell (p := ⟨w.heap.size, 0, none⟩) (by first | (simp; done) | (simp; omega) | omega)).trans (by first | with_reducible assumption | (simp [go_sem]; done) | (simp [go_sem, *]; done))
      have g1_0_0 : w1.frozen? ⟨w.heap.size, 0, none⟩ = false := (b1.frozen (p := ⟨w.heap.size, 0, none⟩) (by first | (simp; done) | (simp; omega) | omega)).trans (by first | with_reducible assumption | (simp [go_sem]; done) | (simp [go_sem, *]; done))
      have k1_0_1 : w1.cell? ⟨w.heap.size, 1, none⟩ = some (.int .i64 (aY)) := (b1.cell (p := ⟨w.heap.size, 1, none⟩) (by first | (simp; done) | (simp; omega) | omega)).trans (by first | with_reducible assumption | (simp [go_sem]; done) | (simp [go_sem, *]; done))
      have g1_0_1 : w1.frozen? ⟨w.heap.size, 1, none⟩ = false := (b1.frozen (p := ⟨w.heap.size, 1, none⟩) (by first | (simp; done) | (simp; omega) | omega)).trans (by first | with_reducible assumption | (simp [go_sem]; done) | (simp [go_sem, *]; done))
      have k1_0_2 : w1.cell? ⟨w.heap.size, 2, none⟩ = some (.int .i64 (bX)) := (b1.cell (p := ⟨w.heap.size, 2, none⟩) (by first | (simp; done) | (simp; omega) | omega)).trans (by first | with_reducible assumption | (simp [go_sem]; done) | (simp [go_sem, *]; done))
      have g1_0_2 : w1.frozen? ⟨w.heap.size, 2, none⟩ = false := (b1.frozen (p := ⟨w.heap.size, 2, none⟩) (by first | (simp; done) | (simp; omega) | omega)).trans (by first | with_reducible assumption | (simp [go_sem]; done) | (simp [go_sem, *]; done))
      have k1_0_3 : w1.cell? ⟨w.heap.size, 3, none⟩ = some (.int .i64 (bY)) := (b1.cell (p := ⟨w.heap.size, 3, none⟩) (by first | (simp; done) | (simp; omega) | omega)).trans (by first | with_reducible assumption | (simp [go_sem]; done) | (simp [go_sem, *]; done))
      have g1_0_3 : w1.frozen? ⟨w.heap.size, 3, none⟩ = false := (b1.frozen (p := ⟨w.heap.size, 3, none⟩) (by first | (simp; done) | (simp; omega) | omega)).trans (by first | with_reducible assumption | (simp [go_sem]; done) | (simp [go_sem, *]; done))
      have z1_1 : w.heap.size + 1 < w1.heap.size := by omega
      have k1_1_0 : w1.cell? ⟨w.heap.size + 1, 0, none⟩ = some (.int .i64 (x)) := (b1.cell (p := ⟨w.heap.size + 1, 0, none⟩) (by first | (simp; done) | (simp; omega) | omega)).trans (by first | with_reducible assumption | (simp [go_sem]; done) | (simp [go_sem, *]; done))
      have g1_1_0 : w1.frozen? ⟨w.heap.size + 1, 0, none⟩ = false := (b1.frozen (p := ⟨w.heap.size + 1, 0, none⟩) (by first | (simp; done) | (simp; omega) | omega)).trans (by first | with_reducible assumption | (simp [go_sem]; done) | (simp [go_sem, *]; done))
      have k1_1_1 : w1.cell? ⟨w.heap.size + 1, 1, none⟩ = some (.int .i64 (y)) := (b1.cell (p := ⟨w.heap.size + 1, 1, none⟩) (by first | (simp; done) | (simp; omega) | omega)).trans (by first | with_reducible assumption | (simp [go_sem]; done) | (simp [go_sem, *]; done))
      have g1_1_1 : w1.frozen? ⟨w.heap.size + 1, 1, none⟩ = false := (b1.frozen (p := ⟨w.heap.size + 1, 1, none⟩) (by first | (simp; done) | (simp; omega) | omega)).trans (by first | with_reducible assumption | (simp [go_sem]; done) | (simp [go_sem, *]; done))
      go_wp2_with fail
      refine (K2.out _).mono ?_
      rintro e w2 ⟨rfl, b2⟩
      have s2 := b2.size
      try simp at s2
      have z2_0 : w.heap.size < w2.heap.size := by omega
      have k2_0_0 : w2.cell? ⟨w.heap.size, 0, none⟩ = some (.int .i64 (aX)) := (b2.cell (p := ⟨w.heap.size, 0, none⟩) (by first | (simp; done) | (simp; omega) | omega)).trans (by first | with_reducible assumption | (simp [go_sem]; done) | (simp [go_sem, *]; done))
      have g2_0_0 : w2.frozen? ⟨w.heap.size, 0, none⟩ = false := (b2.frozen (p := ⟨w.heap.size, 0, none⟩) (by first | (simp; done) | (simp; omega) | omega)).trans (by first | with_reducible assumption | (simp [go_sem]; done) | (simp [go_sem, *]; done))
      have k2_0_1 : w2.cell? ⟨w.heap.size, 1, none⟩ = some (.int .i64 (aY)) := (b2.cell (p := ⟨w.heap.size, 1, none⟩) (by first | (simp; done) | (simp; omega) | omega)).trans (by first | with_reducible assumption | (simp [go_sem]; done) | (simp [go_sem, *]; done))
      have g2_0_1 : w2.frozen? ⟨w.heap.size, 1, none⟩ = false := (b2.frozen (p := ⟨w.heap.size, 1, none⟩) (by first | (simp; done) | (simp; omega) | omega)).trans (by first | with_reducible assumption | (simp [go_sem]; done) | (simp [go_sem, *]; done))
      have k2_0_2 : w2.cell? ⟨w.heap.size, 2, none⟩ = some (.int .i64 (bX)) := (b2.cell (p := ⟨w.heap.size, 2, none⟩) (by first | (simp; done) | (simp; omega) | omega)).trans (by first | with_reducible assumption | (simp [go_sem]; done) | (simp [go_sem, *]; done))
      have g2_0_2 : w2.frozen? ⟨w.heap.size, 2, none⟩ = false := (b2.frozen (p := ⟨w.heap.size, 2, none⟩) (by first | (simp; done) | (simp; omega) | omega)).trans (by first | with_reducible assumption | (simp [go_sem]; done) | (simp [go_sem, *]; done))
      have k2_0_3 : w2.cell? ⟨w.heap.size, 3, none⟩ = some (.int .i64 (bY)) := (b2.cell (p := ⟨w.heap.size, 3, none⟩) (by first | (simp; done) | (simp; omega) | omega)).trans (by first | with_reducible assumption | (simp [go_sem]; done) | (simp [go_sem, *]; done))
      have g2_0_3 : w2.frozen? ⟨w.heap.size, 3, none⟩ = false := (b2.frozen (p := ⟨w.heap.size, 3, none⟩) (by first | (simp; done) | (simp; omega) | omega)).trans (by first | with_reducible assumption | (simp [go_sem]; done) | (simp [go_sem, *]; done))
      have z2_1 : w.heap.size + 1 < w2.heap.size := by omega
      have k2_1_0 : w2.cell? ⟨w.heap.size + 1, 0, none⟩ = some (.int .i64 (x)) := (b2.cell (p := ⟨w.heap.size + 1, 0, none⟩) (by first | (simp; done) | (simp; omega) | omega)).trans (by first | with_reducible assumption | (simp [go_sem]; done) | (simp [go_sem, *]; done))
      have g2_1_0 : w2.frozen? ⟨w.heap.size + 1, 0, none⟩ = false := (b2.frozen (p := ⟨w.heap.size + 1, 0, none⟩) (by first | (simp; done) | (simp; omega) | omega)).trans (by first | with_reducible assumption | (simp [go_sem]; done) | (simp [go_sem, *]; done))
      have k2_1_1 : w2.cell? ⟨w.heap.size + 1, 1, none⟩ = some (.int .i64 (y)) := (b2.cell (p := ⟨w.heap.size + 1, 1, none⟩) (by first | (simp; done) | (simp; omega) | omega)).trans (by first | with_reducible assumption | (simp [go_sem]; done) | (simp [go_sem, *]; done))
      have g2_1_1 : w2.frozen? ⟨w.heap.size + 1, 1, none⟩ = false := (b2.frozen (p := ⟨w.heap.size + 1, 1, none⟩) (by first | (simp; done) | (simp; omega) | omega)).trans (by first | with_reducible assumption | (simp [go_sem]; done) | (simp [go_sem, *]; done))
      clear k1_0_0 g1_0_0 k1_0_1 g1_0_1 k1_0_2 g1_0_2 k1_0_3 g1_0_3 k1_1_0 g1_1_0 k1_1_1 g1_1_1
      go_wp2
      go_ret
      exact ⟨rfl, (by (repeat (first | with_reducible exact Below.refl _ _ | with_reducible refine bl_alloc ?_ _ | with_reducible refine bl_drew ?_ | with_reducible refine bl_set ?_ (by first | (simp; done) | (simp; omega)) _ | with_reducible refine bl_call (by assumption) ?_)))⟩
  
    | true =>
      cases q3 : inB n 0 8000000 with
      | false =>
        have hr : CtsF aX aY bX bY x y n = 2 := by simp [CtsF, ctsB, q1, q2, q3]
        rw [hr]
        clear hr
        have K1 : Hid (∀ W : World, Calls Try.prog 76 #[.agg #[.int .i64 aX, .int .i64 aY, .int .i64 bX, .int .i64 bY]] W fun e w' => e = .returned (.bool true) ∧ Below W.heap.size W w') := Lib.hid fun W => by
          have h := impl_Segment_valid (aX) (aY) (bX) (bY) W
          rw [q1] at h
          exact h
        have K2 : Hid (∀ W : World, Calls Try.prog 77 #[.agg #[.int .i64 x, .int .i64 y]] W fun e w' => e = .returned (.bool true) ∧ Below W.heap.size W w') := Lib.hid fun W => by
          have h := impl_Point_valid (x) (y) W
          rw [q2] at h
          exact h
        have K3 : Hid (∀ W : World, Calls Try.prog 78 #[.int .i64 n] W fun e w' => e = .returned (.bool false) ∧ W = w') := Lib.hid fun W => by
          have h := impl_squareOk (n) W
          rw [q3] at h
          exact h
        clear q1 q2 q3
        go_enter Try.func43, Try.ntmps43
        go_wp2_with fail
        refine (K1.out _).mono ?_
        rintro e w1 ⟨rfl, b1⟩
        have s1 := b1.size
        try simp at s1
        have z1_0 : w.heap.size < w1.heap.size := by omega
        have k1_0_0 : w1.cell? ⟨w.heap.size, 0, none⟩ = some (.int .i64 (aX)) := (b1.cell (p := ⟨w.heap.size, 0, none⟩) (by first | (simp; done) | (simp; omega) | omega)).trans (by first | with_reducible assumption | (simp [go_sem]; done) | (simp [go_sem, *]; done))
        have g1_0_0 : w1.frozen? ⟨w.heap.size, 0, none⟩ = false := (b1.frozen (p := ⟨w.heap.size, 0, none⟩) (by first | (simp; done) | (simp; omega) | omega)).trans (by first | with_reducible assumption | (simp [go_sem]; done) | (simp [go_sem, *]; done))
        have k1_0_1 : w1.cell? ⟨w.heap.size, 1, none⟩ = some (.int .i64 (aY)) := (b1.cell (p := ⟨w.heap.size, 1, none⟩) (by first | (simp; done) | (simp; omega) | omega)).trans (by first | with_reducible assumption | (simp [go_sem]; done) | (simp [go_sem, *]; done))
        have g1_0_1 : w1.frozen? ⟨w.heap.size, 1, none⟩ = false := (b1.frozen (p := ⟨w.heap.size, 1, none⟩) (by first | (simp; done) | (simp; omega) | omega)).trans (by first | with_reducible assumption | (simp [go_sem]; done) | (simp [go_sem, *]; done))
        have k1_0_2 : w1.cell? ⟨w.heap.size, 2, none⟩ = some (.int .i64 (bX)) := (b1.cell (p := ⟨w.heap.size, 2, none⟩) (by first | (simp; done) | (simp; omega) | omega)).trans (by first | with_reducible assumption | (simp [go_sem]; done) | (simp [go_sem, *]; done))
        have g1_0_2 : w1.frozen? ⟨w.heap.size, 2, none⟩ = false := (b1.frozen (p := ⟨w.heap.size, 2, none⟩) (by first | (simp; done) | (simp; omega) | omega)).trans (by first | with_reducible assumption | (simp [go_sem]; done) | (simp [go_sem, *]; done))
        have k1_0_3 : w1.cell? ⟨w.heap.size, 3, none⟩ = some (.int .i64 (bY)) := (b1.cell (p := ⟨w.heap.size, 3, none⟩) (by first | (simp; done) | (simp; omega) | omega)).trans (by first | with_reducible assumption | (simp [go_sem]; done) | (simp [go_sem, *]; done))
        have g1_0_3 : w1.frozen? ⟨w.heap.size, 3, none⟩ = false := (b1.frozen (p := ⟨w.heap.size, 3, none⟩) (by first | (simp; done) | (simp; omega) | omega)).trans (by first | with_reducible assumption | (simp [go_sem]; done) | (simp [go_sem, *]; done))
        have z1_1 : w.heap.size + 1 < w1.heap.size := by omega
        have k1_1_0 : w1.cell? ⟨w.heap.size + 1, 0, none⟩ = some (.int .i64 (x)) := (b1.cell (p := ⟨w.heap.size + 1, 0, none⟩) (by first | (simp; done) | (simp; omega) | omega)).trans (by first | with_reducible assumption | (simp [go_sem]; done) | (simp [go_sem, *]; done))
        have g1_1_0 : w1.frozen? ⟨w.heap.size + 1, 0, none⟩ = false := (b1.frozen (p := ⟨w.heap.size + 1, 0, none⟩) (by first | (simp; done) | (simp; omega) | omega)).trans (by first | with_reducible assumption | (simp [go_sem]; done) | (simp [go_sem, *]; done))
        have k1_1_1 : w1.cell? ⟨w.heap.size + 1, 1, none⟩ = some (.int .i64 (y)) := (b1.cell (p := ⟨w.heap.size + 1, 1, none⟩) (by first | (simp; done) | (simp; omega) | omega)).trans (by first | with_reducible assumption | (simp [go_sem]; done) | (simp [go_sem, *]; done))
        have g1_1_1 : w1.frozen? ⟨w.heap.size + 1, 1, none⟩ = false := (b1.frozen (p := ⟨w.heap.size + 1, 1, none⟩) (by first | (simp; done) | (simp; omega) | omega)).trans (by first | with_reducible assumption | (simp [go_sem]; done) | (simp [go_sem, *]; done))
        go_wp2_with fail
        refine (K2.out _).mono ?_
        rintro e w2 ⟨rfl, b2⟩
        have s2 := b2.size
        try simp at s2
        have z2_0 : w.heap.size < w2.heap.size := by omega
        have k2_0_0 : w2.cell? ⟨w.heap.size, 0, none⟩ = some (.int .i64 (aX)) := (b2.cell (p := ⟨w.heap.size, 0, none⟩) (by first | (simp; done) | (simp; omega) | omega)).trans (by first | with_reducible assumption | (simp [go_sem]; done) | (simp [go_sem, *]; done))
        have g2_0_0 : w2.frozen? ⟨w.heap.size, 0, none⟩ = false := (b2.frozen (p := ⟨w.heap.size, 0, none⟩) (by first | (simp; done) | (simp; omega) | omega)).trans (by first | with_reducible assumption | (simp [go_sem]; done) | (simp [go_sem, *]; done))
        have k2_0_1 : w2.cell? ⟨w.heap.size, 1, none⟩ = some (.int .i64 (aY)) := (b2.cell (p := ⟨w.heap.size, 1, none⟩) (by first | (simp; done) | (simp; omega) | omega)).trans (by first | with_reducible assumption | (simp [go_sem]; done) | (simp [go_sem, *]; done))
        have g2_0_1 : w2.frozen? ⟨w.heap.size, 1, none⟩ = false := (b2.frozen (p := ⟨w.heap.size, 1, none⟩) (by first | (simp; done) | (simp; omega) | omega)).trans (by first | with_reducible assumption | (simp [go_sem]; done) | (simp [go_sem, *]; done))
        have k2_0_2 : w2.cell? ⟨w.heap.size, 2, none⟩ = some (.int .i64 (bX)) := (b2.cell (p := ⟨w.heap.size, 2, none⟩) (by first | (simp; done) | (simp; omega) | omega)).trans (by first | with_reducible assumption | (simp [go_sem]; done) | (simp [go_sem, *]; done))
        have g2_0_2 : w2.frozen? ⟨w.heap.size, 2, none⟩ = false := (b2.frozen (p := ⟨w.heap.size, 2, none⟩) (by first | (simp; done) | (simp; omega) | omega)).trans (by first | with_reducible assumption | (simp [go_sem]; done) | (simp [go_sem, *]; done))
        have k2_0_3 : w2.cell? ⟨w.heap.size, 3, none⟩ = some (.int .i64 (bY)) := (b2.cell (p := ⟨w.heap.size, 3, none⟩) (by first | (simp; done) | (simp; omega) | omega)).trans (by first | with_reducible assumption | (simp [go_sem]; done) | (simp [go_sem, *]; done))
        have g2_0_3 : w2.frozen? ⟨w.heap.size, 3, none⟩ = false := (b2.frozen (p := ⟨w.heap.size, 3, none⟩) (by first | (simp; done) | (simp; omega) | omega)).trans (by first | with_reducible assumption | (simp [go_sem]; done) | (simp [go_sem, *]; done))
        have z2_1 : w.heap.size + 1 < w2.heap.size := by omega
        have k2_1_0 : w2.cell? ⟨w.heap.size + 1, 0, none⟩ = some (.int .i64 (x)) := (b2.cell (p := ⟨w.heap.size + 1, 0, none⟩) (by first | (simp; done) | (simp; omega) | omega)).trans (by first | with_reducible assumption | (simp [go_sem]; done) | (simp [go_sem, *]; done))
        have g2_1_0 : w2.frozen? ⟨w.heap.size + 1, 0, none⟩ = false := (b2.frozen (p := ⟨w.heap.size + 1, 0, none⟩) (by first | (simp; done) | (simp; omega) | omega)).trans (by first | with_reducible assumption | (simp [go_sem]; done) | (simp [go_sem, *]; done))
        have k2_1_1 : w2.cell? ⟨w.heap.size + 1, 1, none⟩ = some (.int .i64 (y)) := (b2.cell (p := ⟨w.heap.size + 1, 1, none⟩) (by first | (simp; done) | (simp; omega) | omega)).trans (by first | with_reducible assumption | (simp [go_sem]; done) | (simp [go_sem, *]; done))
        have g2_1_1 : w2.frozen? ⟨w.heap.size + 1, 1, none⟩ = false := (b2.frozen (p := ⟨w.heap.size + 1, 1, none⟩) (by first | (simp; done) | (simp; omega) | omega)).trans (by first | with_reducible assumption | (simp [go_sem]; done) | (simp [go_sem, *]; done))
        clear k1_0_0 g1_0_0 k1_0_1 g1_0_1 k1_0_2 g1_0_2 k1_0_3 g1_0_3 k1_1_0 g1_1_0 k1_1_1 g1_1_1
        go_wp2_with fail
        refine (K3.out _).mono ?_
        rintro e w' ⟨rfl, rfl⟩
        go_wp2
        go_ret
        exact ⟨rfl, (by (repeat (first | with_reducible exact Below.refl _ _ | with_reducible refine bl_alloc ?_ _ | with_reducible refine bl_drew ?_ | with_reducible refine bl_set ?_ (by first | (simp; done) | (simp; omega)) _ | with_reducible refine bl_call (by assumption) ?_)))⟩
  
      | true =>
        have hr : CtsF aX aY bX bY x y n = sgnI (NumV aX aY bX bY x y - n * DenV aX aY bX bY x y) := by simp [CtsF, ctsB, q1, q2, q3]
        rw [hr]
        clear hr
        obtain ⟨⟨ha1, ha2⟩, ⟨hb1, hb2⟩⟩ := segB_true q1
        obtain ⟨hx, hy⟩ := ptB_true q2
        obtain ⟨ln, un⟩ := inB_true q3
        obtain ⟨⟨nl, nu⟩, ⟨dl, du⟩⟩ := num_bd0 aX aY bX bY x y ha1 ha2 hb1 hb2 hx hy
        obtain ⟨pl, pu⟩ := mul_bd n (DenV aX aY bX bY x y) 8000000 8000000 ⟨by omega, by omega⟩ ⟨dl, du⟩ (by omega) (by omega)
        have K1 : Hid (∀ W : World, Calls Try.prog 76 #[.agg #[.int .i64 aX, .int .i64 aY, .int .i64 bX, .int .i64 bY]] W fun e w' => e = .returned (.bool true) ∧ Below W.heap.size W w') := Lib.hid fun W => by
          have h := impl_Segment_valid (aX) (aY) (bX) (bY) W
          rw [q1] at h
          exact h
        have K2 : Hid (∀ W : World, Calls Try.prog 77 #[.agg #[.int .i64 x, .int .i64 y]] W fun e w' => e = .returned (.bool true) ∧ Below W.heap.size W w') := Lib.hid fun W => by
          have h := impl_Point_valid (x) (y) W
          rw [q2] at h
          exact h
        have K3 : Hid (∀ W : World, Calls Try.prog 78 #[.int .i64 n] W fun e w' => e = .returned (.bool true) ∧ W = w') := Lib.hid fun W => by
          have h := impl_squareOk (n) W
          rw [q3] at h
          exact h
        have K4 : Hid (∀ W : World, Calls Try.prog 79 #[.agg #[.int .i64 aX, .int .i64 aY, .int .i64 bX, .int .i64 bY], .agg #[.int .i64 x, .int .i64 y]] W fun e w' => e = .returned (.agg #[.int .i64 (NumV aX aY bX bY x y), .int .i64 (DenV aX aY bX bY x y)]) ∧ Below W.heap.size W w') := Lib.hid fun W => by
          have h := impl_Segment_away (aX) (aY) (bX) (bY) (x) (y) W (by omega) (by omega) (by omega) (by omega) (by omega) (by omega)
          exact h
        have K5 : Hid (∀ W : World, Calls Try.prog 80 #[.int .i64 (NumV aX aY bX bY x y), .int .i64 (n * DenV aX aY bX bY x y)] W fun e w' => e = .returned (.int .i64 (sgnI (NumV aX aY bX bY x y - n * DenV aX aY bX bY x y))) ∧ W = w') := Lib.hid fun W => by
          have h := cmp_Compare_int (NumV aX aY bX bY x y) (n * DenV aX aY bX bY x y) W
          rw [cmpI_sub] at h
          exact h
        generalize NumV aX aY bX bY x y = N at *
        generalize DenV aX aY bX bY x y = D at *
        clear q1 q2 q3
        go_enter Try.func43, Try.ntmps43
        go_wp2_with fail
        refine (K1.out _).mono ?_
        rintro e w1 ⟨rfl, b1⟩
        have s1 := b1.size
        try simp at s1
        have z1_0 : w.heap.size < w1.heap.size := by omega
        have k1_0_0 : w1.cell? ⟨w.heap.size, 0, none⟩ = some (.int .i64 (aX)) := (b1.cell (p := ⟨w.heap.size, 0, none⟩) (by first | (simp; done) | (simp; omega) | omega)).trans (by first | with_reducible assumption | (simp [go_sem]; done) | (simp [go_sem, *]; done))
        have g1_0_0 : w1.frozen? ⟨w.heap.size, 0, none⟩ = false := (b1.frozen (p := ⟨w.heap.size, 0, none⟩) (by first | (simp; done) | (simp; omega) | omega)).trans (by first | with_reducible assumption | (simp [go_sem]; done) | (simp [go_sem, *]; done))
        have k1_0_1 : w1.cell? ⟨w.heap.size, 1, none⟩ = some (.int .i64 (aY)) := (b1.cell (p := ⟨w.heap.size, 1, none⟩) (by first | (simp; done) | (simp; omega) | omega)).trans (by first | with_reducible assumption | (simp [go_sem]; done) | (simp [go_sem, *]; done))
        have g1_0_1 : w1.frozen? ⟨w.heap.size, 1, none⟩ = false := (b1.frozen (p := ⟨w.heap.size, 1, none⟩) (by first | (simp; done) | (simp; omega) | omega)).trans (by first | with_reducible assumption | (simp [go_sem]; done) | (simp [go_sem, *]; done))
        have k1_0_2 : w1.cell? ⟨w.heap.size, 2, none⟩ = some (.int .i64 (bX)) := (b1.cell (p := ⟨w.heap.size, 2, none⟩) (by first | (simp; done) | (simp; omega) | omega)).trans (by first | with_reducible assumption | (simp [go_sem]; done) | (simp [go_sem, *]; done))
        have g1_0_2 : w1.frozen? ⟨w.heap.size, 2, none⟩ = false := (b1.frozen (p := ⟨w.heap.size, 2, none⟩) (by first | (simp; done) | (simp; omega) | omega)).trans (by first | with_reducible assumption | (simp [go_sem]; done) | (simp [go_sem, *]; done))
        have k1_0_3 : w1.cell? ⟨w.heap.size, 3, none⟩ = some (.int .i64 (bY)) := (b1.cell (p := ⟨w.heap.size, 3, none⟩) (by first | (simp; done) | (simp; omega) | omega)).trans (by first | with_reducible assumption | (simp [go_sem]; done) | (simp [go_sem, *]; done))
        have g1_0_3 : w1.frozen? ⟨w.heap.size, 3, none⟩ = false := (b1.frozen (p := ⟨w.heap.size, 3, none⟩) (by first | (simp; done) | (simp; omega) | omega)).trans (by first | with_reducible assumption | (simp [go_sem]; done) | (simp [go_sem, *]; done))
        have z1_1 : w.heap.size + 1 < w1.heap.size := by omega
        have k1_1_0 : w1.cell? ⟨w.heap.size + 1, 0, none⟩ = some (.int .i64 (x)) := (b1.cell (p := ⟨w.heap.size + 1, 0, none⟩) (by first | (simp; done) | (simp; omega) | omega)).trans (by first | with_reducible assumption | (simp [go_sem]; done) | (simp [go_sem, *]; done))
        have g1_1_0 : w1.frozen? ⟨w.heap.size + 1, 0, none⟩ = false := (b1.frozen (p := ⟨w.heap.size + 1, 0, none⟩) (by first | (simp; done) | (simp; omega) | omega)).trans (by first | with_reducible assumption | (simp [go_sem]; done) | (simp [go_sem, *]; done))
        have k1_1_1 : w1.cell? ⟨w.heap.size + 1, 1, none⟩ = some (.int .i64 (y)) := (b1.cell (p := ⟨w.heap.size + 1, 1, none⟩) (by first | (simp; done) | (simp; omega) | omega)).trans (by first | with_reducible assumption | (simp [go_sem]; done) | (simp [go_sem, *]; done))
        have g1_1_1 : w1.frozen? ⟨w.heap.size + 1, 1, none⟩ = false := (b1.frozen (p := ⟨w.heap.size + 1, 1, none⟩) (by first | (simp; done) | (simp; omega) | omega)).trans (by first | with_reducible assumption | (simp [go_sem]; done) | (simp [go_sem, *]; done))
        go_wp2_with fail
        refine (K2.out _).mono ?_
        rintro e w2 ⟨rfl, b2⟩
        have s2 := b2.size
        try simp at s2
        have z2_0 : w.heap.size < w2.heap.size := by omega
        have k2_0_0 : w2.cell? ⟨w.heap.size, 0, none⟩ = some (.int .i64 (aX)) := (b2.cell (p := ⟨w.heap.size, 0, none⟩) (by first | (simp; done) | (simp; omega) | omega)).trans (by first | with_reducible assumption | (simp [go_sem]; done) | (simp [go_sem, *]; done))
        have g2_0_0 : w2.frozen? ⟨w.heap.size, 0, none⟩ = false := (b2.frozen (p := ⟨w.heap.size, 0, none⟩) (by first | (simp; done) | (simp; omega) | omega)).trans (by first | with_reducible assumption | (simp [go_sem]; done) | (simp [go_sem, *]; done))
        have k2_0_1 : w2.cell? ⟨w.heap.size, 1, none⟩ = some (.int .i64 (aY)) := (b2.cell (p := ⟨w.heap.size, 1, none⟩) (by first | (simp; done) | (simp; omega) | omega)).trans (by first | with_reducible assumption | (simp [go_sem]; done) | (simp [go_sem, *]; done))
        have g2_0_1 : w2.frozen? ⟨w.heap.size, 1, none⟩ = false := (b2.frozen (p := ⟨w.heap.size, 1, none⟩) (by first | (simp; done) | (simp; omega) | omega)).trans (by first | with_reducible assumption | (simp [go_sem]; done) | (simp [go_sem, *]; done))
        have k2_0_2 : w2.cell? ⟨w.heap.size, 2, none⟩ = some (.int .i64 (bX)) := (b2.cell (p := ⟨w.heap.size, 2, none⟩) (by first | (simp; done) | (simp; omega) | omega)).trans (by first | with_reducible assumption | (simp [go_sem]; done) | (simp [go_sem, *]; done))
        have g2_0_2 : w2.frozen? ⟨w.heap.size, 2, none⟩ = false := (b2.frozen (p := ⟨w.heap.size, 2, none⟩) (by first | (simp; done) | (simp; omega) | omega)).trans (by first | with_reducible assumption | (simp [go_sem]; done) | (simp [go_sem, *]; done))
        have k2_0_3 : w2.cell? ⟨w.heap.size, 3, none⟩ = some (.int .i64 (bY)) := (b2.cell (p := ⟨w.heap.size, 3, none⟩) (by first | (simp; done) | (simp; omega) | omega)).trans (by first | with_reducible assumption | (simp [go_sem]; done) | (simp [go_sem, *]; done))
        have g2_0_3 : w2.frozen? ⟨w.heap.size, 3, none⟩ = false := (b2.frozen (p := ⟨w.heap.size, 3, none⟩) (by first | (simp; done) | (simp; omega) | omega)).trans (by first | with_reducible assumption | (simp [go_sem]; done) | (simp [go_sem, *]; done))
        have z2_1 : w.heap.size + 1 < w2.heap.size := by omega
        have k2_1_0 : w2.cell? ⟨w.heap.size + 1, 0, none⟩ = some (.int .i64 (x)) := (b2.cell (p := ⟨w.heap.size + 1, 0, none⟩) (by first | (simp; done) | (simp; omega) | omega)).trans (by first | with_reducible assumption | (simp [go_sem]; done) | (simp [go_sem, *]; done))
        have g2_1_0 : w2.frozen? ⟨w.heap.size + 1, 0, none⟩ = false := (b2.frozen (p := ⟨w.heap.size + 1, 0, none⟩) (by first | (simp; done) | (simp; omega) | omega)).trans (by first | with_reducible assumption | (simp [go_sem]; done) | (simp [go_sem, *]; done))
        have k2_1_1 : w2.cell? ⟨w.heap.size + 1, 1, none⟩ = some (.int .i64 (y)) := (b2.cell (p := ⟨w.heap.size + 1, 1, none⟩) (by first | (simp; done) | (simp; omega) | omega)).trans (by first | with_reducible assumption | (simp [go_sem]; done) | (simp [go_sem, *]; done))
        have g2_1_1 : w2.frozen? ⟨w.heap.size + 1, 1, none⟩ = false := (b2.frozen (p := ⟨w.heap.size + 1, 1, none⟩) (by first | (simp; done) | (simp; omega) | omega)).trans (by first | with_reducible assumption | (simp [go_sem]; done) | (simp [go_sem, *]; done))
        clear k1_0_0 g1_0_0 k1_0_1 g1_0_1 k1_0_2 g1_0_2 k1_0_3 g1_0_3 k1_1_0 g1_1_0 k1_1_1 g1_1_1
        go_wp2_with fail
        refine (K3.out _).mono ?_
        rintro e w' ⟨rfl, rfl⟩
        go_wp2_with fail
        refine (K4.out _).mono ?_
        rintro e w3 ⟨rfl, b3⟩
        have s3 := b3.size
        try simp at s3
        have z3_0 : w.heap.size < w3.heap.size := by omega
        have k3_0_0 : w3.cell? ⟨w.heap.size, 0, none⟩ = some (.int .i64 (aX)) := (b3.cell (p := ⟨w.heap.size, 0, none⟩) (by first | (simp; done) | (simp; omega) | omega)).trans (by first | with_reducible assumption | (simp [go_sem]; done) | (simp [go_sem, *]; done))
        have g3_0_0 : w3.frozen? ⟨w.heap.size, 0, none⟩ = false := (b3.frozen (p := ⟨w.heap.size, 0, none⟩) (by first | (simp; done) | (simp; omega) | omega)).trans (by first | with_reducible assumption | (simp [go_sem]; done) | (simp [go_sem, *]; done))
        have k3_0_1 : w3.cell? ⟨w.heap.size, 1, none⟩ = some (.int .i64 (aY)) := (b3.cell (p := ⟨w.heap.size, 1, none⟩) (by first | (simp; done) | (simp; omega) | omega)).trans (by first | with_reducible assumption | (simp [go_sem]; done) | (simp [go_sem, *]; done))
        have g3_0_1 : w3.frozen? ⟨w.heap.size, 1, none⟩ = false := (b3.frozen (p := ⟨w.heap.size, 1, none⟩) (by first | (simp; done) | (simp; omega) | omega)).trans (by first | with_reducible assumption | (simp [go_sem]; done) | (simp [go_sem, *]; done))
        have k3_0_2 : w3.cell? ⟨w.heap.size, 2, none⟩ = some (.int .i64 (bX)) := (b3.cell (p := ⟨w.heap.size, 2, none⟩) (by first | (simp; done) | (simp; omega) | omega)).trans (by first | with_reducible assumption | (simp [go_sem]; done) | (simp [go_sem, *]; done))
        have g3_0_2 : w3.frozen? ⟨w.heap.size, 2, none⟩ = false := (b3.frozen (p := ⟨w.heap.size, 2, none⟩) (by first | (simp; done) | (simp; omega) | omega)).trans (by first | with_reducible assumption | (simp [go_sem]; done) | (simp [go_sem, *]; done))
        have k3_0_3 : w3.cell? ⟨w.heap.size, 3, none⟩ = some (.int .i64 (bY)) := (b3.cell (p := ⟨w.heap.size, 3, none⟩) (by first | (simp; done) | (simp; omega) | omega)).trans (by first | with_reducible assumption | (simp [go_sem]; done) | (simp [go_sem, *]; done))
        have g3_0_3 : w3.frozen? ⟨w.heap.size, 3, none⟩ = false := (b3.frozen (p := ⟨w.heap.size, 3, none⟩) (by first | (simp; done) | (simp; omega) | omega)).trans (by first | with_reducible assumption | (simp [go_sem]; done) | (simp [go_sem, *]; done))
        have z3_1 : w.heap.size + 1 < w3.heap.size := by omega
        have k3_1_0 : w3.cell? ⟨w.heap.size + 1, 0, none⟩ = some (.int .i64 (x)) := (b3.cell (p := ⟨w.heap.size + 1, 0, none⟩) (by first | (simp; done) | (simp; omega) | omega)).trans (by first | with_reducible assumption | (simp [go_sem]; done) | (simp [go_sem, *]; done))
        have g3_1_0 : w3.frozen? ⟨w.heap.size + 1, 0, none⟩ = false := (b3.frozen (p := ⟨w.heap.size + 1, 0, none⟩) (by first | (simp; done) | (simp; omega) | omega)).trans (by first | with_reducible assumption | (simp [go_sem]; done) | (simp [go_sem, *]; done))
        have k3_1_1 : w3.cell? ⟨w.heap.size + 1, 1, none⟩ = some (.int .i64 (y)) := (b3.cell (p := ⟨w.heap.size + 1, 1, none⟩) (by first | (simp; done) | (simp; omega) | omega)).trans (by first | with_reducible assumption | (simp [go_sem]; done) | (simp [go_sem, *]; done))
        have g3_1_1 : w3.frozen? ⟨w.heap.size + 1, 1, none⟩ = false := (b3.frozen (p := ⟨w.heap.size + 1, 1, none⟩) (by first | (simp; done) | (simp; omega) | omega)).trans (by first | with_reducible assumption | (simp [go_sem]; done) | (simp [go_sem, *]; done))
        clear k2_0_0 g2_0_0 k2_0_1 g2_0_1 k2_0_2 g2_0_2 k2_0_3 g2_0_3 k2_1_0 g2_1_0 k2_1_1 g2_1_1
        go_wp2_with fail
        refine (K5.out _).mono ?_
        rintro e w' ⟨rfl, rfl⟩
        go_wp2
        go_ret
        exact ⟨rfl, (by (repeat (first | with_reducible exact Below.refl _ _ | with_reducible refine bl_alloc ?_ _ | with_reducible refine bl_drew ?_ | with_reducible refine bl_set ?_ (by first | (simp; done) | (simp; omega)) _ | with_reducible refine bl_call (by assumption) ?_)))⟩

end Go.Proofs.Ytkhocfoggjdccaa
