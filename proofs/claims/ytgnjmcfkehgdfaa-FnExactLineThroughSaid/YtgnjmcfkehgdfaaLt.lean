/- Contracts of functions that this seat's statements reach: each is shown to compute a plain Lean function, and to leave what was there as it was. No conditions but those in each theorem. -/
import Derived.Test.YtgnjmcfkehgdfaaB1
import Derived.Test.YtgnjmcfkehgdfaaPlainL4
import Derived.Test.YtgnjmcfkehgdfaaGn
namespace Go.Proofs.Ytgnjmcfkehgdfaa
open Go.RowKit
set_option linter.unusedVariables false

open Go.Sort

set_option maxHeartbeats 4000000 in
theorem spec_lineThrough (aX : Int) (aY : Int) (bX : Int) (bY : Int) (w : World) (haX : -1000 ≤ aX ∧ aX ≤ 1000) (haY : -1000 ≤ aY ∧ aY ≤ 1000) (hbX : -1000 ≤ bX ∧ bX ≤ 1000) (hbY : -1000 ≤ bY ∧ bY ≤ 1000) (hne : ¬ (aX = bX ∧ aY = bY)) :
    Calls Try.prog 41 #[.agg #[.int .i64 aX, .int .i64 aY], .agg #[.int .i64 bX, .int .i64 bY]] w fun e w' => e = .returned (.agg #[.int .i64 (ltA aX aY bX bY), .int .i64 (ltB aX aY bX bY), .int .i64 (ltC aX aY bX bY)]) ∧ Below w.heap.size w w' := by
  by_cases c1 : bY - aY < 0
  · obtain ⟨m1l, m1u⟩ := mul_bd (bY - aY) aX 2000 1000 (by omega) (by omega) (by omega) (by omega)
    obtain ⟨m2l, m2u⟩ := mul_bd (aX - bX) aY 2000 1000 (by omega) (by omega) (by omega) (by omega)
    obtain ⟨laX, uaX⟩ := haX
    obtain ⟨laY, uaY⟩ := haY
    obtain ⟨lbX, ubX⟩ := hbX
    obtain ⟨lbY, ubY⟩ := hbY
    have hn : bY - aY < 0 ∨ (bY - aY = 0 ∧ aX - bX < 0) := by omega
    have n1 : bY < aY := by omega
    obtain ⟨e1, e2, e3, -, -⟩ := lt_neg aX aY bX bY hne hn
    have hg := lt_gcd_neg (bY - aY) (aX - bX) aX aY
    have gp := gcd_pos2 (bY - aY) (aX - bX) (by omega)
    have gu := gcdI_le (bY - aY) (aX - bX) 2000 (by omega) (by omega)
    obtain ⟨t1l, t1u⟩ := tdiv_bd (-(bY - aY)) (gcdI (bY - aY) (aX - bX)) 2000 (by omega)
    obtain ⟨t2l, t2u⟩ := tdiv_bd (-(aX - bX)) (gcdI (bY - aY) (aX - bX)) 2000 (by omega)
    obtain ⟨t3l, t3u⟩ := tdiv_bd (-((bY - aY) * aX + (aX - bX) * aY)) (gcdI (bY - aY) (aX - bX)) 4000000 (by omega)
    have ib0 := iabs_nn1 (-(aX - bX))
    have ib1 : iabs (-(aX - bX)) ≤ 2000 := by unfold iabs; omega
    have ic0 := iabs_nn1 (-((bY - aY) * aX + (aX - bX) * aY))
    have ic1 : iabs (-((bY - aY) * aX + (aX - bX) * aY)) ≤ 4000000 := by unfold iabs; omega
    have g10 := gcdI_nonneg (-(bY - aY)) (iabs (-(aX - bX)))
    have g11 := gcdI_le (-(bY - aY)) (iabs (-(aX - bX))) 2000 (by omega) (by omega)
    have K1 : Hid (∀ W : World, Calls Try.prog 80 #[.int .i64 (-(aX - bX))] W fun e w' => e = .returned (.int .i64 (iabs (-(aX - bX)))) ∧ W = w') := Lib.hid fun W => by
      have h := spec_abs (-(aX - bX)) W (by omega) (by omega)
      exact h
    have K2 : Hid (∀ W : World, Calls Try.prog 79 #[.int .i64 (-(bY - aY)), .int .i64 (iabs (-(aX - bX)))] W fun e w' => e = .returned (.int .i64 (gcdI (-(bY - aY)) (iabs (-(aX - bX))))) ∧ W = w') := Lib.hid fun W => by
      have h := spec_gcd (-(bY - aY)) (iabs (-(aX - bX))) W (by omega) (by omega) (by omega) (by omega)
      exact h
    have K3 : Hid (∀ W : World, Calls Try.prog 80 #[.int .i64 (-((bY - aY) * aX + (aX - bX) * aY))] W fun e w' => e = .returned (.int .i64 (iabs (-((bY - aY) * aX + (aX - bX) * aY)))) ∧ W = w') := Lib.hid fun W => by
      have h := spec_abs (-((bY - aY) * aX + (aX - bX) * aY)) W (by omega) (by omega)
      exact h
    have K4 : Hid (∀ W : World, Calls Try.prog 79 #[.int .i64 (gcdI (-(bY - aY)) (iabs (-(aX - bX)))), .int .i64 (iabs (-((bY - aY) * aX + (aX - bX) * aY)))] W fun e w' => e = .returned (.int .i64 (gcdI (bY - aY) (aX - bX))) ∧ W = w') := Lib.hid fun W => by
      have h := spec_gcd (gcdI (-(bY - aY)) (iabs (-(aX - bX)))) (iabs (-((bY - aY) * aX + (aX - bX) * aY))) W (by omega) (by omega) (by omega) (by omega)
      rw [hg] at h
      exact h
    have d1 := Int.tdiv_eq_ediv_of_dvd (gcdI_dvd1 (bY - aY) (aX - bX))
    have d2 := Int.tdiv_eq_ediv_of_dvd (gcdI_dvd2 (bY - aY) (aX - bX))
    clear hg hne hn d1 d2
    generalize gcdI (-(bY - aY)) (iabs (-(aX - bX))) = G1 at *
    generalize iabs (-(aX - bX)) = IB at *
    generalize iabs (-((bY - aY) * aX + (aX - bX) * aY)) = IC at *
    generalize gcdI (bY - aY) (aX - bX) = G at *
    have q1 : -2000 ≤ ltA aX aY bX bY ∧ ltA aX aY bX bY ≤ 2000 := by rw [← e1]; exact ⟨t1l, t1u⟩
    obtain ⟨q1a, q1b⟩ := q1
    have q2 : -2000 ≤ ltB aX aY bX bY ∧ ltB aX aY bX bY ≤ 2000 := by rw [← e2]; exact ⟨t2l, t2u⟩
    obtain ⟨q2a, q2b⟩ := q2
    have q3 : -4000000 ≤ ltC aX aY bX bY ∧ ltC aX aY bX bY ≤ 4000000 := by rw [← e3]; exact ⟨t3l, t3u⟩
    obtain ⟨q3a, q3b⟩ := q3
    rw [Int.neg_tdiv] at e1 e2 e3
    have E1 := Lib.hid e1
    have E2 := Lib.hid e2
    have E3 := Lib.hid e3
    clear e1 e2 e3
    have gnz : ¬ G = 0 := by omega
    go_enter Try.func41, Try.ntmps41
    go_wp2
    have kc0 := cell_regrown (w := ((((w.alloc (Obj.cells #[.int .i64 (aX), .int .i64 (aY)] 28)).alloc (Obj.cells #[.int .i64 (bX), .int .i64 (bY)] 28)).alloc (Obj.cells #[.int .i64 (0), .int .i64 (0), .int .i64 (0)] 25)).alloc (Obj.cells #[.int .i64 (-(bY - aY)), .int .i64 (-(aX - bX)), .int .i64 (-((bY - aY) * aX + (aX - bX) * aY))] 25))) (a := ⟨w.heap.size, 0, none⟩) (v := .int .i64 (aX)) (by first | ((repeat (first | with_reducible assumption | with_reducible refine calloc ?_ _)); done) | (simp [go_sem]; done) | (simp [go_sem, *]; done))
    have kc1 := cell_regrown (w := ((((w.alloc (Obj.cells #[.int .i64 (aX), .int .i64 (aY)] 28)).alloc (Obj.cells #[.int .i64 (bX), .int .i64 (bY)] 28)).alloc (Obj.cells #[.int .i64 (0), .int .i64 (0), .int .i64 (0)] 25)).alloc (Obj.cells #[.int .i64 (-(bY - aY)), .int .i64 (-(aX - bX)), .int .i64 (-((bY - aY) * aX + (aX - bX) * aY))] 25))) (a := ⟨w.heap.size, 1, none⟩) (v := .int .i64 (aY)) (by first | ((repeat (first | with_reducible assumption | with_reducible refine calloc ?_ _)); done) | (simp [go_sem]; done) | (simp [go_sem, *]; done))
    have kc2 := cell_regrown (w := ((((w.alloc (Obj.cells #[.int .i64 (aX), .int .i64 (aY)] 28)).alloc (Obj.cells #[.int .i64 (bX), .int .i64 (bY)] 28)).alloc (Obj.cells #[.int .i64 (0), .int .i64 (0), .int .i64 (0)] 25)).alloc (Obj.cells #[.int .i64 (-(bY - aY)), .int .i64 (-(aX - bX)), .int .i64 (-((bY - aY) * aX + (aX - bX) * aY))] 25))) (a := ⟨w.heap.size + 1, 0, none⟩) (v := .int .i64 (bX)) (by first | ((repeat (first | with_reducible assumption | with_reducible refine calloc ?_ _)); done) | (simp [go_sem]; done) | (simp [go_sem, *]; done))
    have kc3 := cell_regrown (w := ((((w.alloc (Obj.cells #[.int .i64 (aX), .int .i64 (aY)] 28)).alloc (Obj.cells #[.int .i64 (bX), .int .i64 (bY)] 28)).alloc (Obj.cells #[.int .i64 (0), .int .i64 (0), .int .i64 (0)] 25)).alloc (Obj.cells #[.int .i64 (-(bY - aY)), .int .i64 (-(aX - bX)), .int .i64 (-((bY - aY) * aX + (aX - bX) * aY))] 25))) (a := ⟨w.heap.size + 1, 1, none⟩) (v := .int .i64 (bY)) (by first | ((repeat (first | with_reducible assumption | with_reducible refine calloc ?_ _)); done) | (simp [go_sem]; done) | (simp [go_sem, *]; done))
    have kc4 := cell_regrown (w := ((((w.alloc (Obj.cells #[.int .i64 (aX), .int .i64 (aY)] 28)).alloc (Obj.cells #[.int .i64 (bX), .int .i64 (bY)] 28)).alloc (Obj.cells #[.int .i64 (0), .int .i64 (0), .int .i64 (0)] 25)).alloc (Obj.cells #[.int .i64 (-(bY - aY)), .int .i64 (-(aX - bX)), .int .i64 (-((bY - aY) * aX + (aX - bX) * aY))] 25))) (a := ⟨w.heap.size + 1 + 1, 0, none⟩) (v := .int .i64 (0)) (by first | ((repeat (first | with_reducible assumption | with_reducible refine calloc ?_ _)); done) | (simp [go_sem]; done) | (simp [go_sem, *]; done))
    have kc5 := cell_regrown (w := ((((w.alloc (Obj.cells #[.int .i64 (aX), .int .i64 (aY)] 28)).alloc (Obj.cells #[.int .i64 (bX), .int .i64 (bY)] 28)).alloc (Obj.cells #[.int .i64 (0), .int .i64 (0), .int .i64 (0)] 25)).alloc (Obj.cells #[.int .i64 (-(bY - aY)), .int .i64 (-(aX - bX)), .int .i64 (-((bY - aY) * aX + (aX - bX) * aY))] 25))) (a := ⟨w.heap.size + 1 + 1, 1, none⟩) (v := .int .i64 (0)) (by first | ((repeat (first | with_reducible assumption | with_reducible refine calloc ?_ _)); done) | (simp [go_sem]; done) | (simp [go_sem, *]; done))
    have kc6 := cell_regrown (w := ((((w.alloc (Obj.cells #[.int .i64 (aX), .int .i64 (aY)] 28)).alloc (Obj.cells #[.int .i64 (bX), .int .i64 (bY)] 28)).alloc (Obj.cells #[.int .i64 (0), .int .i64 (0), .int .i64 (0)] 25)).alloc (Obj.cells #[.int .i64 (-(bY - aY)), .int .i64 (-(aX - bX)), .int .i64 (-((bY - aY) * aX + (aX - bX) * aY))] 25))) (a := ⟨w.heap.size + 1 + 1, 2, none⟩) (v := .int .i64 (0)) (by first | ((repeat (first | with_reducible assumption | with_reducible refine calloc ?_ _)); done) | (simp [go_sem]; done) | (simp [go_sem, *]; done))
    have kc7 := cell_regrown (w := ((((w.alloc (Obj.cells #[.int .i64 (aX), .int .i64 (aY)] 28)).alloc (Obj.cells #[.int .i64 (bX), .int .i64 (bY)] 28)).alloc (Obj.cells #[.int .i64 (0), .int .i64 (0), .int .i64 (0)] 25)).alloc (Obj.cells #[.int .i64 (-(bY - aY)), .int .i64 (-(aX - bX)), .int .i64 (-((bY - aY) * aX + (aX - bX) * aY))] 25))) (a := ⟨w.heap.size + 1 + 1 + 1, 0, none⟩) (v := .int .i64 (-(bY - aY))) (by first | ((repeat (first | with_reducible assumption | with_reducible refine calloc ?_ _)); done) | (simp [go_sem]; done) | (simp [go_sem, *]; done))
    have kc8 := cell_regrown (w := ((((w.alloc (Obj.cells #[.int .i64 (aX), .int .i64 (aY)] 28)).alloc (Obj.cells #[.int .i64 (bX), .int .i64 (bY)] 28)).alloc (Obj.cells #[.int .i64 (0), .int .i64 (0), .int .i64 (0)] 25)).alloc (Obj.cells #[.int .i64 (-(bY - aY)), .int .i64 (-(aX - bX)), .int .i64 (-((bY - aY) * aX + (aX - bX) * aY))] 25))) (a := ⟨w.heap.size + 1 + 1 + 1, 1, none⟩) (v := .int .i64 (-(aX - bX))) (by first | ((repeat (first | with_reducible assumption | with_reducible refine calloc ?_ _)); done) | (simp [go_sem]; done) | (simp [go_sem, *]; done))
    have kc9 := cell_regrown (w := ((((w.alloc (Obj.cells #[.int .i64 (aX), .int .i64 (aY)] 28)).alloc (Obj.cells #[.int .i64 (bX), .int .i64 (bY)] 28)).alloc (Obj.cells #[.int .i64 (0), .int .i64 (0), .int .i64 (0)] 25)).alloc (Obj.cells #[.int .i64 (-(bY - aY)), .int .i64 (-(aX - bX)), .int .i64 (-((bY - aY) * aX + (aX - bX) * aY))] 25))) (a := ⟨w.heap.size + 1 + 1 + 1, 2, none⟩) (v := .int .i64 (-((bY - aY) * aX + (aX - bX) * aY))) (by first | ((repeat (first | with_reducible assumption | with_reducible refine calloc ?_ _)); done) | (simp [go_sem]; done) | (simp [go_sem, *]; done))
    refine wp_region_quiet_below (by kernel_rfl) (by kernel_rfl) ?_
    repeat (go_big_quiet_step ((first | (go_at_call 80; with_reducible exact Calls.regrown_of (qb_same (K1.out _))) | (go_at_call 79; with_reducible exact Calls.regrown_of (qb_same (K2.out _))) | (go_at_call 80; with_reducible exact Calls.regrown_of (qb_same (K3.out _))) | (go_at_call 79; with_reducible exact Calls.regrown_of (qb_same (K4.out _))))))
    refine wpQuiet_nil ?_
    intro w1 hw'
    have b1 : Below ((((w.alloc (Obj.cells #[.int .i64 (aX), .int .i64 (aY)] 28)).alloc (Obj.cells #[.int .i64 (bX), .int .i64 (bY)] 28)).alloc (Obj.cells #[.int .i64 (0), .int .i64 (0), .int .i64 (0)] 25)).alloc (Obj.cells #[.int .i64 (-(bY - aY)), .int .i64 (-(aX - bX)), .int .i64 (-((bY - aY) * aX + (aX - bX) * aY))] 25)).heap.size ((((w.alloc (Obj.cells #[.int .i64 (aX), .int .i64 (aY)] 28)).alloc (Obj.cells #[.int .i64 (bX), .int .i64 (bY)] 28)).alloc (Obj.cells #[.int .i64 (0), .int .i64 (0), .int .i64 (0)] 25)).alloc (Obj.cells #[.int .i64 (-(bY - aY)), .int .i64 (-(aX - bX)), .int .i64 (-((bY - aY) * aX + (aX - bX) * aY))] 25)) w1 := by
      obtain ⟨pp, rfl⟩ := hw'
      exact below_regrown _ _ _
    clear hw' kc0 kc1 kc2 kc3 kc4 kc5 kc6 kc7 kc8 kc9
    have s1 := b1.size
    try simp at s1
    have z1_0 : w.heap.size < w1.heap.size := by omega
    have k1_0_0 : w1.cell? ⟨w.heap.size, 0, none⟩ = some (.int .i64 (aX)) := (b1.cell (p := ⟨w.heap.size, 0, none⟩) (by first | (simp; done) | (simp; omega) | omega)).trans (by first | with_reducible assumption | (simp [go_sem]; done) | (simp [go_sem, *]; done))
    have g1_0_0 : w1.frozen? ⟨w.heap.size, 0, none⟩ = false := (b1.frozen (p := ⟨w.heap.size, 0, none⟩) (by first | (simp; done) | (simp; omega) | omega)).trans (by first | with_reducible assumption | (simp [go_sem]; done) | (simp [go_sem, *]; done))
    have k1_0_1 : w1.cell? ⟨w.heap.size, 1, none⟩ = some (.int .i64 (aY)) := (b1.cell (p := ⟨w.heap.size, 1, none⟩) (by first | (simp; done) | (simp; omega) | omega)).trans (by first | with_reducible assumption | (simp [go_sem]; done) | (simp [go_sem, *]; done))
    have g1_0_1 : w1.frozen? ⟨w.heap.size, 1, none⟩ = false := (b1.frozen (p := ⟨w.heap.size, 1, none⟩) (by first | (simp; done) | (simp; omega) | omega)).trans (by first | with_reducible assumption | (simp [go_sem]; done) | (simp [go_sem, *]; done))
    have z1_1 : w.heap.size + 1 < w1.heap.size := by omega
    have k1_1_0 : w1.cell? ⟨w.heap.size + 1, 0, none⟩ = some (.int .i64 (bX)) := (b1.cell (p := ⟨w.heap.size + 1, 0, none⟩) (by first | (simp; done) | (simp; omega) | omega)).trans (by first | with_reducible assumption | (simp [go_sem]; done) | (simp [go_sem, *]; done))
    have g1_1_0 : w1.frozen? ⟨w.heap.size + 1, 0, none⟩ = false := (b1.frozen (p := ⟨w.heap.size + 1, 0, none⟩) (by first | (simp; done) | (simp; omega) | omega)).trans (by first | with_reducible assumption | (simp [go_sem]; done) | (simp [go_sem, *]; done))
    have k1_1_1 : w1.cell? ⟨w.heap.size + 1, 1, none⟩ = some (.int .i64 (bY)) := (b1.cell (p := ⟨w.heap.size + 1, 1, none⟩) (by first | (simp; done) | (simp; omega) | omega)).trans (by first | with_reducible assumption | (simp [go_sem]; done) | (simp [go_sem, *]; done))
    have g1_1_1 : w1.frozen? ⟨w.heap.size + 1, 1, none⟩ = false := (b1.frozen (p := ⟨w.heap.size + 1, 1, none⟩) (by first | (simp; done) | (simp; omega) | omega)).trans (by first | with_reducible assumption | (simp [go_sem]; done) | (simp [go_sem, *]; done))
    have z1_2 : w.heap.size + 1 + 1 < w1.heap.size := by omega
    have k1_2_0 : w1.cell? ⟨w.heap.size + 1 + 1, 0, none⟩ = some (.int .i64 (0)) := (b1.cell (p := ⟨w.heap.size + 1 + 1, 0, none⟩) (by first | (simp; done) | (simp; omega) | omega)).trans (by first | with_reducible assumption | (simp [go_sem]; done) | (simp [go_sem, *]; done))
    have g1_2_0 : w1.frozen? ⟨w.heap.size + 1 + 1, 0, none⟩ = false := (b1.frozen (p := ⟨w.heap.size + 1 + 1, 0, none⟩) (by first | (simp; done) | (simp; omega) | omega)).trans (by first | with_reducible assumption | (simp [go_sem]; done) | (simp [go_sem, *]; done))
    have k1_2_1 : w1.cell? ⟨w.heap.size + 1 + 1, 1, none⟩ = some (.int .i64 (0)) := (b1.cell (p := ⟨w.heap.size + 1 + 1, 1, none⟩) (by first | (simp; done) | (simp; omega) | omega)).trans (by first | with_reducible assumption | (simp [go_sem]; done) | (simp [go_sem, *]; done))
    have g1_2_1 : w1.frozen? ⟨w.heap.size + 1 + 1, 1, none⟩ = false := (b1.frozen (p := ⟨w.heap.size + 1 + 1, 1, none⟩) (by first | (simp; done) | (simp; omega) | omega)).trans (by first | with_reducible assumption | (simp [go_sem]; done) | (simp [go_sem, *]; done))
    have k1_2_2 : w1.cell? ⟨w.heap.size + 1 + 1, 2, none⟩ = some (.int .i64 (0)) := (b1.cell (p := ⟨w.heap.size + 1 + 1, 2, none⟩) (by first | (simp; done) | (simp; omega) | omega)).trans (by first | with_reducible assumption | (simp [go_sem]; done) | (simp [go_sem, *]; done))
    have g1_2_2 : w1.frozen? ⟨w.heap.size + 1 + 1, 2, none⟩ = false := (b1.frozen (p := ⟨w.heap.size + 1 + 1, 2, none⟩) (by first | (simp; done) | (simp; omega) | omega)).trans (by first | with_reducible assumption | (simp [go_sem]; done) | (simp [go_sem, *]; done))
    have z1_3 : w.heap.size + 1 + 1 + 1 < w1.heap.size := by omega
    have k1_3_0 : w1.cell? ⟨w.heap.size + 1 + 1 + 1, 0, none⟩ = some (.int .i64 (-(bY - aY))) := (b1.cell (p := ⟨w.heap.size + 1 + 1 + 1, 0, none⟩) (by first | (simp; done) | (simp; omega) | omega)).trans (by first | with_reducible assumption | (simp [go_sem]; done) | (simp [go_sem, *]; done))
    have g1_3_0 : w1.frozen? ⟨w.heap.size + 1 + 1 + 1, 0, none⟩ = false := (b1.frozen (p := ⟨w.heap.size + 1 + 1 + 1, 0, none⟩) (by first | (simp; done) | (simp; omega) | omega)).trans (by first | with_reducible assumption | (simp [go_sem]; done) | (simp [go_sem, *]; done))
    have k1_3_1 : w1.cell? ⟨w.heap.size + 1 + 1 + 1, 1, none⟩ = some (.int .i64 (-(aX - bX))) := (b1.cell (p := ⟨w.heap.size + 1 + 1 + 1, 1, none⟩) (by first | (simp; done) | (simp; omega) | omega)).trans (by first | with_reducible assumption | (simp [go_sem]; done) | (simp [go_sem, *]; done))
    have g1_3_1 : w1.frozen? ⟨w.heap.size + 1 + 1 + 1, 1, none⟩ = false := (b1.frozen (p := ⟨w.heap.size + 1 + 1 + 1, 1, none⟩) (by first | (simp; done) | (simp; omega) | omega)).trans (by first | with_reducible assumption | (simp [go_sem]; done) | (simp [go_sem, *]; done))
    have k1_3_2 : w1.cell? ⟨w.heap.size + 1 + 1 + 1, 2, none⟩ = some (.int .i64 (-((bY - aY) * aX + (aX - bX) * aY))) := (b1.cell (p := ⟨w.heap.size + 1 + 1 + 1, 2, none⟩) (by first | (simp; done) | (simp; omega) | omega)).trans (by first | with_reducible assumption | (simp [go_sem]; done) | (simp [go_sem, *]; done))
    have g1_3_2 : w1.frozen? ⟨w.heap.size + 1 + 1 + 1, 2, none⟩ = false := (b1.frozen (p := ⟨w.heap.size + 1 + 1 + 1, 2, none⟩) (by first | (simp; done) | (simp; omega) | omega)).trans (by first | with_reducible assumption | (simp [go_sem]; done) | (simp [go_sem, *]; done))
    go_wp2
    have A3_0 : ∀ w', HldHi (w.heap.size + 1 + 1 + 1) w1 w' → w'.cell? ⟨w.heap.size + 1 + 1 + 1, 0, none⟩ = some (.int .i64 (-(bY - aY))) := fun w' h => h.cell (by omega) (by first | omega | (simp; done) | (simp; omega)) (by first | with_reducible assumption | (simp [go_sem]; done) | (simp [go_sem, *]; done))
    have A3_1 : ∀ w', HldHi (w.heap.size + 1 + 1 + 1) w1 w' → w'.cell? ⟨w.heap.size + 1 + 1 + 1, 1, none⟩ = some (.int .i64 (-(aX - bX))) := fun w' h => h.cell (by omega) (by first | omega | (simp; done) | (simp; omega)) (by first | with_reducible assumption | (simp [go_sem]; done) | (simp [go_sem, *]; done))
    have A3_2 : ∀ w', HldHi (w.heap.size + 1 + 1 + 1) w1 w' → w'.cell? ⟨w.heap.size + 1 + 1 + 1, 2, none⟩ = some (.int .i64 (-((bY - aY) * aX + (aX - bX) * aY))) := fun w' h => h.cell (by omega) (by first | omega | (simp; done) | (simp; omega)) (by first | with_reducible assumption | (simp [go_sem]; done) | (simp [go_sem, *]; done))
    have Y2_0 : w1.cell? ⟨w.heap.size + 1 + 1, 0, none⟩ = some (.int .i64 (0)) := by first | with_reducible assumption | (simp [go_sem]; done) | (simp [go_sem, *]; done)
    have X2_0 : w1.frozen? ⟨w.heap.size + 1 + 1, 0, none⟩ = false := by first | with_reducible assumption | (simp [go_sem]; done) | (simp [go_sem, *]; done)
    have Y2_1 : w1.cell? ⟨w.heap.size + 1 + 1, 1, none⟩ = some (.int .i64 (0)) := by first | with_reducible assumption | (simp [go_sem]; done) | (simp [go_sem, *]; done)
    have X2_1 : w1.frozen? ⟨w.heap.size + 1 + 1, 1, none⟩ = false := by first | with_reducible assumption | (simp [go_sem]; done) | (simp [go_sem, *]; done)
    have Y2_2 : w1.cell? ⟨w.heap.size + 1 + 1, 2, none⟩ = some (.int .i64 (0)) := by first | with_reducible assumption | (simp [go_sem]; done) | (simp [go_sem, *]; done)
    have X2_2 : w1.frozen? ⟨w.heap.size + 1 + 1, 2, none⟩ = false := by first | with_reducible assumption | (simp [go_sem]; done) | (simp [go_sem, *]; done)
    go_region_held3 (fun w' => HldHi (w.heap.size + 1 + 1 + 1) w1 w') ((repeat (first | with_reducible assumption | with_reducible exact HldHi.start _ _ | with_reducible exact HldHi.refl _ _ | with_reducible refine HldHi.drew ?_ | with_reducible refine HldHi.alloc ?_ _ | with_reducible refine HldHi.set ?_ (by dsimp only; omega) _ | with_reducible refine HldHi.setN ?_ (by first | (simp; done) | (simp; omega)) _))) (fail)
    all_goals go_wp2
    all_goals (refine bodyPost_ret (v := .agg #[.int .i64 (ltA aX aY bX bY), .int .i64 (ltB aX aY bX bY), .int .i64 (ltC aX aY bX bY)]) (by simp [results, Try.results41, go_sem, E1.out, E2.out, E3.out, IntWalk.i64_in (ltA aX aY bX bY) (by omega), IntWalk.i64_in (ltB aX aY bX bY) (by omega), IntWalk.i64_in (ltC aX aY bX bY) (by omega), *]) rfl ⟨rfl, ?_⟩)
    all_goals (repeat (first | with_reducible exact Below.refl _ _ | with_reducible refine bl_alloc ?_ _ | with_reducible refine bl_drew ?_ | with_reducible refine bl_set ?_ (by first | (simp; done) | (simp; omega)) _ | with_reducible refine bl_call (by assumption) ?_))
  · by_cases c2 : bY - aY = 0
    · by_cases c3 : aX - bX < 0
      · obtain ⟨m1l, m1u⟩ := mul_bd (bY - aY) aX 2000 1000 (by omega) (by omega) (by omega) (by omega)
        obtain ⟨m2l, m2u⟩ := mul_bd (aX - bX) aY 2000 1000 (by omega) (by omega) (by omega) (by omega)
        obtain ⟨laX, uaX⟩ := haX
        obtain ⟨laY, uaY⟩ := haY
        obtain ⟨lbX, ubX⟩ := hbX
        obtain ⟨lbY, ubY⟩ := hbY
        have hn : bY - aY < 0 ∨ (bY - aY = 0 ∧ aX - bX < 0) := by omega
        have n2 : (bY - aY == 0) = true := by simp [c2]
        have n1 : ¬ bY < aY := by omega
        have n3 : aX < bX := by omega
        clear c2
        obtain ⟨e1, e2, e3, -, -⟩ := lt_neg aX aY bX bY hne hn
        have hg := lt_gcd_neg (bY - aY) (aX - bX) aX aY
        have gp := gcd_pos2 (bY - aY) (aX - bX) (by omega)
        have gu := gcdI_le (bY - aY) (aX - bX) 2000 (by omega) (by omega)
        obtain ⟨t1l, t1u⟩ := tdiv_bd (-(bY - aY)) (gcdI (bY - aY) (aX - bX)) 2000 (by omega)
        obtain ⟨t2l, t2u⟩ := tdiv_bd (-(aX - bX)) (gcdI (bY - aY) (aX - bX)) 2000 (by omega)
        obtain ⟨t3l, t3u⟩ := tdiv_bd (-((bY - aY) * aX + (aX - bX) * aY)) (gcdI (bY - aY) (aX - bX)) 4000000 (by omega)
        have ib0 := iabs_nn1 (-(aX - bX))
        have ib1 : iabs (-(aX - bX)) ≤ 2000 := by unfold iabs; omega
        have ic0 := iabs_nn1 (-((bY - aY) * aX + (aX - bX) * aY))
        have ic1 : iabs (-((bY - aY) * aX + (aX - bX) * aY)) ≤ 4000000 := by unfold iabs; omega
        have g10 := gcdI_nonneg (-(bY - aY)) (iabs (-(aX - bX)))
        have g11 := gcdI_le (-(bY - aY)) (iabs (-(aX - bX))) 2000 (by omega) (by omega)
        have K1 : Hid (∀ W : World, Calls Try.prog 80 #[.int .i64 (-(aX - bX))] W fun e w' => e = .returned (.int .i64 (iabs (-(aX - bX)))) ∧ W = w') := Lib.hid fun W => by
          have h := spec_abs (-(aX - bX)) W (by omega) (by omega)
          exact h
        have K2 : Hid (∀ W : World, Calls Try.prog 79 #[.int .i64 (-(bY - aY)), .int .i64 (iabs (-(aX - bX)))] W fun e w' => e = .returned (.int .i64 (gcdI (-(bY - aY)) (iabs (-(aX - bX))))) ∧ W = w') := Lib.hid fun W => by
          have h := spec_gcd (-(bY - aY)) (iabs (-(aX - bX))) W (by omega) (by omega) (by omega) (by omega)
          exact h
        have K3 : Hid (∀ W : World, Calls Try.prog 80 #[.int .i64 (-((bY - aY) * aX + (aX - bX) * aY))] W fun e w' => e = .returned (.int .i64 (iabs (-((bY - aY) * aX + (aX - bX) * aY)))) ∧ W = w') := Lib.hid fun W => by
          have h := spec_abs (-((bY - aY) * aX + (aX - bX) * aY)) W (by omega) (by omega)
          exact h
        have K4 : Hid (∀ W : World, Calls Try.prog 79 #[.int .i64 (gcdI (-(bY - aY)) (iabs (-(aX - bX)))), .int .i64 (iabs (-((bY - aY) * aX + (aX - bX) * aY)))] W fun e w' => e = .returned (.int .i64 (gcdI (bY - aY) (aX - bX))) ∧ W = w') := Lib.hid fun W => by
          have h := spec_gcd (gcdI (-(bY - aY)) (iabs (-(aX - bX)))) (iabs (-((bY - aY) * aX + (aX - bX) * aY))) W (by omega) (by omega) (by omega) (by omega)
          rw [hg] at h
          exact h
        have d1 := Int.tdiv_eq_ediv_of_dvd (gcdI_dvd1 (bY - aY) (aX - bX))
        have d2 := Int.tdiv_eq_ediv_of_dvd (gcdI_dvd2 (bY - aY) (aX - bX))
        clear hg hne hn d1 d2
        generalize gcdI (-(bY - aY)) (iabs (-(aX - bX))) = G1 at *
        generalize iabs (-(aX - bX)) = IB at *
        generalize iabs (-((bY - aY) * aX + (aX - bX) * aY)) = IC at *
        generalize gcdI (bY - aY) (aX - bX) = G at *
        have q1 : -2000 ≤ ltA aX aY bX bY ∧ ltA aX aY bX bY ≤ 2000 := by rw [← e1]; exact ⟨t1l, t1u⟩
        obtain ⟨q1a, q1b⟩ := q1
        have q2 : -2000 ≤ ltB aX aY bX bY ∧ ltB aX aY bX bY ≤ 2000 := by rw [← e2]; exact ⟨t2l, t2u⟩
        obtain ⟨q2a, q2b⟩ := q2
        have q3 : -4000000 ≤ ltC aX aY bX bY ∧ ltC aX aY bX bY ≤ 4000000 := by rw [← e3]; exact ⟨t3l, t3u⟩
        obtain ⟨q3a, q3b⟩ := q3
        rw [Int.neg_tdiv] at e1 e2 e3
        have E1 := Lib.hid e1
        have E2 := Lib.hid e2
        have E3 := Lib.hid e3
        clear e1 e2 e3
        have gnz : ¬ G = 0 := by omega
        go_enter Try.func41, Try.ntmps41
        go_wp2
        have kc0 := cell_regrown (w := ((((w.alloc (Obj.cells #[.int .i64 (aX), .int .i64 (aY)] 28)).alloc (Obj.cells #[.int .i64 (bX), .int .i64 (bY)] 28)).alloc (Obj.cells #[.int .i64 (0), .int .i64 (0), .int .i64 (0)] 25)).alloc (Obj.cells #[.int .i64 (-(bY - aY)), .int .i64 (-(aX - bX)), .int .i64 (-((bY - aY) * aX + (aX - bX) * aY))] 25))) (a := ⟨w.heap.size, 0, none⟩) (v := .int .i64 (aX)) (by first | ((repeat (first | with_reducible assumption | with_reducible refine calloc ?_ _)); done) | (simp [go_sem]; done) | (simp [go_sem, *]; done))
        have kc1 := cell_regrown (w := ((((w.alloc (Obj.cells #[.int .i64 (aX), .int .i64 (aY)] 28)).alloc (Obj.cells #[.int .i64 (bX), .int .i64 (bY)] 28)).alloc (Obj.cells #[.int .i64 (0), .int .i64 (0), .int .i64 (0)] 25)).alloc (Obj.cells #[.int .i64 (-(bY - aY)), .int .i64 (-(aX - bX)), .int .i64 (-((bY - aY) * aX + (aX - bX) * aY))] 25))) (a := ⟨w.heap.size, 1, none⟩) (v := .int .i64 (aY)) (by first | ((repeat (first | with_reducible assumption | with_reducible refine calloc ?_ _)); done) | (simp [go_sem]; done) | (simp [go_sem, *]; done))
        have kc2 := cell_regrown (w := ((((w.alloc (Obj.cells #[.int .i64 (aX), .int .i64 (aY)] 28)).alloc (Obj.cells #[.int .i64 (bX), .int .i64 (bY)] 28)).alloc (Obj.cells #[.int .i64 (0), .int .i64 (0), .int .i64 (0)] 25)).alloc (Obj.cells #[.int .i64 (-(bY - aY)), .int .i64 (-(aX - bX)), .int .i64 (-((bY - aY) * aX + (aX - bX) * aY))] 25))) (a := ⟨w.heap.size + 1, 0, none⟩) (v := .int .i64 (bX)) (by first | ((repeat (first | with_reducible assumption | with_reducible refine calloc ?_ _)); done) | (simp [go_sem]; done) | (simp [go_sem, *]; done))
        have kc3 := cell_regrown (w := ((((w.alloc (Obj.cells #[.int .i64 (aX), .int .i64 (aY)] 28)).alloc (Obj.cells #[.int .i64 (bX), .int .i64 (bY)] 28)).alloc (Obj.cells #[.int .i64 (0), .int .i64 (0), .int .i64 (0)] 25)).alloc (Obj.cells #[.int .i64 (-(bY - aY)), .int .i64 (-(aX - bX)), .int .i64 (-((bY - aY) * aX + (aX - bX) * aY))] 25))) (a := ⟨w.heap.size + 1, 1, none⟩) (v := .int .i64 (bY)) (by first | ((repeat (first | with_reducible assumption | with_reducible refine calloc ?_ _)); done) | (simp [go_sem]; done) | (simp [go_sem, *]; done))
        have kc4 := cell_regrown (w := ((((w.alloc (Obj.cells #[.int .i64 (aX), .int .i64 (aY)] 28)).alloc (Obj.cells #[.int .i64 (bX), .int .i64 (bY)] 28)).alloc (Obj.cells #[.int .i64 (0), .int .i64 (0), .int .i64 (0)] 25)).alloc (Obj.cells #[.int .i64 (-(bY - aY)), .int .i64 (-(aX - bX)), .int .i64 (-((bY - aY) * aX + (aX - bX) * aY))] 25))) (a := ⟨w.heap.size + 1 + 1, 0, none⟩) (v := .int .i64 (0)) (by first | ((repeat (first | with_reducible assumption | with_reducible refine calloc ?_ _)); done) | (simp [go_sem]; done) | (simp [go_sem, *]; done))
        have kc5 := cell_regrown (w := ((((w.alloc (Obj.cells #[.int .i64 (aX), .int .i64 (aY)] 28)).alloc (Obj.cells #[.int .i64 (bX), .int .i64 (bY)] 28)).alloc (Obj.cells #[.int .i64 (0), .int .i64 (0), .int .i64 (0)] 25)).alloc (Obj.cells #[.int .i64 (-(bY - aY)), .int .i64 (-(aX - bX)), .int .i64 (-((bY - aY) * aX + (aX - bX) * aY))] 25))) (a := ⟨w.heap.size + 1 + 1, 1, none⟩) (v := .int .i64 (0)) (by first | ((repeat (first | with_reducible assumption | with_reducible refine calloc ?_ _)); done) | (simp [go_sem]; done) | (simp [go_sem, *]; done))
        have kc6 := cell_regrown (w := ((((w.alloc (Obj.cells #[.int .i64 (aX), .int .i64 (aY)] 28)).alloc (Obj.cells #[.int .i64 (bX), .int .i64 (bY)] 28)).alloc (Obj.cells #[.int .i64 (0), .int .i64 (0), .int .i64 (0)] 25)).alloc (Obj.cells #[.int .i64 (-(bY - aY)), .int .i64 (-(aX - bX)), .int .i64 (-((bY - aY) * aX + (aX - bX) * aY))] 25))) (a := ⟨w.heap.size + 1 + 1, 2, none⟩) (v := .int .i64 (0)) (by first | ((repeat (first | with_reducible assumption | with_reducible refine calloc ?_ _)); done) | (simp [go_sem]; done) | (simp [go_sem, *]; done))
        have kc7 := cell_regrown (w := ((((w.alloc (Obj.cells #[.int .i64 (aX), .int .i64 (aY)] 28)).alloc (Obj.cells #[.int .i64 (bX), .int .i64 (bY)] 28)).alloc (Obj.cells #[.int .i64 (0), .int .i64 (0), .int .i64 (0)] 25)).alloc (Obj.cells #[.int .i64 (-(bY - aY)), .int .i64 (-(aX - bX)), .int .i64 (-((bY - aY) * aX + (aX - bX) * aY))] 25))) (a := ⟨w.heap.size + 1 + 1 + 1, 0, none⟩) (v := .int .i64 (-(bY - aY))) (by first | ((repeat (first | with_reducible assumption | with_reducible refine calloc ?_ _)); done) | (simp [go_sem]; done) | (simp [go_sem, *]; done))
        have kc8 := cell_regrown (w := ((((w.alloc (Obj.cells #[.int .i64 (aX), .int .i64 (aY)] 28)).alloc (Obj.cells #[.int .i64 (bX), .int .i64 (bY)] 28)).alloc (Obj.cells #[.int .i64 (0), .int .i64 (0), .int .i64 (0)] 25)).alloc (Obj.cells #[.int .i64 (-(bY - aY)), .int .i64 (-(aX - bX)), .int .i64 (-((bY - aY) * aX + (aX - bX) * aY))] 25))) (a := ⟨w.heap.size + 1 + 1 + 1, 1, none⟩) (v := .int .i64 (-(aX - bX))) (by first | ((repeat (first | with_reducible assumption | with_reducible refine calloc ?_ _)); done) | (simp [go_sem]; done) | (simp [go_sem, *]; done))
        have kc9 := cell_regrown (w := ((((w.alloc (Obj.cells #[.int .i64 (aX), .int .i64 (aY)] 28)).alloc (Obj.cells #[.int .i64 (bX), .int .i64 (bY)] 28)).alloc (Obj.cells #[.int .i64 (0), .int .i64 (0), .int .i64 (0)] 25)).alloc (Obj.cells #[.int .i64 (-(bY - aY)), .int .i64 (-(aX - bX)), .int .i64 (-((bY - aY) * aX + (aX - bX) * aY))] 25))) (a := ⟨w.heap.size + 1 + 1 + 1, 2, none⟩) (v := .int .i64 (-((bY - aY) * aX + (aX - bX) * aY))) (by first | ((repeat (first | with_reducible assumption | with_reducible refine calloc ?_ _)); done) | (simp [go_sem]; done) | (simp [go_sem, *]; done))
        refine wp_region_quiet_below (by kernel_rfl) (by kernel_rfl) ?_
        repeat (go_big_quiet_step ((first | (go_at_call 80; with_reducible exact Calls.regrown_of (qb_same (K1.out _))) | (go_at_call 79; with_reducible exact Calls.regrown_of (qb_same (K2.out _))) | (go_at_call 80; with_reducible exact Calls.regrown_of (qb_same (K3.out _))) | (go_at_call 79; with_reducible exact Calls.regrown_of (qb_same (K4.out _))))))
        refine wpQuiet_nil ?_
        intro w1 hw'
        have b1 : Below ((((w.alloc (Obj.cells #[.int .i64 (aX), .int .i64 (aY)] 28)).alloc (Obj.cells #[.int .i64 (bX), .int .i64 (bY)] 28)).alloc (Obj.cells #[.int .i64 (0), .int .i64 (0), .int .i64 (0)] 25)).alloc (Obj.cells #[.int .i64 (-(bY - aY)), .int .i64 (-(aX - bX)), .int .i64 (-((bY - aY) * aX + (aX - bX) * aY))] 25)).heap.size ((((w.alloc (Obj.cells #[.int .i64 (aX), .int .i64 (aY)] 28)).alloc (Obj.cells #[.int .i64 (bX), .int .i64 (bY)] 28)).alloc (Obj.cells #[.int .i64 (0), .int .i64 (0), .int .i64 (0)] 25)).alloc (Obj.cells #[.int .i64 (-(bY - aY)), .int .i64 (-(aX - bX)), .int .i64 (-((bY - aY) * aX + (aX - bX) * aY))] 25)) w1 := by
          obtain ⟨pp, rfl⟩ := hw'
          exact below_regrown _ _ _
        clear hw' kc0 kc1 kc2 kc3 kc4 kc5 kc6 kc7 kc8 kc9
        have s1 := b1.size
        try simp at s1
        have z1_0 : w.heap.size < w1.heap.size := by omega
        have k1_0_0 : w1.cell? ⟨w.heap.size, 0, none⟩ = some (.int .i64 (aX)) := (b1.cell (p := ⟨w.heap.size, 0, none⟩) (by first | (simp; done) | (simp; omega) | omega)).trans (by first | with_reducible assumption | (simp [go_sem]; done) | (simp [go_sem, *]; done))
        have g1_0_0 : w1.frozen? ⟨w.heap.size, 0, none⟩ = false := (b1.frozen (p := ⟨w.heap.size, 0, none⟩) (by first | (simp; done) | (simp; omega) | omega)).trans (by first | with_reducible assumption | (simp [go_sem]; done) | (simp [go_sem, *]; done))
        have k1_0_1 : w1.cell? ⟨w.heap.size, 1, none⟩ = some (.int .i64 (aY)) := (b1.cell (p := ⟨w.heap.size, 1, none⟩) (by first | (simp; done) | (simp; omega) | omega)).trans (by first | with_reducible assumption | (simp [go_sem]; done) | (simp [go_sem, *]; done))
        have g1_0_1 : w1.frozen? ⟨w.heap.size, 1, none⟩ = false := (b1.frozen (p := ⟨w.heap.size, 1, none⟩) (by first | (simp; done) | (simp; omega) | omega)).trans (by first | with_reducible assumption | (simp [go_sem]; done) | (simp [go_sem, *]; done))
        have z1_1 : w.heap.size + 1 < w1.heap.size := by omega
        have k1_1_0 : w1.cell? ⟨w.heap.size + 1, 0, none⟩ = some (.int .i64 (bX)) := (b1.cell (p := ⟨w.heap.size + 1, 0, none⟩) (by first | (simp; done) | (simp; omega) | omega)).trans (by first | with_reducible assumption | (simp [go_sem]; done) | (simp [go_sem, *]; done))
        have g1_1_0 : w1.frozen? ⟨w.heap.size + 1, 0, none⟩ = false := (b1.frozen (p := ⟨w.heap.size + 1, 0, none⟩) (by first | (simp; done) | (simp; omega) | omega)).trans (by first | with_reducible assumption | (simp [go_sem]; done) | (simp [go_sem, *]; done))
        have k1_1_1 : w1.cell? ⟨w.heap.size + 1, 1, none⟩ = some (.int .i64 (bY)) := (b1.cell (p := ⟨w.heap.size + 1, 1, none⟩) (by first | (simp; done) | (simp; omega) | omega)).trans (by first | with_reducible assumption | (simp [go_sem]; done) | (simp [go_sem, *]; done))
        have g1_1_1 : w1.frozen? ⟨w.heap.size + 1, 1, none⟩ = false := (b1.frozen (p := ⟨w.heap.size + 1, 1, none⟩) (by first | (simp; done) | (simp; omega) | omega)).trans (by first | with_reducible assumption | (simp [go_sem]; done) | (simp [go_sem, *]; done))
        have z1_2 : w.heap.size + 1 + 1 < w1.heap.size := by omega
        have k1_2_0 : w1.cell? ⟨w.heap.size + 1 + 1, 0, none⟩ = some (.int .i64 (0)) := (b1.cell (p := ⟨w.heap.size + 1 + 1, 0, none⟩) (by first | (simp; done) | (simp; omega) | omega)).trans (by first | with_reducible assumption | (simp [go_sem]; done) | (simp [go_sem, *]; done))
        have g1_2_0 : w1.frozen? ⟨w.heap.size + 1 + 1, 0, none⟩ = false := (b1.frozen (p := ⟨w.heap.size + 1 + 1, 0, none⟩) (by first | (simp; done) | (simp; omega) | omega)).trans (by first | with_reducible assumption | (simp [go_sem]; done) | (simp [go_sem, *]; done))
        have k1_2_1 : w1.cell? ⟨w.heap.size + 1 + 1, 1, none⟩ = some (.int .i64 (0)) := (b1.cell (p := ⟨w.heap.size + 1 + 1, 1, none⟩) (by first | (simp; done) | (simp; omega) | omega)).trans (by first | with_reducible assumption | (simp [go_sem]; done) | (simp [go_sem, *]; done))
        have g1_2_1 : w1.frozen? ⟨w.heap.size + 1 + 1, 1, none⟩ = false := (b1.frozen (p := ⟨w.heap.size + 1 + 1, 1, none⟩) (by first | (simp; done) | (simp; omega) | omega)).trans (by first | with_reducible assumption | (simp [go_sem]; done) | (simp [go_sem, *]; done))
        have k1_2_2 : w1.cell? ⟨w.heap.size + 1 + 1, 2, none⟩ = some (.int .i64 (0)) := (b1.cell (p := ⟨w.heap.size + 1 + 1, 2, none⟩) (by first | (simp; done) | (simp; omega) | omega)).trans (by first | with_reducible assumption | (simp [go_sem]; done) | (simp [go_sem, *]; done))
        have g1_2_2 : w1.frozen? ⟨w.heap.size + 1 + 1, 2, none⟩ = false := (b1.frozen (p := ⟨w.heap.size + 1 + 1, 2, none⟩) (by first | (simp; done) | (simp; omega) | omega)).trans (by first | with_reducible assumption | (simp [go_sem]; done) | (simp [go_sem, *]; done))
        have z1_3 : w.heap.size + 1 + 1 + 1 < w1.heap.size := by omega
        have k1_3_0 : w1.cell? ⟨w.heap.size + 1 + 1 + 1, 0, none⟩ = some (.int .i64 (-(bY - aY))) := (b1.cell (p := ⟨w.heap.size + 1 + 1 + 1, 0, none⟩) (by first | (simp; done) | (simp; omega) | omega)).trans (by first | with_reducible assumption | (simp [go_sem]; done) | (simp [go_sem, *]; done))
        have g1_3_0 : w1.frozen? ⟨w.heap.size + 1 + 1 + 1, 0, none⟩ = false := (b1.frozen (p := ⟨w.heap.size + 1 + 1 + 1, 0, none⟩) (by first | (simp; done) | (simp; omega) | omega)).trans (by first | with_reducible assumption | (simp [go_sem]; done) | (simp [go_sem, *]; done))
        have k1_3_1 : w1.cell? ⟨w.heap.size + 1 + 1 + 1, 1, none⟩ = some (.int .i64 (-(aX - bX))) := (b1.cell (p := ⟨w.heap.size + 1 + 1 + 1, 1, none⟩) (by first | (simp; done) | (simp; omega) | omega)).trans (by first | with_reducible assumption | (simp [go_sem]; done) | (simp [go_sem, *]; done))
        have g1_3_1 : w1.frozen? ⟨w.heap.size + 1 + 1 + 1, 1, none⟩ = false := (b1.frozen (p := ⟨w.heap.size + 1 + 1 + 1, 1, none⟩) (by first | (simp; done) | (simp; omega) | omega)).trans (by first | with_reducible assumption | (simp [go_sem]; done) | (simp [go_sem, *]; done))
        have k1_3_2 : w1.cell? ⟨w.heap.size + 1 + 1 + 1, 2, none⟩ = some (.int .i64 (-((bY - aY) * aX + (aX - bX) * aY))) := (b1.cell (p := ⟨w.heap.size + 1 + 1 + 1, 2, none⟩) (by first | (simp; done) | (simp; omega) | omega)).trans (by first | with_reducible assumption | (simp [go_sem]; done) | (simp [go_sem, *]; done))
        have g1_3_2 : w1.frozen? ⟨w.heap.size + 1 + 1 + 1, 2, none⟩ = false := (b1.frozen (p := ⟨w.heap.size + 1 + 1 + 1, 2, none⟩) (by first | (simp; done) | (simp; omega) | omega)).trans (by first | with_reducible assumption | (simp [go_sem]; done) | (simp [go_sem, *]; done))
        go_wp2
        have A3_0 : ∀ w', HldHi (w.heap.size + 1 + 1 + 1) w1 w' → w'.cell? ⟨w.heap.size + 1 + 1 + 1, 0, none⟩ = some (.int .i64 (-(bY - aY))) := fun w' h => h.cell (by omega) (by first | omega | (simp; done) | (simp; omega)) (by first | with_reducible assumption | (simp [go_sem]; done) | (simp [go_sem, *]; done))
        have A3_1 : ∀ w', HldHi (w.heap.size + 1 + 1 + 1) w1 w' → w'.cell? ⟨w.heap.size + 1 + 1 + 1, 1, none⟩ = some (.int .i64 (-(aX - bX))) := fun w' h => h.cell (by omega) (by first | omega | (simp; done) | (simp; omega)) (by first | with_reducible assumption | (simp [go_sem]; done) | (simp [go_sem, *]; done))
        have A3_2 : ∀ w', HldHi (w.heap.size + 1 + 1 + 1) w1 w' → w'.cell? ⟨w.heap.size + 1 + 1 + 1, 2, none⟩ = some (.int .i64 (-((bY - aY) * aX + (aX - bX) * aY))) := fun w' h => h.cell (by omega) (by first | omega | (simp; done) | (simp; omega)) (by first | with_reducible assumption | (simp [go_sem]; done) | (simp [go_sem, *]; done))
        have Y2_0 : w1.cell? ⟨w.heap.size + 1 + 1, 0, none⟩ = some (.int .i64 (0)) := by first | with_reducible assumption | (simp [go_sem]; done) | (simp [go_sem, *]; done)
        have X2_0 : w1.frozen? ⟨w.heap.size + 1 + 1, 0, none⟩ = false := by first | with_reducible assumption | (simp [go_sem]; done) | (simp [go_sem, *]; done)
        have Y2_1 : w1.cell? ⟨w.heap.size + 1 + 1, 1, none⟩ = some (.int .i64 (0)) := by first | with_reducible assumption | (simp [go_sem]; done) | (simp [go_sem, *]; done)
        have X2_1 : w1.frozen? ⟨w.heap.size + 1 + 1, 1, none⟩ = false := by first | with_reducible assumption | (simp [go_sem]; done) | (simp [go_sem, *]; done)
        have Y2_2 : w1.cell? ⟨w.heap.size + 1 + 1, 2, none⟩ = some (.int .i64 (0)) := by first | with_reducible assumption | (simp [go_sem]; done) | (simp [go_sem, *]; done)
        have X2_2 : w1.frozen? ⟨w.heap.size + 1 + 1, 2, none⟩ = false := by first | with_reducible assumption | (simp [go_sem]; done) | (simp [go_sem, *]; done)
        go_region_held3 (fun w' => HldHi (w.heap.size + 1 + 1 + 1) w1 w') ((repeat (first | with_reducible assumption | with_reducible exact HldHi.start _ _ | with_reducible exact HldHi.refl _ _ | with_reducible refine HldHi.drew ?_ | with_reducible refine HldHi.alloc ?_ _ | with_reducible refine HldHi.set ?_ (by dsimp only; omega) _ | with_reducible refine HldHi.setN ?_ (by first | (simp; done) | (simp; omega)) _))) (fail)
        all_goals go_wp2
        all_goals (refine bodyPost_ret (v := .agg #[.int .i64 (ltA aX aY bX bY), .int .i64 (ltB aX aY bX bY), .int .i64 (ltC aX aY bX bY)]) (by simp [results, Try.results41, go_sem, E1.out, E2.out, E3.out, IntWalk.i64_in (ltA aX aY bX bY) (by omega), IntWalk.i64_in (ltB aX aY bX bY) (by omega), IntWalk.i64_in (ltC aX aY bX bY) (by omega), *]) rfl ⟨rfl, ?_⟩)
        all_goals (repeat (first | with_reducible exact Below.refl _ _ | with_reducible refine bl_alloc ?_ _ | with_reducible refine bl_drew ?_ | with_reducible refine bl_set ?_ (by first | (simp; done) | (simp; omega)) _ | with_reducible refine bl_call (by assumption) ?_))
      · obtain ⟨m1l, m1u⟩ := mul_bd (bY - aY) aX 2000 1000 (by omega) (by omega) (by omega) (by omega)
        obtain ⟨m2l, m2u⟩ := mul_bd (aX - bX) aY 2000 1000 (by omega) (by omega) (by omega) (by omega)
        obtain ⟨laX, uaX⟩ := haX
        obtain ⟨laY, uaY⟩ := haY
        obtain ⟨lbX, ubX⟩ := hbX
        obtain ⟨lbY, ubY⟩ := hbY
        have hn : ¬ (bY - aY < 0 ∨ (bY - aY = 0 ∧ aX - bX < 0)) := by omega
        have n2 : (bY - aY == 0) = true := by simp [c2]
        have n1 : ¬ bY < aY := by omega
        have n3 : ¬ aX < bX := by omega
        clear c2
        obtain ⟨e1, e2, e3⟩ := lt_pos aX aY bX bY hne hn
        have hg := lt_gcd (bY - aY) (aX - bX) aX aY
        have gp := gcd_pos2 (bY - aY) (aX - bX) (by omega)
        have gu := gcdI_le (bY - aY) (aX - bX) 2000 (by omega) (by omega)
        obtain ⟨t1l, t1u⟩ := tdiv_bd (bY - aY) (gcdI (bY - aY) (aX - bX)) 2000 (by omega)
        obtain ⟨t2l, t2u⟩ := tdiv_bd (aX - bX) (gcdI (bY - aY) (aX - bX)) 2000 (by omega)
        obtain ⟨t3l, t3u⟩ := tdiv_bd ((bY - aY) * aX + (aX - bX) * aY) (gcdI (bY - aY) (aX - bX)) 4000000 (by omega)
        have ib0 := iabs_nn1 (aX - bX)
        have ib1 : iabs (aX - bX) ≤ 2000 := by unfold iabs; omega
        have ic0 := iabs_nn1 ((bY - aY) * aX + (aX - bX) * aY)
        have ic1 : iabs ((bY - aY) * aX + (aX - bX) * aY) ≤ 4000000 := by unfold iabs; omega
        have g10 := gcdI_nonneg (bY - aY) (iabs (aX - bX))
        have g11 := gcdI_le (bY - aY) (iabs (aX - bX)) 2000 (by omega) (by omega)
        have K1 : Hid (∀ W : World, Calls Try.prog 80 #[.int .i64 (aX - bX)] W fun e w' => e = .returned (.int .i64 (iabs (aX - bX))) ∧ W = w') := Lib.hid fun W => by
          have h := spec_abs (aX - bX) W (by omega) (by omega)
          exact h
        have K2 : Hid (∀ W : World, Calls Try.prog 79 #[.int .i64 (bY - aY), .int .i64 (iabs (aX - bX))] W fun e w' => e = .returned (.int .i64 (gcdI (bY - aY) (iabs (aX - bX)))) ∧ W = w') := Lib.hid fun W => by
          have h := spec_gcd (bY - aY) (iabs (aX - bX)) W (by omega) (by omega) (by omega) (by omega)
          exact h
        have K3 : Hid (∀ W : World, Calls Try.prog 80 #[.int .i64 ((bY - aY) * aX + (aX - bX) * aY)] W fun e w' => e = .returned (.int .i64 (iabs ((bY - aY) * aX + (aX - bX) * aY))) ∧ W = w') := Lib.hid fun W => by
          have h := spec_abs ((bY - aY) * aX + (aX - bX) * aY) W (by omega) (by omega)
          exact h
        have K4 : Hid (∀ W : World, Calls Try.prog 79 #[.int .i64 (gcdI (bY - aY) (iabs (aX - bX))), .int .i64 (iabs ((bY - aY) * aX + (aX - bX) * aY))] W fun e w' => e = .returned (.int .i64 (gcdI (bY - aY) (aX - bX))) ∧ W = w') := Lib.hid fun W => by
          have h := spec_gcd (gcdI (bY - aY) (iabs (aX - bX))) (iabs ((bY - aY) * aX + (aX - bX) * aY)) W (by omega) (by omega) (by omega) (by omega)
          rw [hg] at h
          exact h
        have d1 := Int.tdiv_eq_ediv_of_dvd (gcdI_dvd1 (bY - aY) (aX - bX))
        have d2 := Int.tdiv_eq_ediv_of_dvd (gcdI_dvd2 (bY - aY) (aX - bX))
        clear hg hne hn d1 d2
        generalize gcdI (bY - aY) (iabs (aX - bX)) = G1 at *
        generalize iabs (aX - bX) = IB at *
        generalize iabs ((bY - aY) * aX + (aX - bX) * aY) = IC at *
        generalize gcdI (bY - aY) (aX - bX) = G at *
        have q1 : -2000 ≤ ltA aX aY bX bY ∧ ltA aX aY bX bY ≤ 2000 := by rw [← e1]; exact ⟨t1l, t1u⟩
        obtain ⟨q1a, q1b⟩ := q1
        have q2 : -2000 ≤ ltB aX aY bX bY ∧ ltB aX aY bX bY ≤ 2000 := by rw [← e2]; exact ⟨t2l, t2u⟩
        obtain ⟨q2a, q2b⟩ := q2
        have q3 : -4000000 ≤ ltC aX aY bX bY ∧ ltC aX aY bX bY ≤ 4000000 := by rw [← e3]; exact ⟨t3l, t3u⟩
        obtain ⟨q3a, q3b⟩ := q3
        have E1 := Lib.hid e1
        have E2 := Lib.hid e2
        have E3 := Lib.hid e3
        clear e1 e2 e3
        have gnz : ¬ G = 0 := by omega
        go_enter Try.func41, Try.ntmps41
        go_wp2
        have kc0 := cell_regrown (w := ((((w.alloc (Obj.cells #[.int .i64 (aX), .int .i64 (aY)] 28)).alloc (Obj.cells #[.int .i64 (bX), .int .i64 (bY)] 28)).alloc (Obj.cells #[.int .i64 (0), .int .i64 (0), .int .i64 (0)] 25)).alloc (Obj.cells #[.int .i64 (bY - aY), .int .i64 (aX - bX), .int .i64 ((bY - aY) * aX + (aX - bX) * aY)] 25))) (a := ⟨w.heap.size, 0, none⟩) (v := .int .i64 (aX)) (by first | ((repeat (first | with_reducible assumption | with_reducible refine calloc ?_ _)); done) | (simp [go_sem]; done) | (simp [go_sem, *]; done))
        have kc1 := cell_regrown (w := ((((w.alloc (Obj.cells #[.int .i64 (aX), .int .i64 (aY)] 28)).alloc (Obj.cells #[.int .i64 (bX), .int .i64 (bY)] 28)).alloc (Obj.cells #[.int .i64 (0), .int .i64 (0), .int .i64 (0)] 25)).alloc (Obj.cells #[.int .i64 (bY - aY), .int .i64 (aX - bX), .int .i64 ((bY - aY) * aX + (aX - bX) * aY)] 25))) (a := ⟨w.heap.size, 1, none⟩) (v := .int .i64 (aY)) (by first | ((repeat (first | with_reducible assumption | with_reducible refine calloc ?_ _)); done) | (simp [go_sem]; done) | (simp [go_sem, *]; done))
        have kc2 := cell_regrown (w := ((((w.alloc (Obj.cells #[.int .i64 (aX), .int .i64 (aY)] 28)).alloc (Obj.cells #[.int .i64 (bX), .int .i64 (bY)] 28)).alloc (Obj.cells #[.int .i64 (0), .int .i64 (0), .int .i64 (0)] 25)).alloc (Obj.cells #[.int .i64 (bY - aY), .int .i64 (aX - bX), .int .i64 ((bY - aY) * aX + (aX - bX) * aY)] 25))) (a := ⟨w.heap.size + 1, 0, none⟩) (v := .int .i64 (bX)) (by first | ((repeat (first | with_reducible assumption | with_reducible refine calloc ?_ _)); done) | (simp [go_sem]; done) | (simp [go_sem, *]; done))
        have kc3 := cell_regrown (w := ((((w.alloc (Obj.cells #[.int .i64 (aX), .int .i64 (aY)] 28)).alloc (Obj.cells #[.int .i64 (bX), .int .i64 (bY)] 28)).alloc (Obj.cells #[.int .i64 (0), .int .i64 (0), .int .i64 (0)] 25)).alloc (Obj.cells #[.int .i64 (bY - aY), .int .i64 (aX - bX), .int .i64 ((bY - aY) * aX + (aX - bX) * aY)] 25))) (a := ⟨w.heap.size + 1, 1, none⟩) (v := .int .i64 (bY)) (by first | ((repeat (first | with_reducible assumption | with_reducible refine calloc ?_ _)); done) | (simp [go_sem]; done) | (simp [go_sem, *]; done))
        have kc4 := cell_regrown (w := ((((w.alloc (Obj.cells #[.int .i64 (aX), .int .i64 (aY)] 28)).alloc (Obj.cells #[.int .i64 (bX), .int .i64 (bY)] 28)).alloc (Obj.cells #[.int .i64 (0), .int .i64 (0), .int .i64 (0)] 25)).alloc (Obj.cells #[.int .i64 (bY - aY), .int .i64 (aX - bX), .int .i64 ((bY - aY) * aX + (aX - bX) * aY)] 25))) (a := ⟨w.heap.size + 1 + 1, 0, none⟩) (v := .int .i64 (0)) (by first | ((repeat (first | with_reducible assumption | with_reducible refine calloc ?_ _)); done) | (simp [go_sem]; done) | (simp [go_sem, *]; done))
        have kc5 := cell_regrown (w := ((((w.alloc (Obj.cells #[.int .i64 (aX), .int .i64 (aY)] 28)).alloc (Obj.cells #[.int .i64 (bX), .int .i64 (bY)] 28)).alloc (Obj.cells #[.int .i64 (0), .int .i64 (0), .int .i64 (0)] 25)).alloc (Obj.cells #[.int .i64 (bY - aY), .int .i64 (aX - bX), .int .i64 ((bY - aY) * aX + (aX - bX) * aY)] 25))) (a := ⟨w.heap.size + 1 + 1, 1, none⟩) (v := .int .i64 (0)) (by first | ((repeat (first | with_reducible assumption | with_reducible refine calloc ?_ _)); done) | (simp [go_sem]; done) | (simp [go_sem, *]; done))
        have kc6 := cell_regrown (w := ((((w.alloc (Obj.cells #[.int .i64 (aX), .int .i64 (aY)] 28)).alloc (Obj.cells #[.int .i64 (bX), .int .i64 (bY)] 28)).alloc (Obj.cells #[.int .i64 (0), .int .i64 (0), .int .i64 (0)] 25)).alloc (Obj.cells #[.int .i64 (bY - aY), .int .i64 (aX - bX), .int .i64 ((bY - aY) * aX + (aX - bX) * aY)] 25))) (a := ⟨w.heap.size + 1 + 1, 2, none⟩) (v := .int .i64 (0)) (by first | ((repeat (first | with_reducible assumption | with_reducible refine calloc ?_ _)); done) | (simp [go_sem]; done) | (simp [go_sem, *]; done))
        have kc7 := cell_regrown (w := ((((w.alloc (Obj.cells #[.int .i64 (aX), .int .i64 (aY)] 28)).alloc (Obj.cells #[.int .i64 (bX), .int .i64 (bY)] 28)).alloc (Obj.cells #[.int .i64 (0), .int .i64 (0), .int .i64 (0)] 25)).alloc (Obj.cells #[.int .i64 (bY - aY), .int .i64 (aX - bX), .int .i64 ((bY - aY) * aX + (aX - bX) * aY)] 25))) (a := ⟨w.heap.size + 1 + 1 + 1, 0, none⟩) (v := .int .i64 (bY - aY)) (by first | ((repeat (first | with_reducible assumption | with_reducible refine calloc ?_ _)); done) | (simp [go_sem]; done) | (simp [go_sem, *]; done))
        have kc8 := cell_regrown (w := ((((w.alloc (Obj.cells #[.int .i64 (aX), .int .i64 (aY)] 28)).alloc (Obj.cells #[.int .i64 (bX), .int .i64 (bY)] 28)).alloc (Obj.cells #[.int .i64 (0), .int .i64 (0), .int .i64 (0)] 25)).alloc (Obj.cells #[.int .i64 (bY - aY), .int .i64 (aX - bX), .int .i64 ((bY - aY) * aX + (aX - bX) * aY)] 25))) (a := ⟨w.heap.size + 1 + 1 + 1, 1, none⟩) (v := .int .i64 (aX - bX)) (by first | ((repeat (first | with_reducible assumption | with_reducible refine calloc ?_ _)); done) | (simp [go_sem]; done) | (simp [go_sem, *]; done))
        have kc9 := cell_regrown (w := ((((w.alloc (Obj.cells #[.int .i64 (aX), .int .i64 (aY)] 28)).alloc (Obj.cells #[.int .i64 (bX), .int .i64 (bY)] 28)).alloc (Obj.cells #[.int .i64 (0), .int .i64 (0), .int .i64 (0)] 25)).alloc (Obj.cells #[.int .i64 (bY - aY), .int .i64 (aX - bX), .int .i64 ((bY - aY) * aX + (aX - bX) * aY)] 25))) (a := ⟨w.heap.size + 1 + 1 + 1, 2, none⟩) (v := .int .i64 ((bY - aY) * aX + (aX - bX) * aY)) (by first | ((repeat (first | with_reducible assumption | with_reducible refine calloc ?_ _)); done) | (simp [go_sem]; done) | (simp [go_sem, *]; done))
        refine wp_region_quiet_below (by kernel_rfl) (by kernel_rfl) ?_
        repeat (go_big_quiet_step ((first | (go_at_call 80; with_reducible exact Calls.regrown_of (qb_same (K1.out _))) | (go_at_call 79; with_reducible exact Calls.regrown_of (qb_same (K2.out _))) | (go_at_call 80; with_reducible exact Calls.regrown_of (qb_same (K3.out _))) | (go_at_call 79; with_reducible exact Calls.regrown_of (qb_same (K4.out _))))))
        refine wpQuiet_nil ?_
        intro w1 hw'
        have b1 : Below ((((w.alloc (Obj.cells #[.int .i64 (aX), .int .i64 (aY)] 28)).alloc (Obj.cells #[.int .i64 (bX), .int .i64 (bY)] 28)).alloc (Obj.cells #[.int .i64 (0), .int .i64 (0), .int .i64 (0)] 25)).alloc (Obj.cells #[.int .i64 (bY - aY), .int .i64 (aX - bX), .int .i64 ((bY - aY) * aX + (aX - bX) * aY)] 25)).heap.size ((((w.alloc (Obj.cells #[.int .i64 (aX), .int .i64 (aY)] 28)).alloc (Obj.cells #[.int .i64 (bX), .int .i64 (bY)] 28)).alloc (Obj.cells #[.int .i64 (0), .int .i64 (0), .int .i64 (0)] 25)).alloc (Obj.cells #[.int .i64 (bY - aY), .int .i64 (aX - bX), .int .i64 ((bY - aY) * aX + (aX - bX) * aY)] 25)) w1 := by
          obtain ⟨pp, rfl⟩ := hw'
          exact below_regrown _ _ _
        clear hw' kc0 kc1 kc2 kc3 kc4 kc5 kc6 kc7 kc8 kc9
        have s1 := b1.size
        try simp at s1
        have z1_0 : w.heap.size < w1.heap.size := by omega
        have k1_0_0 : w1.cell? ⟨w.heap.size, 0, none⟩ = some (.int .i64 (aX)) := (b1.cell (p := ⟨w.heap.size, 0, none⟩) (by first | (simp; done) | (simp; omega) | omega)).trans (by first | with_reducible assumption | (simp [go_sem]; done) | (simp [go_sem, *]; done))
        have g1_0_0 : w1.frozen? ⟨w.heap.size, 0, none⟩ = false := (b1.frozen (p := ⟨w.heap.size, 0, none⟩) (by first | (simp; done) | (simp; omega) | omega)).trans (by first | with_reducible assumption | (simp [go_sem]; done) | (simp [go_sem, *]; done))
        have k1_0_1 : w1.cell? ⟨w.heap.size, 1, none⟩ = some (.int .i64 (aY)) := (b1.cell (p := ⟨w.heap.size, 1, none⟩) (by first | (simp; done) | (simp; omega) | omega)).trans (by first | with_reducible assumption | (simp [go_sem]; done) | (simp [go_sem, *]; done))
        have g1_0_1 : w1.frozen? ⟨w.heap.size, 1, none⟩ = false := (b1.frozen (p := ⟨w.heap.size, 1, none⟩) (by first | (simp; done) | (simp; omega) | omega)).trans (by first | with_reducible assumption | (simp [go_sem]; done) | (simp [go_sem, *]; done))
        have z1_1 : w.heap.size + 1 < w1.heap.size := by omega
        have k1_1_0 : w1.cell? ⟨w.heap.size + 1, 0, none⟩ = some (.int .i64 (bX)) := (b1.cell (p := ⟨w.heap.size + 1, 0, none⟩) (by first | (simp; done) | (simp; omega) | omega)).trans (by first | with_reducible assumption | (simp [go_sem]; done) | (simp [go_sem, *]; done))
        have g1_1_0 : w1.frozen? ⟨w.heap.size + 1, 0, none⟩ = false := (b1.frozen (p := ⟨w.heap.size + 1, 0, none⟩) (by first | (simp; done) | (simp; omega) | omega)).trans (by first | with_reducible assumption | (simp [go_sem]; done) | (simp [go_sem, *]; done))
        have k1_1_1 : w1.cell? ⟨w.heap.size + 1, 1, none⟩ = some (.int .i64 (bY)) := (b1.cell (p := ⟨w.heap.size + 1, 1, none⟩) (by first | (simp; done) | (simp; omega) | omega)).trans (by first | with_reducible assumption | (simp [go_sem]; done) | (simp [go_sem, *]; done))
        have g1_1_1 : w1.frozen? ⟨w.heap.size + 1, 1, none⟩ = false := (b1.frozen (p := ⟨w.heap.size + 1, 1, none⟩) (by first | (simp; done) | (simp; omega) | omega)).trans (by first | with_reducible assumption | (simp [go_sem]; done) | (simp [go_sem, *]; done))
        have z1_2 : w.heap.size + 1 + 1 < w1.heap.size := by omega
        have k1_2_0 : w1.cell? ⟨w.heap.size + 1 + 1, 0, none⟩ = some (.int .i64 (0)) := (b1.cell (p := ⟨w.heap.size + 1 + 1, 0, none⟩) (by first | (simp; done) | (simp; omega) | omega)).trans (by first | with_reducible assumption | (simp [go_sem]; done) | (simp [go_sem, *]; done))
        have g1_2_0 : w1.frozen? ⟨w.heap.size + 1 + 1, 0, none⟩ = false := (b1.frozen (p := ⟨w.heap.size + 1 + 1, 0, none⟩) (by first | (simp; done) | (simp; omega) | omega)).trans (by first | with_reducible assumption | (simp [go_sem]; done) | (simp [go_sem, *]; done))
        have k1_2_1 : w1.cell? ⟨w.heap.size + 1 + 1, 1, none⟩ = some (.int .i64 (0)) := (b1.cell (p := ⟨w.heap.size + 1 + 1, 1, none⟩) (by first | (simp; done) | (simp; omega) | omega)).trans (by first | with_reducible assumption | (simp [go_sem]; done) | (simp [go_sem, *]; done))
        have g1_2_1 : w1.frozen? ⟨w.heap.size + 1 + 1, 1, none⟩ = false := (b1.frozen (p := ⟨w.heap.size + 1 + 1, 1, none⟩) (by first | (simp; done) | (simp; omega) | omega)).trans (by first | with_reducible assumption | (simp [go_sem]; done) | (simp [go_sem, *]; done))
        have k1_2_2 : w1.cell? ⟨w.heap.size + 1 + 1, 2, none⟩ = some (.int .i64 (0)) := (b1.cell (p := ⟨w.heap.size + 1 + 1, 2, none⟩) (by first | (simp; done) | (simp; omega) | omega)).trans (by first | with_reducible assumption | (simp [go_sem]; done) | (simp [go_sem, *]; done))
        have g1_2_2 : w1.frozen? ⟨w.heap.size + 1 + 1, 2, none⟩ = false := (b1.frozen (p := ⟨w.heap.size + 1 + 1, 2, none⟩) (by first | (simp; done) | (simp; omega) | omega)).trans (by first | with_reducible assumption | (simp [go_sem]; done) | (simp [go_sem, *]; done))
        have z1_3 : w.heap.size + 1 + 1 + 1 < w1.heap.size := by omega
        have k1_3_0 : w1.cell? ⟨w.heap.size + 1 + 1 + 1, 0, none⟩ = some (.int .i64 (bY - aY)) := (b1.cell (p := ⟨w.heap.size + 1 + 1 + 1, 0, none⟩) (by first | (simp; done) | (simp; omega) | omega)).trans (by first | with_reducible assumption | (simp [go_sem]; done) | (simp [go_sem, *]; done))
        have g1_3_0 : w1.frozen? ⟨w.heap.size + 1 + 1 + 1, 0, none⟩ = false := (b1.frozen (p := ⟨w.heap.size + 1 + 1 + 1, 0, none⟩) (by first | (simp; done) | (simp; omega) | omega)).trans (by first | with_reducible assumption | (simp [go_sem]; done) | (simp [go_sem, *]; done))
        have k1_3_1 : w1.cell? ⟨w.heap.size + 1 + 1 + 1, 1, none⟩ = some (.int .i64 (aX - bX)) := (b1.cell (p := ⟨w.heap.size + 1 + 1 + 1, 1, none⟩) (by first | (simp; done) | (simp; omega) | omega)).trans (by first | with_reducible assumption | (simp [go_sem]; done) | (simp [go_sem, *]; done))
        have g1_3_1 : w1.frozen? ⟨w.heap.size + 1 + 1 + 1, 1, none⟩ = false := (b1.frozen (p := ⟨w.heap.size + 1 + 1 + 1, 1, none⟩) (by first | (simp; done) | (simp; omega) | omega)).trans (by first | with_reducible assumption | (simp [go_sem]; done) | (simp [go_sem, *]; done))
        have k1_3_2 : w1.cell? ⟨w.heap.size + 1 + 1 + 1, 2, none⟩ = some (.int .i64 ((bY - aY) * aX + (aX - bX) * aY)) := (b1.cell (p := ⟨w.heap.size + 1 + 1 + 1, 2, none⟩) (by first | (simp; done) | (simp; omega) | omega)).trans (by first | with_reducible assumption | (simp [go_sem]; done) | (simp [go_sem, *]; done))
        have g1_3_2 : w1.frozen? ⟨w.heap.size + 1 + 1 + 1, 2, none⟩ = false := (b1.frozen (p := ⟨w.heap.size + 1 + 1 + 1, 2, none⟩) (by first | (simp; done) | (simp; omega) | omega)).trans (by first | with_reducible assumption | (simp [go_sem]; done) | (simp [go_sem, *]; done))
        go_wp2
        have A3_0 : ∀ w', HldHi (w.heap.size + 1 + 1 + 1) w1 w' → w'.cell? ⟨w.heap.size + 1 + 1 + 1, 0, none⟩ = some (.int .i64 (bY - aY)) := fun w' h => h.cell (by omega) (by first | omega | (simp; done) | (simp; omega)) (by first | with_reducible assumption | (simp [go_sem]; done) | (simp [go_sem, *]; done))
        have A3_1 : ∀ w', HldHi (w.heap.size + 1 + 1 + 1) w1 w' → w'.cell? ⟨w.heap.size + 1 + 1 + 1, 1, none⟩ = some (.int .i64 (aX - bX)) := fun w' h => h.cell (by omega) (by first | omega | (simp; done) | (simp; omega)) (by first | with_reducible assumption | (simp [go_sem]; done) | (simp [go_sem, *]; done))
        have A3_2 : ∀ w', HldHi (w.heap.size + 1 + 1 + 1) w1 w' → w'.cell? ⟨w.heap.size + 1 + 1 + 1, 2, none⟩ = some (.int .i64 ((bY - aY) * aX + (aX - bX) * aY)) := fun w' h => h.cell (by omega) (by first | omega | (simp; done) | (simp; omega)) (by first | with_reducible assumption | (simp [go_sem]; done) | (simp [go_sem, *]; done))
        have Y2_0 : w1.cell? ⟨w.heap.size + 1 + 1, 0, none⟩ = some (.int .i64 (0)) := by first | with_reducible assumption | (simp [go_sem]; done) | (simp [go_sem, *]; done)
        have X2_0 : w1.frozen? ⟨w.heap.size + 1 + 1, 0, none⟩ = false := by first | with_reducible assumption | (simp [go_sem]; done) | (simp [go_sem, *]; done)
        have Y2_1 : w1.cell? ⟨w.heap.size + 1 + 1, 1, none⟩ = some (.int .i64 (0)) := by first | with_reducible assumption | (simp [go_sem]; done) | (simp [go_sem, *]; done)
        have X2_1 : w1.frozen? ⟨w.heap.size + 1 + 1, 1, none⟩ = false := by first | with_reducible assumption | (simp [go_sem]; done) | (simp [go_sem, *]; done)
        have Y2_2 : w1.cell? ⟨w.heap.size + 1 + 1, 2, none⟩ = some (.int .i64 (0)) := by first | with_reducible assumption | (simp [go_sem]; done) | (simp [go_sem, *]; done)
        have X2_2 : w1.frozen? ⟨w.heap.size + 1 + 1, 2, none⟩ = false := by first | with_reducible assumption | (simp [go_sem]; done) | (simp [go_sem, *]; done)
        go_region_held3 (fun w' => HldHi (w.heap.size + 1 + 1 + 1) w1 w') ((repeat (first | with_reducible assumption | with_reducible exact HldHi.start _ _ | with_reducible exact HldHi.refl _ _ | with_reducible refine HldHi.drew ?_ | with_reducible refine HldHi.alloc ?_ _ | with_reducible refine HldHi.set ?_ (by dsimp only; omega) _ | with_reducible refine HldHi.setN ?_ (by first | (simp; done) | (simp; omega)) _))) (fail)
        all_goals go_wp2
        all_goals (refine bodyPost_ret (v := .agg #[.int .i64 (ltA aX aY bX bY), .int .i64 (ltB aX aY bX bY), .int .i64 (ltC aX aY bX bY)]) (by simp [results, Try.results41, go_sem, E1.out, E2.out, E3.out, IntWalk.i64_in (ltA aX aY bX bY) (by omega), IntWalk.i64_in (ltB aX aY bX bY) (by omega), IntWalk.i64_in (ltC aX aY bX bY) (by omega), *]) rfl ⟨rfl, ?_⟩)
        all_goals (repeat (first | with_reducible exact Below.refl _ _ | with_reducible refine bl_alloc ?_ _ | with_reducible refine bl_drew ?_ | with_reducible refine bl_set ?_ (by first | (simp; done) | (simp; omega)) _ | with_reducible refine bl_call (by assumption) ?_))
    · obtain ⟨m1l, m1u⟩ := mul_bd (bY - aY) aX 2000 1000 (by omega) (by omega) (by omega) (by omega)
      obtain ⟨m2l, m2u⟩ := mul_bd (aX - bX) aY 2000 1000 (by omega) (by omega) (by omega) (by omega)
      obtain ⟨laX, uaX⟩ := haX
      obtain ⟨laY, uaY⟩ := haY
      obtain ⟨lbX, ubX⟩ := hbX
      obtain ⟨lbY, ubY⟩ := hbY
      have hn : ¬ (bY - aY < 0 ∨ (bY - aY = 0 ∧ aX - bX < 0)) := by omega
      have n2 : (bY - aY == 0) = false := by simp [c2]
      have n1 : ¬ bY < aY := by omega
      obtain ⟨e1, e2, e3⟩ := lt_pos aX aY bX bY hne hn
      have hg := lt_gcd (bY - aY) (aX - bX) aX aY
      have gp := gcd_pos2 (bY - aY) (aX - bX) (by omega)
      have gu := gcdI_le (bY - aY) (aX - bX) 2000 (by omega) (by omega)
      obtain ⟨t1l, t1u⟩ := tdiv_bd (bY - aY) (gcdI (bY - aY) (aX - bX)) 2000 (by omega)
      obtain ⟨t2l, t2u⟩ := tdiv_bd (aX - bX) (gcdI (bY - aY) (aX - bX)) 2000 (by omega)
      obtain ⟨t3l, t3u⟩ := tdiv_bd ((bY - aY) * aX + (aX - bX) * aY) (gcdI (bY - aY) (aX - bX)) 4000000 (by omega)
      have ib0 := iabs_nn1 (aX - bX)
      have ib1 : iabs (aX - bX) ≤ 2000 := by unfold iabs; omega
      have ic0 := iabs_nn1 ((bY - aY) * aX + (aX - bX) * aY)
      have ic1 : iabs ((bY - aY) * aX + (aX - bX) * aY) ≤ 4000000 := by unfold iabs; omega
      have g10 := gcdI_nonneg (bY - aY) (iabs (aX - bX))
      have g11 := gcdI_le (bY - aY) (iabs (aX - bX)) 2000 (by omega) (by omega)
      have K1 : Hid (∀ W : World, Calls Try.prog 80 #[.int .i64 (aX - bX)] W fun e w' => e = .returned (.int .i64 (iabs (aX - bX))) ∧ W = w') := Lib.hid fun W => by
        have h := spec_abs (aX - bX) W (by omega) (by omega)
        exact h
      have K2 : Hid (∀ W : World, Calls Try.prog 79 #[.int .i64 (bY - aY), .int .i64 (iabs (aX - bX))] W fun e w' => e = .returned (.int .i64 (gcdI (bY - aY) (iabs (aX - bX)))) ∧ W = w') := Lib.hid fun W => by
        have h := spec_gcd (bY - aY) (iabs (aX - bX)) W (by omega) (by omega) (by omega) (by omega)
        exact h
      have K3 : Hid (∀ W : World, Calls Try.prog 80 #[.int .i64 ((bY - aY) * aX + (aX - bX) * aY)] W fun e w' => e = .returned (.int .i64 (iabs ((bY - aY) * aX + (aX - bX) * aY))) ∧ W = w') := Lib.hid fun W => by
        have h := spec_abs ((bY - aY) * aX + (aX - bX) * aY) W (by omega) (by omega)
        exact h
      have K4 : Hid (∀ W : World, Calls Try.prog 79 #[.int .i64 (gcdI (bY - aY) (iabs (aX - bX))), .int .i64 (iabs ((bY - aY) * aX + (aX - bX) * aY))] W fun e w' => e = .returned (.int .i64 (gcdI (bY - aY) (aX - bX))) ∧ W = w') := Lib.hid fun W => by
        have h := spec_gcd (gcdI (bY - aY) (iabs (aX - bX))) (iabs ((bY - aY) * aX + (aX - bX) * aY)) W (by omega) (by omega) (by omega) (by omega)
        rw [hg] at h
        exact h
      have d1 := Int.tdiv_eq_ediv_of_dvd (gcdI_dvd1 (bY - aY) (aX - bX))
      have d2 := Int.tdiv_eq_ediv_of_dvd (gcdI_dvd2 (bY - aY) (aX - bX))
      clear hg hne hn d1 d2
      generalize gcdI (bY - aY) (iabs (aX - bX)) = G1 at *
      generalize iabs (aX - bX) = IB at *
      generalize iabs ((bY - aY) * aX + (aX - bX) * aY) = IC at *
      generalize gcdI (bY - aY) (aX - bX) = G at *
      have q1 : -2000 ≤ ltA aX aY bX bY ∧ ltA aX aY bX bY ≤ 2000 := by rw [← e1]; exact ⟨t1l, t1u⟩
      obtain ⟨q1a, q1b⟩ := q1
      have q2 : -2000 ≤ ltB aX aY bX bY ∧ ltB aX aY bX bY ≤ 2000 := by rw [← e2]; exact ⟨t2l, t2u⟩
      obtain ⟨q2a, q2b⟩ := q2
      have q3 : -4000000 ≤ ltC aX aY bX bY ∧ ltC aX aY bX bY ≤ 4000000 := by rw [← e3]; exact ⟨t3l, t3u⟩
      obtain ⟨q3a, q3b⟩ := q3
      have E1 := Lib.hid e1
      have E2 := Lib.hid e2
      have E3 := Lib.hid e3
      clear e1 e2 e3
      have gnz : ¬ G = 0 := by omega
      go_enter Try.func41, Try.ntmps41
      go_wp2
      have kc0 := cell_regrown (w := ((((w.alloc (Obj.cells #[.int .i64 (aX), .int .i64 (aY)] 28)).alloc (Obj.cells #[.int .i64 (bX), .int .i64 (bY)] 28)).alloc (Obj.cells #[.int .i64 (0), .int .i64 (0), .int .i64 (0)] 25)).alloc (Obj.cells #[.int .i64 (bY - aY), .int .i64 (aX - bX), .int .i64 ((bY - aY) * aX + (aX - bX) * aY)] 25))) (a := ⟨w.heap.size, 0, none⟩) (v := .int .i64 (aX)) (by first | ((repeat (first | with_reducible assumption | with_reducible refine calloc ?_ _)); done) | (simp [go_sem]; done) | (simp [go_sem, *]; done))
      have kc1 := cell_regrown (w := ((((w.alloc (Obj.cells #[.int .i64 (aX), .int .i64 (aY)] 28)).alloc (Obj.cells #[.int .i64 (bX), .int .i64 (bY)] 28)).alloc (Obj.cells #[.int .i64 (0), .int .i64 (0), .int .i64 (0)] 25)).alloc (Obj.cells #[.int .i64 (bY - aY), .int .i64 (aX - bX), .int .i64 ((bY - aY) * aX + (aX - bX) * aY)] 25))) (a := ⟨w.heap.size, 1, none⟩) (v := .int .i64 (aY)) (by first | ((repeat (first | with_reducible assumption | with_reducible refine calloc ?_ _)); done) | (simp [go_sem]; done) | (simp [go_sem, *]; done))
      have kc2 := cell_regrown (w := ((((w.alloc (Obj.cells #[.int .i64 (aX), .int .i64 (aY)] 28)).alloc (Obj.cells #[.int .i64 (bX), .int .i64 (bY)] 28)).alloc (Obj.cells #[.int .i64 (0), .int .i64 (0), .int .i64 (0)] 25)).alloc (Obj.cells #[.int .i64 (bY - aY), .int .i64 (aX - bX), .int .i64 ((bY - aY) * aX + (aX - bX) * aY)] 25))) (a := ⟨w.heap.size + 1, 0, none⟩) (v := .int .i64 (bX)) (by first | ((repeat (first | with_reducible assumption | with_reducible refine calloc ?_ _)); done) | (simp [go_sem]; done) | (simp [go_sem, *]; done))
      have kc3 := cell_regrown (w := ((((w.alloc (Obj.cells #[.int .i64 (aX), .int .i64 (aY)] 28)).alloc (Obj.cells #[.int .i64 (bX), .int .i64 (bY)] 28)).alloc (Obj.cells #[.int .i64 (0), .int .i64 (0), .int .i64 (0)] 25)).alloc (Obj.cells #[.int .i64 (bY - aY), .int .i64 (aX - bX), .int .i64 ((bY - aY) * aX + (aX - bX) * aY)] 25))) (a := ⟨w.heap.size + 1, 1, none⟩) (v := .int .i64 (bY)) (by first | ((repeat (first | with_reducible assumption | with_reducible refine calloc ?_ _)); done) | (simp [go_sem]; done) | (simp [go_sem, *]; done))
      have kc4 := cell_regrown (w := ((((w.alloc (Obj.cells #[.int .i64 (aX), .int .i64 (aY)] 28)).alloc (Obj.cells #[.int .i64 (bX), .int .i64 (bY)] 28)).alloc (Obj.cells #[.int .i64 (0), .int .i64 (0), .int .i64 (0)] 25)).alloc (Obj.cells #[.int .i64 (bY - aY), .int .i64 (aX - bX), .int .i64 ((bY - aY) * aX + (aX - bX) * aY)] 25))) (a := ⟨w.heap.size + 1 + 1, 0, none⟩) (v := .int .i64 (0)) (by first | ((repeat (first | with_reducible assumption | with_reducible refine calloc ?_ _)); done) | (simp [go_sem]; done) | (simp [go_sem, *]; done))
      have kc5 := cell_regrown (w := ((((w.alloc (Obj.cells #[.int .i64 (aX), .int .i64 (aY)] 28)).alloc (Obj.cells #[.int .i64 (bX), .int .i64 (bY)] 28)).alloc (Obj.cells #[.int .i64 (0), .int .i64 (0), .int .i64 (0)] 25)).alloc (Obj.cells #[.int .i64 (bY - aY), .int .i64 (aX - bX), .int .i64 ((bY - aY) * aX + (aX - bX) * aY)] 25))) (a := ⟨w.heap.size + 1 + 1, 1, none⟩) (v := .int .i64 (0)) (by first | ((repeat (first | with_reducible assumption | with_reducible refine calloc ?_ _)); done) | (simp [go_sem]; done) | (simp [go_sem, *]; done))
      have kc6 := cell_regrown (w := ((((w.alloc (Obj.cells #[.int .i64 (aX), .int .i64 (aY)] 28)).alloc (Obj.cells #[.int .i64 (bX), .int .i64 (bY)] 28)).alloc (Obj.cells #[.int .i64 (0), .int .i64 (0), .int .i64 (0)] 25)).alloc (Obj.cells #[.int .i64 (bY - aY), .int .i64 (aX - bX), .int .i64 ((bY - aY) * aX + (aX - bX) * aY)] 25))) (a := ⟨w.heap.size + 1 + 1, 2, none⟩) (v := .int .i64 (0)) (by first | ((repeat (first | with_reducible assumption | with_reducible refine calloc ?_ _)); done) | (simp [go_sem]; done) | (simp [go_sem, *]; done))
      have kc7 := cell_regrown (w := ((((w.alloc (Obj.cells #[.int .i64 (aX), .int .i64 (aY)] 28)).alloc (Obj.cells #[.int .i64 (bX), .int .i64 (bY)] 28)).alloc (Obj.cells #[.int .i64 (0), .int .i64 (0), .int .i64 (0)] 25)).alloc (Obj.cells #[.int .i64 (bY - aY), .int .i64 (aX - bX), .int .i64 ((bY - aY) * aX + (aX - bX) * aY)] 25))) (a := ⟨w.heap.size + 1 + 1 + 1, 0, none⟩) (v := .int .i64 (bY - aY)) (by first | ((repeat (first | with_reducible assumption | with_reducible refine calloc ?_ _)); done) | (simp [go_sem]; done) | (simp [go_sem, *]; done))
      have kc8 := cell_regrown (w := ((((w.alloc (Obj.cells #[.int .i64 (aX), .int .i64 (aY)] 28)).alloc (Obj.cells #[.int .i64 (bX), .int .i64 (bY)] 28)).alloc (Obj.cells #[.int .i64 (0), .int .i64 (0), .int .i64 (0)] 25)).alloc (Obj.cells #[.int .i64 (bY - aY), .int .i64 (aX - bX), .int .i64 ((bY - aY) * aX + (aX - bX) * aY)] 25))) (a := ⟨w.heap.size + 1 + 1 + 1, 1, none⟩) (v := .int .i64 (aX - bX)) (by first | ((repeat (first | with_reducible assumption | with_reducible refine calloc ?_ _)); done) | (simp [go_sem]; done) | (simp [go_sem, *]; done))
      have kc9 := cell_regrown (w := ((((w.alloc (Obj.cells #[.int .i64 (aX), .int .i64 (aY)] 28)).alloc (Obj.cells #[.int .i64 (bX), .int .i64 (bY)] 28)).alloc (Obj.cells #[.int .i64 (0), .int .i64 (0), .int .i64 (0)] 25)).alloc (Obj.cells #[.int .i64 (bY - aY), .int .i64 (aX - bX), .int .i64 ((bY - aY) * aX + (aX - bX) * aY)] 25))) (a := ⟨w.heap.size + 1 + 1 + 1, 2, none⟩) (v := .int .i64 ((bY - aY) * aX + (aX - bX) * aY)) (by first | ((repeat (first | with_reducible assumption | with_reducible refine calloc ?_ _)); done) | (simp [go_sem]; done) | (simp [go_sem, *]; done))
      refine wp_region_quiet_below (by kernel_rfl) (by kernel_rfl) ?_
      repeat (go_big_quiet_step ((first | (go_at_call 80; with_reducible exact Calls.regrown_of (qb_same (K1.out _))) | (go_at_call 79; with_reducible exact Calls.regrown_of (qb_same (K2.out _))) | (go_at_call 80; with_reducible exact Calls.regrown_of (qb_same (K3.out _))) | (go_at_call 79; with_reducible exact Calls.regrown_of (qb_same (K4.out _))))))
      refine wpQuiet_nil ?_
      intro w1 hw'
      have b1 : Below ((((w.alloc (Obj.cells #[.int .i64 (aX), .int .i64 (aY)] 28)).alloc (Obj.cells #[.int .i64 (bX), .int .i64 (bY)] 28)).alloc (Obj.cells #[.int .i64 (0), .int .i64 (0), .int .i64 (0)] 25)).alloc (Obj.cells #[.int .i64 (bY - aY), .int .i64 (aX - bX), .int .i64 ((bY - aY) * aX + (aX - bX) * aY)] 25)).heap.size ((((w.alloc (Obj.cells #[.int .i64 (aX), .int .i64 (aY)] 28)).alloc (Obj.cells #[.int .i64 (bX), .int .i64 (bY)] 28)).alloc (Obj.cells #[.int .i64 (0), .int .i64 (0), .int .i64 (0)] 25)).alloc (Obj.cells #[.int .i64 (bY - aY), .int .i64 (aX - bX), .int .i64 ((bY - aY) * aX + (aX - bX) * aY)] 25)) w1 := by
        obtain ⟨pp, rfl⟩ := hw'
        exact below_regrown _ _ _
      clear hw' kc0 kc1 kc2 kc3 kc4 kc5 kc6 kc7 kc8 kc9
      have s1 := b1.size
      try simp at s1
      have z1_0 : w.heap.size < w1.heap.size := by omega
      have k1_0_0 : w1.cell? ⟨w.heap.size, 0, none⟩ = some (.int .i64 (aX)) := (b1.cell (p := ⟨w.heap.size, 0, none⟩) (by first | (simp; done) | (simp; omega) | omega)).trans (by first | with_reducible assumption | (simp [go_sem]; done) | (simp [go_sem, *]; done))
      have g1_0_0 : w1.frozen? ⟨w.heap.size, 0, none⟩ = false := (b1.frozen (p := ⟨w.heap.size, 0, none⟩) (by first | (simp; done) | (simp; omega) | omega)).trans (by first | with_reducible assumption | (simp [go_sem]; done) | (simp [go_sem, *]; done))
      have k1_0_1 : w1.cell? ⟨w.heap.size, 1, none⟩ = some (.int .i64 (aY)) := (b1.cell (p := ⟨w.heap.size, 1, none⟩) (by first | (simp; done) | (simp; omega) | omega)).trans (by first | with_reducible assumption | (simp [go_sem]; done) | (simp [go_sem, *]; done))
      have g1_0_1 : w1.frozen? ⟨w.heap.size, 1, none⟩ = false := (b1.frozen (p := ⟨w.heap.size, 1, none⟩) (by first | (simp; done) | (simp; omega) | omega)).trans (by first | with_reducible assumption | (simp [go_sem]; done) | (simp [go_sem, *]; done))
      have z1_1 : w.heap.size + 1 < w1.heap.size := by omega
      have k1_1_0 : w1.cell? ⟨w.heap.size + 1, 0, none⟩ = some (.int .i64 (bX)) := (b1.cell (p := ⟨w.heap.size + 1, 0, none⟩) (by first | (simp; done) | (simp; omega) | omega)).trans (by first | with_reducible assumption | (simp [go_sem]; done) | (simp [go_sem, *]; done))
      have g1_1_0 : w1.frozen? ⟨w.heap.size + 1, 0, none⟩ = false := (b1.frozen (p := ⟨w.heap.size + 1, 0, none⟩) (by first | (simp; done) | (simp; omega) | omega)).trans (by first | with_reducible assumption | (simp [go_sem]; done) | (simp [go_sem, *]; done))
      have k1_1_1 : w1.cell? ⟨w.heap.size + 1, 1, none⟩ = some (.int .i64 (bY)) := (b1.cell (p := ⟨w.heap.size + 1, 1, none⟩) (by first | (simp; done) | (simp; omega) | omega)).trans (by first | with_reducible assumption | (simp [go_sem]; done) | (simp [go_sem, *]; done))
      have g1_1_1 : w1.frozen? ⟨w.heap.size + 1, 1, none⟩ = false := (b1.frozen (p := ⟨w.heap.size + 1, 1, none⟩) (by first | (simp; done) | (simp; omega) | omega)).trans (by first | with_reducible assumption | (simp [go_sem]; done) | (simp [go_sem, *]; done))
      have z1_2 : w.heap.size + 1 + 1 < w1.heap.size := by omega
      have k1_2_0 : w1.cell? ⟨w.heap.size + 1 + 1, 0, none⟩ = some (.int .i64 (0)) := (b1.cell (p := ⟨w.heap.size + 1 + 1, 0, none⟩) (by first | (simp; done) | (simp; omega) | omega)).trans (by first | with_reducible assumption | (simp [go_sem]; done) | (simp [go_sem, *]; done))
      have g1_2_0 : w1.frozen? ⟨w.heap.size + 1 + 1, 0, none⟩ = false := (b1.frozen (p := ⟨w.heap.size + 1 + 1, 0, none⟩) (by first | (simp; done) | (simp; omega) | omega)).trans (by first | with_reducible assumption | (simp [go_sem]; done) | (simp [go_sem, *]; done))
      have k1_2_1 : w1.cell? ⟨w.heap.size + 1 + 1, 1, none⟩ = some (.int .i64 (0)) := (b1.cell (p := ⟨w.heap.size + 1 + 1, 1, none⟩) (by first | (simp; done) | (simp; omega) | omega)).trans (by first | with_reducible assumption | (simp [go_sem]; done) | (simp [go_sem, *]; done))
      have g1_2_1 : w1.frozen? ⟨w.heap.size + 1 + 1, 1, none⟩ = false := (b1.frozen (p := ⟨w.heap.size + 1 + 1, 1, none⟩) (by first | (simp; done) | (simp; omega) | omega)).trans (by first | with_reducible assumption | (simp [go_sem]; done) | (simp [go_sem, *]; done))
      have k1_2_2 : w1.cell? ⟨w.heap.size + 1 + 1, 2, none⟩ = some (.int .i64 (0)) := (b1.cell (p := ⟨w.heap.size + 1 + 1, 2, none⟩) (by first | (simp; done) | (simp; omega) | omega)).trans (by first | with_reducible assumption | (simp [go_sem]; done) | (simp [go_sem, *]; done))
      have g1_2_2 : w1.frozen? ⟨w.heap.size + 1 + 1, 2, none⟩ = false := (b1.frozen (p := ⟨w.heap.size + 1 + 1, 2, none⟩) (by first | (simp; done) | (simp; omega) | omega)).trans (by first | with_reducible assumption | (simp [go_sem]; done) | (simp [go_sem, *]; done))
      have z1_3 : w.heap.size + 1 + 1 + 1 < w1.heap.size := by omega
      have k1_3_0 : w1.cell? ⟨w.heap.size + 1 + 1 + 1, 0, none⟩ = some (.int .i64 (bY - aY)) := (b1.cell (p := ⟨w.heap.size + 1 + 1 + 1, 0, none⟩) (by first | (simp; done) | (simp; omega) | omega)).trans (by first | with_reducible assumption | (simp [go_sem]; done) | (simp [go_sem, *]; done))
      have g1_3_0 : w1.frozen? ⟨w.heap.size + 1 + 1 + 1, 0, none⟩ = false := (b1.frozen (p := ⟨w.heap.size + 1 + 1 + 1, 0, none⟩) (by first | (simp; done) | (simp; omega) | omega)).trans (by first | with_reducible assumption | (simp [go_sem]; done) | (simp [go_sem, *]; done))
      have k1_3_1 : w1.cell? ⟨w.heap.size + 1 + 1 + 1, 1, none⟩ = some (.int .i64 (aX - bX)) := (b1.cell (p := ⟨w.heap.size + 1 + 1 + 1, 1, none⟩) (by first | (simp; done) | (simp; omega) | omega)).trans (by first | with_reducible assumption | (simp [go_sem]; done) | (simp [go_sem, *]; done))
      have g1_3_1 : w1.frozen? ⟨w.heap.size + 1 + 1 + 1, 1, none⟩ = false := (b1.frozen (p := ⟨w.heap.size + 1 + 1 + 1, 1, none⟩) (by first | (simp; done) | (simp; omega) | omega)).trans (by first | with_reducible assumption | (simp [go_sem]; done) | (simp [go_sem, *]; done))
      have k1_3_2 : w1.cell? ⟨w.heap.size + 1 + 1 + 1, 2, none⟩ = some (.int .i64 ((bY - aY) * aX + (aX - bX) * aY)) := (b1.cell (p := ⟨w.heap.size + 1 + 1 + 1, 2, none⟩) (by first | (simp; done) | (simp; omega) | omega)).trans (by first | with_reducible assumption | (simp [go_sem]; done) | (simp [go_sem, *]; done))
      have g1_3_2 : w1.frozen? ⟨w.heap.size + 1 + 1 + 1, 2, none⟩ = false := (b1.frozen (p := ⟨w.heap.size + 1 + 1 + 1, 2, none⟩) (by first | (simp; done) | (simp; omega) | omega)).trans (by first | with_reducible assumption | (simp [go_sem]; done) | (simp [go_sem, *]; done))
      go_wp2
      have A3_0 : ∀ w', HldHi (w.heap.size + 1 + 1 + 1) w1 w' → w'.cell? ⟨w.heap.size + 1 + 1 + 1, 0, none⟩ = some (.int .i64 (bY - aY)) := fun w' h => h.cell (by omega) (by first | omega | (simp; done) | (simp; omega)) (by first | with_reducible assumption | (simp [go_sem]; done) | (simp [go_sem, *]; done))
      have A3_1 : ∀ w', HldHi (w.heap.size + 1 + 1 + 1) w1 w' → w'.cell? ⟨w.heap.size + 1 + 1 + 1, 1, none⟩ = some (.int .i64 (aX - bX)) := fun w' h => h.cell (by omega) (by first | omega | (simp; done) | (simp; omega)) (by first | with_reducible assumption | (simp [go_sem]; done) | (simp [go_sem, *]; done))
      have A3_2 : ∀ w', HldHi (w.heap.size + 1 + 1 + 1) w1 w' → w'.cell? ⟨w.heap.size + 1 + 1 + 1, 2, none⟩ = some (.int .i64 ((bY - aY) * aX + (aX - bX) * aY)) := fun w' h => h.cell (by omega) (by first | omega | (simp; done) | (simp; omega)) (by first | with_reducible assumption | (simp [go_sem]; done) | (simp [go_sem, *]; done))
      have Y2_0 : w1.cell? ⟨w.heap.size + 1 + 1, 0, none⟩ = some (.int .i64 (0)) := by first | with_reducible assumption | (simp [go_sem]; done) | (simp [go_sem, *]; done)
      have X2_0 : w1.frozen? ⟨w.heap.size + 1 + 1, 0, none⟩ = false := by first | with_reducible assumption | (simp [go_sem]; done) | (simp [go_sem, *]; done)
      have Y2_1 : w1.cell? ⟨w.heap.size + 1 + 1, 1, none⟩ = some (.int .i64 (0)) := by first | with_reducible assumption | (simp [go_sem]; done) | (simp [go_sem, *]; done)
      have X2_1 : w1.frozen? ⟨w.heap.size + 1 + 1, 1, none⟩ = false := by first | with_reducible assumption | (simp [go_sem]; done) | (simp [go_sem, *]; done)
      have Y2_2 : w1.cell? ⟨w.heap.size + 1 + 1, 2, none⟩ = some (.int .i64 (0)) := by first | with_reducible assumption | (simp [go_sem]; done) | (simp [go_sem, *]; done)
      have X2_2 : w1.frozen? ⟨w.heap.size + 1 + 1, 2, none⟩ = false := by first | with_reducible assumption | (simp [go_sem]; done) | (simp [go_sem, *]; done)
      go_region_held3 (fun w' => HldHi (w.heap.size + 1 + 1 + 1) w1 w') ((repeat (first | with_reducible assumption | with_reducible exact HldHi.start _ _ | with_reducible exact HldHi.refl _ _ | with_reducible refine HldHi.drew ?_ | with_reducible refine HldHi.alloc ?_ _ | with_reducible refine HldHi.set ?_ (by dsimp only; omega) _ | with_reducible refine HldHi.setN ?_ (by first | (simp; done) | (simp; omega)) _))) (fail)
      all_goals go_wp2
      all_goals (refine bodyPost_ret (v := .agg #[.int .i64 (ltA aX aY bX bY), .int .i64 (ltB aX aY bX bY), .int .i64 (ltC aX aY bX bY)]) (by simp [results, Try.results41, go_sem, E1.out, E2.out, E3.out, IntWalk.i64_in (ltA aX aY bX bY) (by omega), IntWalk.i64_in (ltB aX aY bX bY) (by omega), IntWalk.i64_in (ltC aX aY bX bY) (by omega), *]) rfl ⟨rfl, ?_⟩)
      all_goals (repeat (first | with_reducible exact Below.refl _ _ | with_reducible refine bl_alloc ?_ _ | with_reducible refine bl_drew ?_ | with_reducible refine bl_set ?_ (by first | (simp; done) | (simp; omega)) _ | with_reducible refine bl_call (by assumption) ?_))

end Go.Proofs.Ytgnjmcfkehgdfaa
