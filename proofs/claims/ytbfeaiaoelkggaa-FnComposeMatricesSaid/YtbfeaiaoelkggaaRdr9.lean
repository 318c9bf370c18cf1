/- What the draws yield. -/
import Derived.Test.YtbfeaiaoelkggaaRdr2
import Derived.Deep.RegionWith
namespace Go.Proofs.Ytbfeaiaoelkggaa
open Go.RowKit
set_option linter.unusedVariables false

def D4 (M : Int) (w : World) (e : Ending) (w' : World) : Prop := ∃ x y z u : Int, e = .returned (.agg #[.int .i64 (x), .int .i64 (y), .int .i64 (z), .int .i64 (u)]) ∧ (-M ≤ x ∧ x ≤ M) ∧ (-M ≤ y ∧ y ≤ M) ∧ (-M ≤ z ∧ z ≤ M) ∧ (-M ≤ u ∧ u ≤ M) ∧ Below w.heap.size w w'

def D44 (M : Int) (w : World) (e : Ending) (w' : World) : Prop := ∃ x y z u p q r s : Int, e = .returned (.tuple #[.agg #[.int .i64 (x), .int .i64 (y), .int .i64 (z), .int .i64 (u)], .agg #[.int .i64 (p), .int .i64 (q), .int .i64 (r), .int .i64 (s)]]) ∧ (-M ≤ x ∧ x ≤ M) ∧ (-M ≤ y ∧ y ≤ M) ∧ (-M ≤ z ∧ z ≤ M) ∧ (-M ≤ u ∧ u ≤ M) ∧ (-M ≤ p ∧ p ≤ M) ∧ (-M ≤ q ∧ q ≤ M) ∧ (-M ≤ r ∧ r ≤ M) ∧ (-M ≤ s ∧ s ≤ M) ∧ Below w.heap.size w w'

set_option maxHeartbeats 4000000 in
theorem rdr_randomMatrix (B R : Nat) (a : Option Addr) (n c p : Nat) (w : World) (h : Rdr w B R a n c p) (hp1 : p ≤ 90000) :
    Calls Try.prog 52 #[.pointer (some ⟨R, 0, none⟩)] w (RAg4 B R a n c (p + 5) 2000 w) := by
  have hR := h.lt
  have hB := h.bR
  go_enter Try.func52, Try.ntmps52
  have n0 : ¬ w.heap.size = R := by omega
  go_wp2_with fail
  refine (rdr_pick B R a n c (p) 2 _ (by (repeat (first | with_reducible assumption | with_reducible refine Rdr.alloc ?_ _ | with_reducible refine Rdr.below ?_ (by with_reducible assumption) | with_reducible refine Rdr.drew ?_ | with_reducible refine Rdr.drewN ?_ _ | with_reducible refine Rdr.set ?_ (by dsimp only; omega) (by dsimp only; omega) _))) (by omega) (by omega) (by omega)).mono ?_
  rintro e w1 ⟨v1, rfl, l1, u1, rd1, b1⟩
  have s1 := b1.size
  try simp at s1
  have t1 := rd1.lt
  have z1_0 : w.heap.size < w1.heap.size := by omega
  have k1_0_0 : w1.cell? ⟨w.heap.size, 0, none⟩ = some (.int .i64 (0)) := (b1.cell (p := ⟨w.heap.size, 0, none⟩) (by first | (simp; done) | (simp; omega) | omega) n0).trans (by first | with_reducible assumption | (simp [go_sem]; done) | (simp [go_sem, *]; done))
  have g1_0_0 : w1.frozen? ⟨w.heap.size, 0, none⟩ = false := (b1.frozen (p := ⟨w.heap.size, 0, none⟩) (by first | (simp; done) | (simp; omega) | omega) n0).trans (by first | with_reducible assumption | (simp [go_sem]; done) | (simp [go_sem, *]; done))
  have k1_0_1 : w1.cell? ⟨w.heap.size, 1, none⟩ = some (.int .i64 (0)) := (b1.cell (p := ⟨w.heap.size, 1, none⟩) (by first | (simp; done) | (simp; omega) | omega) n0).trans (by first | with_reducible assumption | (simp [go_sem]; done) | (simp [go_sem, *]; done))
  have g1_0_1 : w1.frozen? ⟨w.heap.size, 1, none⟩ = false := (b1.frozen (p := ⟨w.heap.size, 1, none⟩) (by first | (simp; done) | (simp; omega) | omega) n0).trans (by first | with_reducible assumption | (simp [go_sem]; done) | (simp [go_sem, *]; done))
  have k1_0_2 : w1.cell? ⟨w.heap.size, 2, none⟩ = some (.int .i64 (0)) := (b1.cell (p := ⟨w.heap.size, 2, none⟩) (by first | (simp; done) | (simp; omega) | omega) n0).trans (by first | with_reducible assumption | (simp [go_sem]; done) | (simp [go_sem, *]; done))
  have g1_0_2 : w1.frozen? ⟨w.heap.size, 2, none⟩ = false := (b1.frozen (p := ⟨w.heap.size, 2, none⟩) (by first | (simp; done) | (simp; omega) | omega) n0).trans (by first | with_reducible assumption | (simp [go_sem]; done) | (simp [go_sem, *]; done))
  have k1_0_3 : w1.cell? ⟨w.heap.size, 3, none⟩ = some (.int .i64 (0)) := (b1.cell (p := ⟨w.heap.size, 3, none⟩) (by first | (simp; done) | (simp; omega) | omega) n0).trans (by first | with_reducible assumption | (simp [go_sem]; done) | (simp [go_sem, *]; done))
  have g1_0_3 : w1.frozen? ⟨w.heap.size, 3, none⟩ = false := (b1.frozen (p := ⟨w.heap.size, 3, none⟩) (by first | (simp; done) | (simp; omega) | omega) n0).trans (by first | with_reducible assumption | (simp [go_sem]; done) | (simp [go_sem, *]; done))
  by_cases e0 : v1 = 0
  · have i0 : (v1 == 0) = true := by simp [e0]
    clear e0
    go_wp2_with fail
    refine (rdr_pick B R a n c (p + 1) 5 _ (by (repeat (first | with_reducible assumption | with_reducible refine Rdr.alloc ?_ _ | with_reducible refine Rdr.below ?_ (by with_reducible assumption) | with_reducible refine Rdr.drew ?_ | with_reducible refine Rdr.drewN ?_ _ | with_reducible refine Rdr.set ?_ (by dsimp only; omega) (by dsimp only; omega) _))) (by omega) (by omega) (by omega)).mono ?_
    rintro e w2 ⟨v2, rfl, l2, u2, rd2, b2⟩
    have s2 := b2.size
    try simp at s2
    have t2 := rd2.lt
    have z2_0 : w.heap.size < w2.heap.size := by omega
    have k2_0_0 : w2.cell? ⟨w.heap.size, 0, none⟩ = some (.int .i64 (0)) := (b2.cell (p := ⟨w.heap.size, 0, none⟩) (by first | (simp; done) | (simp; omega) | omega) n0).trans (by first | with_reducible assumption | (simp [go_sem]; done) | (simp [go_sem, *]; done))
    have g2_0_0 : w2.frozen? ⟨w.heap.size, 0, none⟩ = false := (b2.frozen (p := ⟨w.heap.size, 0, none⟩) (by first | (simp; done) | (simp; omega) | omega) n0).trans (by first | with_reducible assumption | (simp [go_sem]; done) | (simp [go_sem, *]; done))
    have k2_0_1 : w2.cell? ⟨w.heap.size, 1, none⟩ = some (.int .i64 (0)) := (b2.cell (p := ⟨w.heap.size, 1, none⟩) (by first | (simp; done) | (simp; omega) | omega) n0).trans (by first | with_reducible assumption | (simp [go_sem]; done) | (simp [go_sem, *]; done))
    have g2_0_1 : w2.frozen? ⟨w.heap.size, 1, none⟩ = false := (b2.frozen (p := ⟨w.heap.size, 1, none⟩) (by first | (simp; done) | (simp; omega) | omega) n0).trans (by first | with_reducible assumption | (simp [go_sem]; done) | (simp [go_sem, *]; done))
    have k2_0_2 : w2.cell? ⟨w.heap.size, 2, none⟩ = some (.int .i64 (0)) := (b2.cell (p := ⟨w.heap.size, 2, none⟩) (by first | (simp; done) | (simp; omega) | omega) n0).trans (by first | with_reducible assumption | (simp [go_sem]; done) | (simp [go_sem, *]; done))
    have g2_0_2 : w2.frozen? ⟨w.heap.size, 2, none⟩ = false := (b2.frozen (p := ⟨w.heap.size, 2, none⟩) (by first | (simp; done) | (simp; omega) | omega) n0).trans (by first | with_reducible assumption | (simp [go_sem]; done) | (simp [go_sem, *]; done))
    have k2_0_3 : w2.cell? ⟨w.heap.size, 3, none⟩ = some (.int .i64 (0)) := (b2.cell (p := ⟨w.heap.size, 3, none⟩) (by first | (simp; done) | (simp; omega) | omega) n0).trans (by first | with_reducible assumption | (simp [go_sem]; done) | (simp [go_sem, *]; done))
    have g2_0_3 : w2.frozen? ⟨w.heap.size, 3, none⟩ = false := (b2.frozen (p := ⟨w.heap.size, 3, none⟩) (by first | (simp; done) | (simp; omega) | omega) n0).trans (by first | with_reducible assumption | (simp [go_sem]; done) | (simp [go_sem, *]; done))
    clear k1_0_0 g1_0_0 k1_0_1 g1_0_1 k1_0_2 g1_0_2 k1_0_3 g1_0_3
    go_wp2_with fail
    refine (rdr_pick B R a n c (p + 1 + 1) 5 _ (by (repeat (first | with_reducible assumption | with_reducible refine Rdr.alloc ?_ _ | with_reducible refine Rdr.below ?_ (by with_reducible assumption) | with_reducible refine Rdr.drew ?_ | with_reducible refine Rdr.drewN ?_ _ | with_reducible refine Rdr.set ?_ (by dsimp only; omega) (by dsimp only; omega) _))) (by omega) (by omega) (by omega)).mono ?_
    rintro e w3 ⟨v3, rfl, l3, u3, rd3, b3⟩
    have s3 := b3.size
    try simp at s3
    have t3 := rd3.lt
    have z3_0 : w.heap.size < w3.heap.size := by omega
    have k3_0_0 : w3.cell? ⟨w.heap.size, 0, none⟩ = some (.int .i64 (0)) := (b3.cell (p := ⟨w.heap.size, 0, none⟩) (by first | (simp; done) | (simp; omega) | omega) n0).trans (by first | with_reducible assumption | (simp [go_sem]; done) | (simp [go_sem, *]; done))
    have g3_0_0 : w3.frozen? ⟨w.heap.size, 0, none⟩ = false := (b3.frozen (p := ⟨w.heap.size, 0, none⟩) (by first | (simp; done) | (simp; omega) | omega) n0).trans (by first | with_reducible assumption | (simp [go_sem]; done) | (simp [go_sem, *]; done))
    have k3_0_1 : w3.cell? ⟨w.heap.size, 1, none⟩ = some (.int .i64 (0)) := (b3.cell (p := ⟨w.heap.size, 1, none⟩) (by first | (simp; done) | (simp; omega) | omega) n0).trans (by first | with_reducible assumption | (simp [go_sem]; done) | (simp [go_sem, *]; done))
    have g3_0_1 : w3.frozen? ⟨w.heap.size, 1, none⟩ = false := (b3.frozen (p := ⟨w.heap.size, 1, none⟩) (by first | (simp; done) | (simp; omega) | omega) n0).trans (by first | with_reducible assumption | (simp [go_sem]; done) | (simp [go_sem, *]; done))
    have k3_0_2 : w3.cell? ⟨w.heap.size, 2, none⟩ = some (.int .i64 (0)) := (b3.cell (p := ⟨w.heap.size, 2, none⟩) (by first | (simp; done) | (simp; omega) | omega) n0).trans (by first | with_reducible assumption | (simp [go_sem]; done) | (simp [go_sem, *]; done))
    have g3_0_2 : w3.frozen? ⟨w.heap.size, 2, none⟩ = false := (b3.frozen (p := ⟨w.heap.size, 2, none⟩) (by first | (simp; done) | (simp; omega) | omega) n0).trans (by first | with_reducible assumption | (simp [go_sem]; done) | (simp [go_sem, *]; done))
    have k3_0_3 : w3.cell? ⟨w.heap.size, 3, none⟩ = some (.int .i64 (0)) := (b3.cell (p := ⟨w.heap.size, 3, none⟩) (by first | (simp; done) | (simp; omega) | omega) n0).trans (by first | with_reducible assumption | (simp [go_sem]; done) | (simp [go_sem, *]; done))
    have g3_0_3 : w3.frozen? ⟨w.heap.size, 3, none⟩ = false := (b3.frozen (p := ⟨w.heap.size, 3, none⟩) (by first | (simp; done) | (simp; omega) | omega) n0).trans (by first | with_reducible assumption | (simp [go_sem]; done) | (simp [go_sem, *]; done))
    clear k2_0_0 g2_0_0 k2_0_1 g2_0_1 k2_0_2 g2_0_2 k2_0_3 g2_0_3
    obtain ⟨m1l, m1u⟩ := mul_bd (v2 - 2) (v3 - 2) 10 10 (by omega) (by omega) (by omega) (by omega)
    go_wp2
    refine bodyPost_ret (v := .agg #[.int .i64 (1 + (v2 - 2) * (v3 - 2)), .int .i64 (v2 - 2), .int .i64 (v3 - 2), .int .i64 (1)]) (by simp [results, Try.results52, go_sem, *]) rfl ⟨_, _, _, _, p + 1 + 1 + 1, rfl, ⟨by omega, by omega⟩, ⟨by omega, by omega⟩, ⟨by omega, by omega⟩, ⟨by omega, by omega⟩, by omega, by (repeat (first | with_reducible assumption | with_reducible refine Rdr.alloc ?_ _ | with_reducible refine Rdr.below ?_ (by with_reducible assumption) | with_reducible refine Rdr.drew ?_ | with_reducible refine Rdr.drewN ?_ _ | with_reducible refine Rdr.set ?_ (by dsimp only; omega) (by dsimp only; omega) _)), by (repeat (first | with_reducible assumption | with_reducible exact But.refl _ _ | with_reducible refine But.alloc ?_ _ | with_reducible refine But.drew ?_ | with_reducible refine But.drewN ?_ _ | with_reducible refine But.set ?_ (Or.inr (by dsimp only; omega)) _ | with_reducible refine But.trans ?_ (by with_reducible assumption) | with_reducible refine But.below ?_ (by with_reducible assumption)))⟩
  · have i0 : (v1 == 0) = false := by simp [e0]
    go_wp2_with fail
    refine (rdr_pick B R a n c (p + 1) 7 _ (by (repeat (first | with_reducible assumption | with_reducible refine Rdr.alloc ?_ _ | with_reducible refine Rdr.below ?_ (by with_reducible assumption) | with_reducible refine Rdr.drew ?_ | with_reducible refine Rdr.drewN ?_ _ | with_reducible refine Rdr.set ?_ (by dsimp only; omega) (by dsimp only; omega) _))) (by omega) (by omega) (by omega)).mono ?_
    rintro e w2 ⟨v2, rfl, l2, u2, rd2, b2⟩
    have s2 := b2.size
    try simp at s2
    have t2 := rd2.lt
    have z2_0 : w.heap.size < w2.heap.size := by omega
    have k2_0_0 : w2.cell? ⟨w.heap.size, 0, none⟩ = some (.int .i64 (0)) := (b2.cell (p := ⟨w.heap.size, 0, none⟩) (by first | (simp; done) | (simp; omega) | omega) n0).trans (by first | with_reducible assumption | (simp [go_sem]; done) | (simp [go_sem, *]; done))
    have g2_0_0 : w2.frozen? ⟨w.heap.size, 0, none⟩ = false := (b2.frozen (p := ⟨w.heap.size, 0, none⟩) (by first | (simp; done) | (simp; omega) | omega) n0).trans (by first | with_reducible assumption | (simp [go_sem]; done) | (simp [go_sem, *]; done))
    have k2_0_1 : w2.cell? ⟨w.heap.size, 1, none⟩ = some (.int .i64 (0)) := (b2.cell (p := ⟨w.heap.size, 1, none⟩) (by first | (simp; done) | (simp; omega) | omega) n0).trans (by first | with_reducible assumption | (simp [go_sem]; done) | (simp [go_sem, *]; done))
    have g2_0_1 : w2.frozen? ⟨w.heap.size, 1, none⟩ = false := (b2.frozen (p := ⟨w.heap.size, 1, none⟩) (by first | (simp; done) | (simp; omega) | omega) n0).trans (by first | with_reducible assumption | (simp [go_sem]; done) | (simp [go_sem, *]; done))
    have k2_0_2 : w2.cell? ⟨w.heap.size, 2, none⟩ = some (.int .i64 (0)) := (b2.cell (p := ⟨w.heap.size, 2, none⟩) (by first | (simp; done) | (simp; omega) | omega) n0).trans (by first | with_reducible assumption | (simp [go_sem]; done) | (simp [go_sem, *]; done))
    have g2_0_2 : w2.frozen? ⟨w.heap.size, 2, none⟩ = false := (b2.frozen (p := ⟨w.heap.size, 2, none⟩) (by first | (simp; done) | (simp; omega) | omega) n0).trans (by first | with_reducible assumption | (simp [go_sem]; done) | (simp [go_sem, *]; done))
    have k2_0_3 : w2.cell? ⟨w.heap.size, 3, none⟩ = some (.int .i64 (0)) := (b2.cell (p := ⟨w.heap.size, 3, none⟩) (by first | (simp; done) | (simp; omega) | omega) n0).trans (by first | with_reducible assumption | (simp [go_sem]; done) | (simp [go_sem, *]; done))
    have g2_0_3 : w2.frozen? ⟨w.heap.size, 3, none⟩ = false := (b2.frozen (p := ⟨w.heap.size, 3, none⟩) (by first | (simp; done) | (simp; omega) | omega) n0).trans (by first | with_reducible assumption | (simp [go_sem]; done) | (simp [go_sem, *]; done))
    clear k1_0_0 g1_0_0 k1_0_1 g1_0_1 k1_0_2 g1_0_2 k1_0_3 g1_0_3
    go_wp2_with fail
    refine (rdr_pick B R a n c (p + 1 + 1) 7 _ (by (repeat (first | with_reducible assumption | with_reducible refine Rdr.alloc ?_ _ | with_reducible refine Rdr.below ?_ (by with_reducible assumption) | with_reducible refine Rdr.drew ?_ | with_reducible refine Rdr.drewN ?_ _ | with_reducible refine Rdr.set ?_ (by dsimp only; omega) (by dsimp only; omega) _))) (by omega) (by omega) (by omega)).mono ?_
    rintro e w3 ⟨v3, rfl, l3, u3, rd3, b3⟩
    have s3 := b3.size
    try simp at s3
    have t3 := rd3.lt
    have z3_0 : w.heap.size < w3.heap.size := by omega
    have k3_0_0 : w3.cell? ⟨w.heap.size, 0, none⟩ = some (.int .i64 (0)) := (b3.cell (p := ⟨w.heap.size, 0, none⟩) (by first | (simp; done) | (simp; omega) | omega) n0).trans (by first | with_reducible assumption | (simp [go_sem]; done) | (simp [go_sem, *]; done))
    have g3_0_0 : w3.frozen? ⟨w.heap.size, 0, none⟩ = false := (b3.frozen (p := ⟨w.heap.size, 0, none⟩) (by first | (simp; done) | (simp; omega) | omega) n0).trans (by first | with_reducible assumption | (simp [go_sem]; done) | (simp [go_sem, *]; done))
    have k3_0_1 : w3.cell? ⟨w.heap.size, 1, none⟩ = some (.int .i64 (0)) := (b3.cell (p := ⟨w.heap.size, 1, none⟩) (by first | (simp; done) | (simp; omega) | omega) n0).trans (by first | with_reducible assumption | (simp [go_sem]; done) | (simp [go_sem, *]; done))
    have g3_0_1 : w3.frozen? ⟨w.heap.size, 1, none⟩ = false := (b3.frozen (p := ⟨w.heap.size, 1, none⟩) (by first | (simp; done) | (simp; omega) | omega) n0).trans (by first | with_reducible assumption | (simp [go_sem]; done) | (simp [go_sem, *]; done))
    have k3_0_2 : w3.cell? ⟨w.heap.size, 2, none⟩ = some (.int .i64 (0)) := (b3.cell (p := ⟨w.heap.size, 2, none⟩) (by first | (simp; done) | (simp; omega) | omega) n0).trans (by first | with_reducible assumption | (simp [go_sem]; done) | (simp [go_sem, *]; done))
    have g3_0_2 : w3.frozen? ⟨w.heap.size, 2, none⟩ = false := (b3.frozen (p := ⟨w.heap.size, 2, none⟩) (by first | (simp; done) | (simp; omega) | omega) n0).trans (by first | with_reducible assumption | (simp [go_sem]; done) | (simp [go_sem, *]; done))
    have k3_0_3 : w3.cell? ⟨w.heap.size, 3, none⟩ = some (.int .i64 (0)) := (b3.cell (p := ⟨w.heap.size, 3, none⟩) (by first | (simp; done) | (simp; omega) | omega) n0).trans (by first | with_reducible assumption | (simp [go_sem]; done) | (simp [go_sem, *]; done))
    have g3_0_3 : w3.frozen? ⟨w.heap.size, 3, none⟩ = false := (b3.frozen (p := ⟨w.heap.size, 3, none⟩) (by first | (simp; done) | (simp; omega) | omega) n0).trans (by first | with_reducible assumption | (simp [go_sem]; done) | (simp [go_sem, *]; done))
    clear k2_0_0 g2_0_0 k2_0_1 g2_0_1 k2_0_2 g2_0_2 k2_0_3 g2_0_3
    go_wp2_with fail
    refine (rdr_pick B R a n c (p + 1 + 1 + 1) 7 _ (by (repeat (first | with_reducible assumption | with_reducible refine Rdr.alloc ?_ _ | with_reducible refine Rdr.below ?_ (by with_reducible assumption) | with_reducible refine Rdr.drew ?_ | with_reducible refine Rdr.drewN ?_ _ | with_reducible refine Rdr.set ?_ (by dsimp only; omega) (by dsimp only; omega) _))) (by omega) (by omega) (by omega)).mono ?_
    rintro e w4 ⟨v4, rfl, l4, u4, rd4, b4⟩
    have s4 := b4.size
    try simp at s4
    have t4 := rd4.lt
    have z4_0 : w.heap.size < w4.heap.size := by omega
    have k4_0_0 : w4.cell? ⟨w.heap.size, 0, none⟩ = some (.int .i64 (0)) := (b4.cell (p := ⟨w.heap.size, 0, none⟩) (by first | (simp; done) | (simp; omega) | omega) n0).trans (by first | with_reducible assumption | (simp [go_sem]; done) | (simp [go_sem, *]; done))
    have g4_0_0 : w4.frozen? ⟨w.heap.size, 0, none⟩ = false := (b4.frozen (p := ⟨w.heap.size, 0, none⟩) (by first | (simp; done) | (simp; omega) | omega) n0).trans (by first | with_reducible assumption | (simp [go_sem]; done) | (simp [go_sem, *]; done))
    have k4_0_1 : w4.cell? ⟨w.heap.size, 1, none⟩ = some (.int .i64 (0)) := (b4.cell (p := ⟨w.heap.size, 1, none⟩) (by first | (simp; done) | (simp; omega) | omega) n0).trans (by first | with_reducible assumption | (simp [go_sem]; done) | (simp [go_sem, *]; done))
    have g4_0_1 : w4.frozen? ⟨w.heap.size, 1, none⟩ = false := (b4.frozen (p := ⟨w.heap.size, 1, none⟩) (by first | (simp; done) | (simp; omega) | omega) n0).trans (by first | with_reducible assumption | (simp [go_sem]; done) | (simp [go_sem, *]; done))
    have k4_0_2 : w4.cell? ⟨w.heap.size, 2, none⟩ = some (.int .i64 (0)) := (b4.cell (p := ⟨w.heap.size, 2, none⟩) (by first | (simp; done) | (simp; omega) | omega) n0).trans (by first | with_reducible assumption | (simp [go_sem]; done) | (simp [go_sem, *]; done))
    have g4_0_2 : w4.frozen? ⟨w.heap.size, 2, none⟩ = false := (b4.frozen (p := ⟨w.heap.size, 2, none⟩) (by first | (simp; done) | (simp; omega) | omega) n0).trans (by first | with_reducible assumption | (simp [go_sem]; done) | (simp [go_sem, *]; done))
    have k4_0_3 : w4.cell? ⟨w.heap.size, 3, none⟩ = some (.int .i64 (0)) := (b4.cell (p := ⟨w.heap.size, 3, none⟩) (by first | (simp; done) | (simp; omega) | omega) n0).trans (by first | with_reducible assumption | (simp [go_sem]; done) | (simp [go_sem, *]; done))
    have g4_0_3 : w4.frozen? ⟨w.heap.size, 3, none⟩ = false := (b4.frozen (p := ⟨w.heap.size, 3, none⟩) (by first | (simp; done) | (simp; omega) | omega) n0).trans (by first | with_reducible assumption | (simp [go_sem]; done) | (simp [go_sem, *]; done))
    clear k3_0_0 g3_0_0 k3_0_1 g3_0_1 k3_0_2 g3_0_2 k3_0_3 g3_0_3
    go_wp2_with fail
    refine (rdr_pick B R a n c (p + 1 + 1 + 1 + 1) 7 _ (by (repeat (first | with_reducible assumption | with_reducible refine Rdr.alloc ?_ _ | with_reducible refine Rdr.below ?_ (by with_reducible assumption) | with_reducible refine Rdr.drew ?_ | with_reducible refine Rdr.drewN ?_ _ | with_reducible refine Rdr.set ?_ (by dsimp only; omega) (by dsimp only; omega) _))) (by omega) (by omega) (by omega)).mono ?_
    rintro e w5 ⟨v5, rfl, l5, u5, rd5, b5⟩
    have s5 := b5.size
    try simp at s5
    have t5 := rd5.lt
    have z5_0 : w.heap.size < w5.heap.size := by omega
    have k5_0_0 : w5.cell? ⟨w.heap.size, 0, none⟩ = some (.int .i64 (0)) := (b5.cell (p := ⟨w.heap.size, 0, none⟩) (by first | (simp; done) | (simp; omega) | omega) n0).trans (by first | with_reducible assumption | (simp [go_sem]; done) | (simp [go_sem, *]; done))
    have g5_0_0 : w5.frozen? ⟨w.heap.size, 0, none⟩ = false := (b5.frozen (p := ⟨w.heap.size, 0, none⟩) (by first | (simp; done) | (simp; omega) | omega) n0).trans (by first | with_reducible assumption | (simp [go_sem]; done) | (simp [go_sem, *]; done))
    have k5_0_1 : w5.cell? ⟨w.heap.size, 1, none⟩ = some (.int .i64 (0)) := (b5.cell (p := ⟨w.heap.size, 1, none⟩) (by first | (simp; done) | (simp; omega) | omega) n0).trans (by first | with_reducible assumption | (simp [go_sem]; done) | (simp [go_sem, *]; done))
    have g5_0_1 : w5.frozen? ⟨w.heap.size, 1, none⟩ = false := (b5.frozen (p := ⟨w.heap.size, 1, none⟩) (by first | (simp; done) | (simp; omega) | omega) n0).trans (by first | with_reducible assumption | (simp [go_sem]; done) | (simp [go_sem, *]; done))
    have k5_0_2 : w5.cell? ⟨w.heap.size, 2, none⟩ = some (.int .i64 (0)) := (b5.cell (p := ⟨w.heap.size, 2, none⟩) (by first | (simp; done) | (simp; omega) | omega) n0).trans (by first | with_reducible assumption | (simp [go_sem]; done) | (simp [go_sem, *]; done))
    have g5_0_2 : w5.frozen? ⟨w.heap.size, 2, none⟩ = false := (b5.frozen (p := ⟨w.heap.size, 2, none⟩) (by first | (simp; done) | (simp; omega) | omega) n0).trans (by first | with_reducible assumption | (simp [go_sem]; done) | (simp [go_sem, *]; done))
    have k5_0_3 : w5.cell? ⟨w.heap.size, 3, none⟩ = some (.int .i64 (0)) := (b5.cell (p := ⟨w.heap.size, 3, none⟩) (by first | (simp; done) | (simp; omega) | omega) n0).trans (by first | with_reducible assumption | (simp [go_sem]; done) | (simp [go_sem, *]; done))
    have g5_0_3 : w5.frozen? ⟨w.heap.size, 3, none⟩ = false := (b5.frozen (p := ⟨w.heap.size, 3, none⟩) (by first | (simp; done) | (simp; omega) | omega) n0).trans (by first | with_reducible assumption | (simp [go_sem]; done) | (simp [go_sem, *]; done))
    clear k4_0_0 g4_0_0 k4_0_1 g4_0_1 k4_0_2 g4_0_2 k4_0_3 g4_0_3
    go_wp2
    refine bodyPost_ret (v := .agg #[.int .i64 (v2 - 3), .int .i64 (v3 - 3), .int .i64 (v4 - 3), .int .i64 (v5 - 3)]) (by simp [results, Try.results52, go_sem, *]) rfl ⟨_, _, _, _, p + 1 + 1 + 1 + 1 + 1, rfl, ⟨by omega, by omega⟩, ⟨by omega, by omega⟩, ⟨by omega, by omega⟩, ⟨by omega, by omega⟩, by omega, by (repeat (first | with_reducible assumption | with_reducible refine Rdr.alloc ?_ _ | with_reducible refine Rdr.below ?_ (by with_reducible assumption) | with_reducible refine Rdr.drew ?_ | with_reducible refine Rdr.drewN ?_ _ | with_reducible refine Rdr.set ?_ (by dsimp only; omega) (by dsimp only; omega) _)), by (repeat (first | with_reducible assumption | with_reducible exact But.refl _ _ | with_reducible refine But.alloc ?_ _ | with_reducible refine But.drew ?_ | with_reducible refine But.drewN ?_ _ | with_reducible refine But.set ?_ (Or.inr (by dsimp only; omega)) _ | with_reducible refine But.trans ?_ (by with_reducible assumption) | with_reducible refine But.below ?_ (by with_reducible assumption)))⟩

set_option maxHeartbeats 2000000 in
theorem rdr_anyMatrix (B R : Nat) (a : Option Addr) (n c p : Nat) (w : World) (h : Rdr w B R a n c p) (hp1 : p ≤ 80000) :
    Calls Try.prog 25 #[.pointer (some ⟨R, 0, none⟩)] w (RAg4 B R a n c (p + 7) 2000 w) := by
  have hR := h.lt
  have hB := h.bR
  go_enter Try.func25, Try.ntmps25
  have n0 : ¬ w.heap.size = R := by omega
  go_wp2_with fail
  refine (rdr_randomMatrix B R a n c (p) _ (by (repeat (first | with_reducible assumption | with_reducible refine Rdr.alloc ?_ _ | with_reducible refine Rdr.below ?_ (by with_reducible assumption) | with_reducible refine Rdr.drew ?_ | with_reducible refine Rdr.drewN ?_ _ | with_reducible refine Rdr.set ?_ (by dsimp only; omega) (by dsimp only; omega) _))) (by omega)).mono ?_
  rintro e w1 ⟨x1, y1, z1, u1, q1, rfl, ⟨lx1, ux1⟩, ⟨ly1, uy1⟩, ⟨lz1, uz1⟩, ⟨lu1, uu1⟩, hq1, rd1, b1⟩
  have s1 := b1.size
  try simp at s1
  have t1 := rd1.lt
  have z1_0 : w.heap.size < w1.heap.size := by omega
  have k1_0_0 : w1.cell? ⟨w.heap.size, 0, none⟩ = some (.int .i64 (0)) := (b1.cell (p := ⟨w.heap.size, 0, none⟩) (by first | (simp; done) | (simp; omega) | omega) n0).trans (by first | with_reducible assumption | (simp [go_sem]; done) | (simp [go_sem, *]; done))
  have g1_0_0 : w1.frozen? ⟨w.heap.size, 0, none⟩ = false := (b1.frozen (p := ⟨w.heap.size, 0, none⟩) (by first | (simp; done) | (simp; omega) | omega) n0).trans (by first | with_reducible assumption | (simp [go_sem]; done) | (simp [go_sem, *]; done))
  have k1_0_1 : w1.cell? ⟨w.heap.size, 1, none⟩ = some (.int .i64 (0)) := (b1.cell (p := ⟨w.heap.size, 1, none⟩) (by first | (simp; done) | (simp; omega) | omega) n0).trans (by first | with_reducible assumption | (simp [go_sem]; done) | (simp [go_sem, *]; done))
  have g1_0_1 : w1.frozen? ⟨w.heap.size, 1, none⟩ = false := (b1.frozen (p := ⟨w.heap.size, 1, none⟩) (by first | (simp; done) | (simp; omega) | omega) n0).trans (by first | with_reducible assumption | (simp [go_sem]; done) | (simp [go_sem, *]; done))
  have k1_0_2 : w1.cell? ⟨w.heap.size, 2, none⟩ = some (.int .i64 (0)) := (b1.cell (p := ⟨w.heap.size, 2, none⟩) (by first | (simp; done) | (simp; omega) | omega) n0).trans (by first | with_reducible assumption | (simp [go_sem]; done) | (simp [go_sem, *]; done))
  have g1_0_2 : w1.frozen? ⟨w.heap.size, 2, none⟩ = false := (b1.frozen (p := ⟨w.heap.size, 2, none⟩) (by first | (simp; done) | (simp; omega) | omega) n0).trans (by first | with_reducible assumption | (simp [go_sem]; done) | (simp [go_sem, *]; done))
  have k1_0_3 : w1.cell? ⟨w.heap.size, 3, none⟩ = some (.int .i64 (0)) := (b1.cell (p := ⟨w.heap.size, 3, none⟩) (by first | (simp; done) | (simp; omega) | omega) n0).trans (by first | with_reducible assumption | (simp [go_sem]; done) | (simp [go_sem, *]; done))
  have g1_0_3 : w1.frozen? ⟨w.heap.size, 3, none⟩ = false := (b1.frozen (p := ⟨w.heap.size, 3, none⟩) (by first | (simp; done) | (simp; omega) | omega) n0).trans (by first | with_reducible assumption | (simp [go_sem]; done) | (simp [go_sem, *]; done))
  have n1 : ¬ w1.heap.size = R := by omega
  go_wp2_with fail
  refine (rdr_pick B R a n c (q1) 14 _ (by (repeat (first | with_reducible assumption | with_reducible refine Rdr.alloc ?_ _ | with_reducible refine Rdr.below ?_ (by with_reducible assumption) | with_reducible refine Rdr.drew ?_ | with_reducible refine Rdr.drewN ?_ _ | with_reducible refine Rdr.set ?_ (by dsimp only; omega) (by dsimp only; omega) _))) (by omega) (by omega) (by omega)).mono ?_
  rintro e w2 ⟨v2, rfl, l2, u2, rd2, b2⟩
  have s2 := b2.size
  try simp at s2
  have t2 := rd2.lt
  have z2_0 : w.heap.size < w2.heap.size := by omega
  have k2_0_0 : w2.cell? ⟨w.heap.size, 0, none⟩ = some (.int .i64 (0)) := (b2.cell (p := ⟨w.heap.size, 0, none⟩) (by first | (simp; done) | (simp; omega) | omega) n0).trans (by first | with_reducible assumption | (simp [go_sem]; done) | (simp [go_sem, *]; done))
  have g2_0_0 : w2.frozen? ⟨w.heap.size, 0, none⟩ = false := (b2.frozen (p := ⟨w.heap.size, 0, none⟩) (by first | (simp; done) | (simp; omega) | omega) n0).trans (by first | with_reducible assumption | (simp [go_sem]; done) | (simp [go_sem, *]; done))
  have k2_0_1 : w2.cell? ⟨w.heap.size, 1, none⟩ = some (.int .i64 (0)) := (b2.cell (p := ⟨w.heap.size, 1, none⟩) (by first | (simp; done) | (simp; omega) | omega) n0).trans (by first | with_reducible assumption | (simp [go_sem]; done) | (simp [go_sem, *]; done))
  have g2_0_1 : w2.frozen? ⟨w.heap.size, 1, none⟩ = false := (b2.frozen (p := ⟨w.heap.size, 1, none⟩) (by first | (simp; done) | (simp; omega) | omega) n0).trans (by first | with_reducible assumption | (simp [go_sem]; done) | (simp [go_sem, *]; done))
  have k2_0_2 : w2.cell? ⟨w.heap.size, 2, none⟩ = some (.int .i64 (0)) := (b2.cell (p := ⟨w.heap.size, 2, none⟩) (by first | (simp; done) | (simp; omega) | omega) n0).trans (by first | with_reducible assumption | (simp [go_sem]; done) | (simp [go_sem, *]; done))
  have g2_0_2 : w2.frozen? ⟨w.heap.size, 2, none⟩ = false := (b2.frozen (p := ⟨w.heap.size, 2, none⟩) (by first | (simp; done) | (simp; omega) | omega) n0).trans (by first | with_reducible assumption | (simp [go_sem]; done) | (simp [go_sem, *]; done))
  have k2_0_3 : w2.cell? ⟨w.heap.size, 3, none⟩ = some (.int .i64 (0)) := (b2.cell (p := ⟨w.heap.size, 3, none⟩) (by first | (simp; done) | (simp; omega) | omega) n0).trans (by first | with_reducible assumption | (simp [go_sem]; done) | (simp [go_sem, *]; done))
  have g2_0_3 : w2.frozen? ⟨w.heap.size, 3, none⟩ = false := (b2.frozen (p := ⟨w.heap.size, 3, none⟩) (by first | (simp; done) | (simp; omega) | omega) n0).trans (by first | with_reducible assumption | (simp [go_sem]; done) | (simp [go_sem, *]; done))
  have z2_1 : w1.heap.size < w2.heap.size := by omega
  have k2_1_0 : w2.cell? ⟨w1.heap.size, 0, none⟩ = some (.int .i64 (x1)) := (b2.cell (p := ⟨w1.heap.size, 0, none⟩) (by first | (simp; done) | (simp; omega) | omega) n1).trans (by first | with_reducible assumption | (simp [go_sem]; done) | (simp [go_sem, *]; done))
  have g2_1_0 : w2.frozen? ⟨w1.heap.size, 0, none⟩ = false := (b2.frozen (p := ⟨w1.heap.size, 0, none⟩) (by first | (simp; done) | (simp; omega) | omega) n1).trans (by first | with_reducible assumption | (simp [go_sem]; done) | (simp [go_sem, *]; done))
  have k2_1_1 : w2.cell? ⟨w1.heap.size, 1, none⟩ = some (.int .i64 (y1)) := (b2.cell (p := ⟨w1.heap.size, 1, none⟩) (by first | (simp; done) | (simp; omega) | omega) n1).trans (by first | with_reducible assumption | (simp [go_sem]; done) | (simp [go_sem, *]; done))
  have g2_1_1 : w2.frozen? ⟨w1.heap.size, 1, none⟩ = false := (b2.frozen (p := ⟨w1.heap.size, 1, none⟩) (by first | (simp; done) | (simp; omega) | omega) n1).trans (by first | with_reducible assumption | (simp [go_sem]; done) | (simp [go_sem, *]; done))
  have k2_1_2 : w2.cell? ⟨w1.heap.size, 2, none⟩ = some (.int .i64 (z1)) := (b2.cell (p := ⟨w1.heap.size, 2, none⟩) (by first | (simp; done) | (simp; omega) | omega) n1).trans (by first | with_reducible assumption | (simp [go_sem]; done) | (simp [go_sem, *]; done))
  have g2_1_2 : w2.frozen? ⟨w1.heap.size, 2, none⟩ = false := (b2.frozen (p := ⟨w1.heap.size, 2, none⟩) (by first | (simp; done) | (simp; omega) | omega) n1).trans (by first | with_reducible assumption | (simp [go_sem]; done) | (simp [go_sem, *]; done))
  have k2_1_3 : w2.cell? ⟨w1.heap.size, 3, none⟩ = some (.int .i64 (u1)) := (b2.cell (p := ⟨w1.heap.size, 3, none⟩) (by first | (simp; done) | (simp; omega) | omega) n1).trans (by first | with_reducible assumption | (simp [go_sem]; done) | (simp [go_sem, *]; done))
  have g2_1_3 : w2.frozen? ⟨w1.heap.size, 3, none⟩ = false := (b2.frozen (p := ⟨w1.heap.size, 3, none⟩) (by first | (simp; done) | (simp; omega) | omega) n1).trans (by first | with_reducible assumption | (simp [go_sem]; done) | (simp [go_sem, *]; done))
  clear k1_0_0 g1_0_0 k1_0_1 g1_0_1 k1_0_2 g1_0_2 k1_0_3 g1_0_3
  by_cases e0 : v2 = 0
  · have i0 : (v2 == 0) = true := by simp [e0]
    clear e0
    go_wp2_with fail
    refine (rdr_one B R a n c (q1 + 1) _ 3 (-2000) (2000) _ (by (repeat (first | with_reducible assumption | with_reducible refine Rdr.alloc ?_ _ | with_reducible refine Rdr.below ?_ (by with_reducible assumption) | with_reducible refine Rdr.drew ?_ | with_reducible refine Rdr.drewN ?_ _ | with_reducible refine Rdr.set ?_ (by dsimp only; omega) (by dsimp only; omega) _))) (by omega) (ListOf.mk' _ _ _ _ _ _ (by intro j hj; rcases j with _ | _ | _ | j <;> first | exact ⟨_, by decide, by decide, rfl⟩ | omega)) (by omega) (by omega) (by omega)).mono ?_
    rintro e w3 ⟨v3, q3, rfl, ⟨l3, u3⟩, hq3, rd3, b3⟩
    have s3 := b3.size
    try simp at s3
    have t3 := rd3.lt
    have z3_0 : w.heap.size < w3.heap.size := by omega
    have k3_0_0 : w3.cell? ⟨w.heap.size, 0, none⟩ = some (.int .i64 (0)) := (b3.cell (p := ⟨w.heap.size, 0, none⟩) (by first | (simp; done) | (simp; omega) | omega) n0).trans (by first | with_reducible assumption | (simp [go_sem]; done) | (simp [go_sem, *]; done))
    have g3_0_0 : w3.frozen? ⟨w.heap.size, 0, none⟩ = false := (b3.frozen (p := ⟨w.heap.size, 0, none⟩) (by first | (simp; done) | (simp; omega) | omega) n0).trans (by first | with_reducible assumption | (simp [go_sem]; done) | (simp [go_sem, *]; done))
    have k3_0_1 : w3.cell? ⟨w.heap.size, 1, none⟩ = some (.int .i64 (0)) := (b3.cell (p := ⟨w.heap.size, 1, none⟩) (by first | (simp; done) | (simp; omega) | omega) n0).trans (by first | with_reducible assumption | (simp [go_sem]; done) | (simp [go_sem, *]; done))
    have g3_0_1 : w3.frozen? ⟨w.heap.size, 1, none⟩ = false := (b3.frozen (p := ⟨w.heap.size, 1, none⟩) (by first | (simp; done) | (simp; omega) | omega) n0).trans (by first | with_reducible assumption | (simp [go_sem]; done) | (simp [go_sem, *]; done))
    have k3_0_2 : w3.cell? ⟨w.heap.size, 2, none⟩ = some (.int .i64 (0)) := (b3.cell (p := ⟨w.heap.size, 2, none⟩) (by first | (simp; done) | (simp; omega) | omega) n0).trans (by first | with_reducible assumption | (simp [go_sem]; done) | (simp [go_sem, *]; done))
    have g3_0_2 : w3.frozen? ⟨w.heap.size, 2, none⟩ = false := (b3.frozen (p := ⟨w.heap.size, 2, none⟩) (by first | (simp; done) | (simp; omega) | omega) n0).trans (by first | with_reducible assumption | (simp [go_sem]; done) | (simp [go_sem, *]; done))
    have k3_0_3 : w3.cell? ⟨w.heap.size, 3, none⟩ = some (.int .i64 (0)) := (b3.cell (p := ⟨w.heap.size, 3, none⟩) (by first | (simp; done) | (simp; omega) | omega) n0).trans (by first | with_reducible assumption | (simp [go_sem]; done) | (simp [go_sem, *]; done))
    have g3_0_3 : w3.frozen? ⟨w.heap.size, 3, none⟩ = false := (b3.frozen (p := ⟨w.heap.size, 3, none⟩) (by first | (simp; done) | (simp; omega) | omega) n0).trans (by first | with_reducible assumption | (simp [go_sem]; done) | (simp [go_sem, *]; done))
    have z3_1 : w1.heap.size < w3.heap.size := by omega
    have k3_1_0 : w3.cell? ⟨w1.heap.size, 0, none⟩ = some (.int .i64 (x1)) := (b3.cell (p := ⟨w1.heap.size, 0, none⟩) (by first | (simp; done) | (simp; omega) | omega) n1).trans (by first | with_reducible assumption | (simp [go_sem]; done) | (simp [go_sem, *]; done))
    have g3_1_0 : w3.frozen? ⟨w1.heap.size, 0, none⟩ = false := (b3.frozen (p := ⟨w1.heap.size, 0, none⟩) (by first | (simp; done) | (simp; omega) | omega) n1).trans (by first | with_reducible assumption | (simp [go_sem]; done) | (simp [go_sem, *]; done))
    have k3_1_1 : w3.cell? ⟨w1.heap.size, 1, none⟩ = some (.int .i64 (y1)) := (b3.cell (p := ⟨w1.heap.size, 1, none⟩) (by first | (simp; done) | (simp; omega) | omega) n1).trans (by first | with_reducible assumption | (simp [go_sem]; done) | (simp [go_sem, *]; done))
    have g3_1_1 : w3.frozen? ⟨w1.heap.size, 1, none⟩ = false := (b3.frozen (p := ⟨w1.heap.size, 1, none⟩) (by first | (simp; done) | (simp; omega) | omega) n1).trans (by first | with_reducible assumption | (simp [go_sem]; done) | (simp [go_sem, *]; done))
    have k3_1_2 : w3.cell? ⟨w1.heap.size, 2, none⟩ = some (.int .i64 (z1)) := (b3.cell (p := ⟨w1.heap.size, 2, none⟩) (by first | (simp; done) | (simp; omega) | omega) n1).trans (by first | with_reducible assumption | (simp [go_sem]; done) | (simp [go_sem, *]; done))
    have g3_1_2 : w3.frozen? ⟨w1.heap.size, 2, none⟩ = false := (b3.frozen (p := ⟨w1.heap.size, 2, none⟩) (by first | (simp; done) | (simp; omega) | omega) n1).trans (by first | with_reducible assumption | (simp [go_sem]; done) | (simp [go_sem, *]; done))
    have k3_1_3 : w3.cell? ⟨w1.heap.size, 3, none⟩ = some (.int .i64 (u1)) := (b3.cell (p := ⟨w1.heap.size, 3, none⟩) (by first | (simp; done) | (simp; omega) | omega) n1).trans (by first | with_reducible assumption | (simp [go_sem]; done) | (simp [go_sem, *]; done))
    have g3_1_3 : w3.frozen? ⟨w1.heap.size, 3, none⟩ = false := (b3.frozen (p := ⟨w1.heap.size, 3, none⟩) (by first | (simp; done) | (simp; omega) | omega) n1).trans (by first | with_reducible assumption | (simp [go_sem]; done) | (simp [go_sem, *]; done))
    clear k2_0_0 g2_0_0 k2_0_1 g2_0_1 k2_0_2 g2_0_2 k2_0_3 g2_0_3 k2_1_0 g2_1_0 k2_1_1 g2_1_1 k2_1_2 g2_1_2 k2_1_3 g2_1_3
    have df1_0 : ¬ w1.heap.size = w.heap.size := by omega
    have f1k0_0 : (w3.setCell ⟨w1.heap.size, 0, none⟩ (.int .i64 (v3))).cell? ⟨w.heap.size, 0, none⟩ = some (.int .i64 (0)) := csetO df1_0 (by assumption)
    have f1g0_0 : (w3.setCell ⟨w1.heap.size, 0, none⟩ (.int .i64 (v3))).frozen? ⟨w.heap.size, 0, none⟩ = false := by rw [World.frozen?_setCell]; assumption
    have f1k0_1 : (w3.setCell ⟨w1.heap.size, 0, none⟩ (.int .i64 (v3))).cell? ⟨w.heap.size, 1, none⟩ = some (.int .i64 (0)) := csetO df1_0 (by assumption)
    have f1g0_1 : (w3.setCell ⟨w1.heap.size, 0, none⟩ (.int .i64 (v3))).frozen? ⟨w.heap.size, 1, none⟩ = false := by rw [World.frozen?_setCell]; assumption
    have f1k0_2 : (w3.setCell ⟨w1.heap.size, 0, none⟩ (.int .i64 (v3))).cell? ⟨w.heap.size, 2, none⟩ = some (.int .i64 (0)) := csetO df1_0 (by assumption)
    have f1g0_2 : (w3.setCell ⟨w1.heap.size, 0, none⟩ (.int .i64 (v3))).frozen? ⟨w.heap.size, 2, none⟩ = false := by rw [World.frozen?_setCell]; assumption
    have f1k0_3 : (w3.setCell ⟨w1.heap.size, 0, none⟩ (.int .i64 (v3))).cell? ⟨w.heap.size, 3, none⟩ = some (.int .i64 (0)) := csetO df1_0 (by assumption)
    have f1g0_3 : (w3.setCell ⟨w1.heap.size, 0, none⟩ (.int .i64 (v3))).frozen? ⟨w.heap.size, 3, none⟩ = false := by rw [World.frozen?_setCell]; assumption
    have f1k1_0 : (w3.setCell ⟨w1.heap.size, 0, none⟩ (.int .i64 (v3))).cell? ⟨w1.heap.size, 0, none⟩ = some (.int .i64 (v3)) := csetS (by assumption) _
    have f1g1_0 : (w3.setCell ⟨w1.heap.size, 0, none⟩ (.int .i64 (v3))).frozen? ⟨w1.heap.size, 0, none⟩ = false := by rw [World.frozen?_setCell]; assumption
    have f1k1_1 : (w3.setCell ⟨w1.heap.size, 0, none⟩ (.int .i64 (v3))).cell? ⟨w1.heap.size, 1, none⟩ = some (.int .i64 (y1)) := csetN _ (by assumption) (by omega)
    have f1g1_1 : (w3.setCell ⟨w1.heap.size, 0, none⟩ (.int .i64 (v3))).frozen? ⟨w1.heap.size, 1, none⟩ = false := by rw [World.frozen?_setCell]; assumption
    have f1k1_2 : (w3.setCell ⟨w1.heap.size, 0, none⟩ (.int .i64 (v3))).cell? ⟨w1.heap.size, 2, none⟩ = some (.int .i64 (z1)) := csetN _ (by assumption) (by omega)
    have f1g1_2 : (w3.setCell ⟨w1.heap.size, 0, none⟩ (.int .i64 (v3))).frozen? ⟨w1.heap.size, 2, none⟩ = false := by rw [World.frozen?_setCell]; assumption
    have f1k1_3 : (w3.setCell ⟨w1.heap.size, 0, none⟩ (.int .i64 (v3))).cell? ⟨w1.heap.size, 3, none⟩ = some (.int .i64 (u1)) := csetN _ (by assumption) (by omega)
    have f1g1_3 : (w3.setCell ⟨w1.heap.size, 0, none⟩ (.int .i64 (v3))).frozen? ⟨w1.heap.size, 3, none⟩ = false := by rw [World.frozen?_setCell]; assumption
    go_wp2
    refine bodyPost_ret (v := .agg #[.int .i64 (v3), .int .i64 (y1), .int .i64 (z1), .int .i64 (u1)]) (by simp [results, Try.results25, go_sem, *]) rfl ⟨_, _, _, _, q3, rfl, ⟨by omega, by omega⟩, ⟨by omega, by omega⟩, ⟨by omega, by omega⟩, ⟨by omega, by omega⟩, by omega, by (repeat (first | with_reducible assumption | with_reducible refine Rdr.alloc ?_ _ | with_reducible refine Rdr.below ?_ (by with_reducible assumption) | with_reducible refine Rdr.drew ?_ | with_reducible refine Rdr.drewN ?_ _ | with_reducible refine Rdr.set ?_ (by dsimp only; omega) (by dsimp only; omega) _)), by (repeat (first | with_reducible assumption | with_reducible exact But.refl _ _ | with_reducible refine But.alloc ?_ _ | with_reducible refine But.drew ?_ | with_reducible refine But.drewN ?_ _ | with_reducible refine But.set ?_ (Or.inr (by dsimp only; omega)) _ | with_reducible refine But.trans ?_ (by with_reducible assumption) | with_reducible refine But.below ?_ (by with_reducible assumption)))⟩
  · have i0 : (v2 == 0) = false := by simp [e0]
    by_cases e1 : v2 = 1
    · have i1 : (v2 == 1) = true := by simp [e1]
      clear e1
      go_wp2_with fail
      refine (rdr_one B R a n c (q1 + 1) _ 3 (-2000) (2000) _ (by (repeat (first | with_reducible assumption | with_reducible refine Rdr.alloc ?_ _ | with_reducible refine Rdr.below ?_ (by with_reducible assumption) | with_reducible refine Rdr.drew ?_ | with_reducible refine Rdr.drewN ?_ _ | with_reducible refine Rdr.set ?_ (by dsimp only; omega) (by dsimp only; omega) _))) (by omega) (ListOf.mk' _ _ _ _ _ _ (by intro j hj; rcases j with _ | _ | _ | j <;> first | exact ⟨_, by decide, by decide, rfl⟩ | omega)) (by omega) (by omega) (by omega)).mono ?_
      rintro e w3 ⟨v3, q3, rfl, ⟨l3, u3⟩, hq3, rd3, b3⟩
      have s3 := b3.size
      try simp at s3
      have t3 := rd3.lt
      have z3_0 : w.heap.size < w3.heap.size := by omega
      have k3_0_0 : w3.cell? ⟨w.heap.size, 0, none⟩ = some (.int .i64 (0)) := (b3.cell (p := ⟨w.heap.size, 0, none⟩) (by first | (simp; done) | (simp; omega) | omega) n0).trans (by first | with_reducible assumption | (simp [go_sem]; done) | (simp [go_sem, *]; done))
      have g3_0_0 : w3.frozen? ⟨w.heap.size, 0, none⟩ = false := (b3.frozen (p := ⟨w.heap.size, 0, none⟩) (by first | (simp; done) | (simp; omega) | omega) n0).trans (by first | with_reducible assumption | (simp [go_sem]; done) | (simp [go_sem, *]; done))
      have k3_0_1 : w3.cell? ⟨w.heap.size, 1, none⟩ = some (.int .i64 (0)) := (b3.cell (p := ⟨w.heap.size, 1, none⟩) (by first | (simp; done) | (simp; omega) | omega) n0).trans (by first | with_reducible assumption | (simp [go_sem]; done) | (simp [go_sem, *]; done))
      have g3_0_1 : w3.frozen? ⟨w.heap.size, 1, none⟩ = false := (b3.frozen (p := ⟨w.heap.size, 1, none⟩) (by first | (simp; done) | (simp; omega) | omega) n0).trans (by first | with_reducible assumption | (simp [go_sem]; done) | (simp [go_sem, *]; done))
      have k3_0_2 : w3.cell? ⟨w.heap.size, 2, none⟩ = some (.int .i64 (0)) := (b3.cell (p := ⟨w.heap.size, 2, none⟩) (by first | (simp; done) | (simp; omega) | omega) n0).trans (by first | with_reducible assumption | (simp [go_sem]; done) | (simp [go_sem, *]; done))
      have g3_0_2 : w3.frozen? ⟨w.heap.size, 2, none⟩ = false := (b3.frozen (p := ⟨w.heap.size, 2, none⟩) (by first | (simp; done) | (simp; omega) | omega) n0).trans (by first | with_reducible assumption | (simp [go_sem]; done) | (simp [go_sem, *]; done))
      have k3_0_3 : w3.cell? ⟨w.heap.size, 3, none⟩ = some (.int .i64 (0)) := (b3.cell (p := ⟨w.heap.size, 3, none⟩) (by first | (simp; done) | (simp; omega) | omega) n0).trans (by first | with_reducible assumption | (simp [go_sem]; done) | (simp [go_sem, *]; done))
      have g3_0_3 : w3.frozen? ⟨w.heap.size, 3, none⟩ = false := (b3.frozen (p := ⟨w.heap.size, 3, none⟩) (by first | (simp; done) | (simp; omega) | omega) n0).trans (by first | with_reducible assumption | (simp [go_sem]; done) | (simp [go_sem, *]; done))
      have z3_1 : w1.heap.size < w3.heap.size := by omega
      have k3_1_0 : w3.cell? ⟨w1.heap.size, 0, none⟩ = some (.int .i64 (x1)) := (b3.cell (p := ⟨w1.heap.size, 0, none⟩) (by first | (simp; done) | (simp; omega) | omega) n1).trans (by first | with_reducible assumption | (simp [go_sem]; done) | (simp [go_sem, *]; done))
      have g3_1_0 : w3.frozen? ⟨w1.heap.size, 0, none⟩ = false := (b3.frozen (p := ⟨w1.heap.size, 0, none⟩) (by first | (simp; done) | (simp; omega) | omega) n1).trans (by first | with_reducible assumption | (simp [go_sem]; done) | (simp [go_sem, *]; done))
      have k3_1_1 : w3.cell? ⟨w1.heap.size, 1, none⟩ = some (.int .i64 (y1)) := (b3.cell (p := ⟨w1.heap.size, 1, none⟩) (by first | (simp; done) | (simp; omega) | omega) n1).trans (by first | with_reducible assumption | (simp [go_sem]; done) | (simp [go_sem, *]; done))
      have g3_1_1 : w3.frozen? ⟨w1.heap.size, 1, none⟩ = false := (b3.frozen (p := ⟨w1.heap.size, 1, none⟩) (by first | (simp; done) | (simp; omega) | omega) n1).trans (by first | with_reducible assumption | (simp [go_sem]; done) | (simp [go_sem, *]; done))
      have k3_1_2 : w3.cell? ⟨w1.heap.size, 2, none⟩ = some (.int .i64 (z1)) := (b3.cell (p := ⟨w1.heap.size, 2, none⟩) (by first | (simp; done) | (simp; omega) | omega) n1).trans (by first | with_reducible assumption | (simp [go_sem]; done) | (simp [go_sem, *]; done))
      have g3_1_2 : w3.frozen? ⟨w1.heap.size, 2, none⟩ = false := (b3.frozen (p := ⟨w1.heap.size, 2, none⟩) (by first | (simp; done) | (simp; omega) | omega) n1).trans (by first | with_reducible assumption | (simp [go_sem]; done) | (simp [go_sem, *]; done))
      have k3_1_3 : w3.cell? ⟨w1.heap.size, 3, none⟩ = some (.int .i64 (u1)) := (b3.cell (p := ⟨w1.heap.size, 3, none⟩) (by first | (simp; done) | (simp; omega) | omega) n1).trans (by first | with_reducible assumption | (simp [go_sem]; done) | (simp [go_sem, *]; done))
      have g3_1_3 : w3.frozen? ⟨w1.heap.size, 3, none⟩ = false := (b3.frozen (p := ⟨w1.heap.size, 3, none⟩) (by first | (simp; done) | (simp; omega) | omega) n1).trans (by first | with_reducible assumption | (simp [go_sem]; done) | (simp [go_sem, *]; done))
      clear k2_0_0 g2_0_0 k2_0_1 g2_0_1 k2_0_2 g2_0_2 k2_0_3 g2_0_3 k2_1_0 g2_1_0 k2_1_1 g2_1_1 k2_1_2 g2_1_2 k2_1_3 g2_1_3
      have df1_0 : ¬ w1.heap.size = w.heap.size := by omega
      have f1k0_0 : (w3.setCell ⟨w1.heap.size, 3, none⟩ (.int .i64 (v3))).cell? ⟨w.heap.size, 0, none⟩ = some (.int .i64 (0)) := csetO df1_0 (by assumption)
      have f1g0_0 : (w3.setCell ⟨w1.heap.size, 3, none⟩ (.int .i64 (v3))).frozen? ⟨w.heap.size, 0, none⟩ = false := by rw [World.frozen?_setCell]; assumption
      have f1k0_1 : (w3.setCell ⟨w1.heap.size, 3, none⟩ (.int .i64 (v3))).cell? ⟨w.heap.size, 1, none⟩ = some (.int .i64 (0)) := csetO df1_0 (by assumption)
      have f1g0_1 : (w3.setCell ⟨w1.heap.size, 3, none⟩ (.int .i64 (v3))).frozen? ⟨w.heap.size, 1, none⟩ = false := by rw [World.frozen?_setCell]; assumption
      have f1k0_2 : (w3.setCell ⟨w1.heap.size, 3, none⟩ (.int .i64 (v3))).cell? ⟨w.heap.size, 2, none⟩ = some (.int .i64 (0)) := csetO df1_0 (by assumption)
      have f1g0_2 : (w3.setCell ⟨w1.heap.size, 3, none⟩ (.int .i64 (v3))).frozen? ⟨w.heap.size, 2, none⟩ = false := by rw [World.frozen?_setCell]; assumption
      have f1k0_3 : (w3.setCell ⟨w1.heap.size, 3, none⟩ (.int .i64 (v3))).cell? ⟨w.heap.size, 3, none⟩ = some (.int .i64 (0)) := csetO df1_0 (by assumption)
      have f1g0_3 : (w3.setCell ⟨w1.heap.size, 3, none⟩ (.int .i64 (v3))).frozen? ⟨w.heap.size, 3, none⟩ = false := by rw [World.frozen?_setCell]; assumption
      have f1k1_0 : (w3.setCell ⟨w1.heap.size, 3, none⟩ (.int .i64 (v3))).cell? ⟨w1.heap.size, 0, none⟩ = some (.int .i64 (x1)) := csetN _ (by assumption) (by omega)
      have f1g1_0 : (w3.setCell ⟨w1.heap.size, 3, none⟩ (.int .i64 (v3))).frozen? ⟨w1.heap.size, 0, none⟩ = false := by rw [World.frozen?_setCell]; assumption
      have f1k1_1 : (w3.setCell ⟨w1.heap.size, 3, none⟩ (.int .i64 (v3))).cell? ⟨w1.heap.size, 1, none⟩ = some (.int .i64 (y1)) := csetN _ (by assumption) (by omega)
      have f1g1_1 : (w3.setCell ⟨w1.heap.size, 3, none⟩ (.int .i64 (v3))).frozen? ⟨w1.heap.size, 1, none⟩ = false := by rw [World.frozen?_setCell]; assumption
      have f1k1_2 : (w3.setCell ⟨w1.heap.size, 3, none⟩ (.int .i64 (v3))).cell? ⟨w1.heap.size, 2, none⟩ = some (.int .i64 (z1)) := csetN _ (by assumption) (by omega)
      have f1g1_2 : (w3.setCell ⟨w1.heap.size, 3, none⟩ (.int .i64 (v3))).frozen? ⟨w1.heap.size, 2, none⟩ = false := by rw [World.frozen?_setCell]; assumption
      have f1k1_3 : (w3.setCell ⟨w1.heap.size, 3, none⟩ (.int .i64 (v3))).cell? ⟨w1.heap.size, 3, none⟩ = some (.int .i64 (v3)) := csetS (by assumption) _
      have f1g1_3 : (w3.setCell ⟨w1.heap.size, 3, none⟩ (.int .i64 (v3))).frozen? ⟨w1.heap.size, 3, none⟩ = false := by rw [World.frozen?_setCell]; assumption
      go_wp2
      refine bodyPost_ret (v := .agg #[.int .i64 (x1), .int .i64 (y1), .int .i64 (z1), .int .i64 (v3)]) (by simp [results, Try.results25, go_sem, *]) rfl ⟨_, _, _, _, q3, rfl, ⟨by omega, by omega⟩, ⟨by omega, by omega⟩, ⟨by omega, by omega⟩, ⟨by omega, by omega⟩, by omega, by (repeat (first | with_reducible assumption | with_reducible refine Rdr.alloc ?_ _ | with_reducible refine Rdr.below ?_ (by with_reducible assumption) | with_reducible refine Rdr.drew ?_ | with_reducible refine Rdr.drewN ?_ _ | with_reducible refine Rdr.set ?_ (by dsimp only; omega) (by dsimp only; omega) _)), by (repeat (first | with_reducible assumption | with_reducible exact But.refl _ _ | with_reducible refine But.alloc ?_ _ | with_reducible refine But.drew ?_ | with_reducible refine But.drewN ?_ _ | with_reducible refine But.set ?_ (Or.inr (by dsimp only; omega)) _ | with_reducible refine But.trans ?_ (by with_reducible assumption) | with_reducible refine But.below ?_ (by with_reducible assumption)))⟩
    · have i1 : (v2 == 1) = false := by simp [e1]
      go_wp2
      refine bodyPost_ret (v := .agg #[.int .i64 (x1), .int .i64 (y1), .int .i64 (z1), .int .i64 (u1)]) (by simp [results, Try.results25, go_sem, *]) rfl ⟨_, _, _, _, q1 + 1, rfl, ⟨by omega, by omega⟩, ⟨by omega, by omega⟩, ⟨by omega, by omega⟩, ⟨by omega, by omega⟩, by omega, by (repeat (first | with_reducible assumption | with_reducible refine Rdr.alloc ?_ _ | with_reducible refine Rdr.below ?_ (by with_reducible assumption) | with_reducible refine Rdr.drew ?_ | with_reducible refine Rdr.drewN ?_ _ | with_reducible refine Rdr.set ?_ (by dsimp only; omega) (by dsimp only; omega) _)), by (repeat (first | with_reducible assumption | with_reducible exact But.refl _ _ | with_reducible refine But.alloc ?_ _ | with_reducible refine But.drew ?_ | with_reducible refine But.drewN ?_ _ | with_reducible refine But.set ?_ (Or.inr (by dsimp only; omega)) _ | with_reducible refine But.trans ?_ (by with_reducible assumption) | with_reducible refine But.below ?_ (by with_reducible assumption)))⟩

set_option maxHeartbeats 2000000 in
theorem rdr_DrawComposeMatrices (B : Nat) (a : Option Addr) (n c : Nat) (w : World) (hB0 : B ≤ w.heap.size) (hs : BytesOf B w a n) (hc : n ≤ c) (hc2 : c ≤ 9223372036854775807) :
    Calls Try.prog 7 #[.slice a n c] w (D44 2000 w) := by
  have HS := Lib.hid hs
  clear hs
  go_enter Try.func7, Try.ntmps7
  go_wp2_with fail
  refine (rdr_new B a n c _ (by first | omega | (simp; done) | (simp; omega)) (HS.out.below hB0 (by repeat (first | with_reducible exact Below.refl _ _ | with_reducible refine bl_alloc ?_ _))) hc hc2).mono ?_
  rintro e w1 ⟨R, ar, nr, cr, rfl, hR, rd1, b1⟩
  try simp at hR
  have n0 : ¬ w.heap.size = R := by omega
  have n1 : ¬ w.heap.size + 1 = R := by omega
  have s1 := b1.size
  try simp at s1
  have z1_0 : w.heap.size < w1.heap.size := by omega
  have k1_0_0 : w1.cell? ⟨w.heap.size, 0, none⟩ = some (.int .i64 (0)) := (b1.cell (p := ⟨w.heap.size, 0, none⟩) (by first | (simp; done) | (simp; omega) | omega)).trans (by first | with_reducible assumption | (simp [go_sem]; done) | (simp [go_sem, *]; done))
  have g1_0_0 : w1.frozen? ⟨w.heap.size, 0, none⟩ = false := (b1.frozen (p := ⟨w.heap.size, 0, none⟩) (by first | (simp; done) | (simp; omega) | omega)).trans (by first | with_reducible assumption | (simp [go_sem]; done) | (simp [go_sem, *]; done))
  have k1_0_1 : w1.cell? ⟨w.heap.size, 1, none⟩ = some (.int .i64 (0)) := (b1.cell (p := ⟨w.heap.size, 1, none⟩) (by first | (simp; done) | (simp; omega) | omega)).trans (by first | with_reducible assumption | (simp [go_sem]; done) | (simp [go_sem, *]; done))
  have g1_0_1 : w1.frozen? ⟨w.heap.size, 1, none⟩ = false := (b1.frozen (p := ⟨w.heap.size, 1, none⟩) (by first | (simp; done) | (simp; omega) | omega)).trans (by first | with_reducible assumption | (simp [go_sem]; done) | (simp [go_sem, *]; done))
  have k1_0_2 : w1.cell? ⟨w.heap.size, 2, none⟩ = some (.int .i64 (0)) := (b1.cell (p := ⟨w.heap.size, 2, none⟩) (by first | (simp; done) | (simp; omega) | omega)).trans (by first | with_reducible assumption | (simp [go_sem]; done) | (simp [go_sem, *]; done))
  have g1_0_2 : w1.frozen? ⟨w.heap.size, 2, none⟩ = false := (b1.frozen (p := ⟨w.heap.size, 2, none⟩) (by first | (simp; done) | (simp; omega) | omega)).trans (by first | with_reducible assumption | (simp [go_sem]; done) | (simp [go_sem, *]; done))
  have k1_0_3 : w1.cell? ⟨w.heap.size, 3, none⟩ = some (.int .i64 (0)) := (b1.cell (p := ⟨w.heap.size, 3, none⟩) (by first | (simp; done) | (simp; omega) | omega)).trans (by first | with_reducible assumption | (simp [go_sem]; done) | (simp [go_sem, *]; done))
  have g1_0_3 : w1.frozen? ⟨w.heap.size, 3, none⟩ = false := (b1.frozen (p := ⟨w.heap.size, 3, none⟩) (by first | (simp; done) | (simp; omega) | omega)).trans (by first | with_reducible assumption | (simp [go_sem]; done) | (simp [go_sem, *]; done))
  have z1_1 : w.heap.size + 1 < w1.heap.size := by omega
  have k1_1_0 : w1.cell? ⟨w.heap.size + 1, 0, none⟩ = some (.int .i64 (0)) := (b1.cell (p := ⟨w.heap.size + 1, 0, none⟩) (by first | (simp; done) | (simp; omega) | omega)).trans (by first | with_reducible assumption | (simp [go_sem]; done) | (simp [go_sem, *]; done))
  have g1_1_0 : w1.frozen? ⟨w.heap.size + 1, 0, none⟩ = false := (b1.frozen (p := ⟨w.heap.size + 1, 0, none⟩) (by first | (simp; done) | (simp; omega) | omega)).trans (by first | with_reducible assumption | (simp [go_sem]; done) | (simp [go_sem, *]; done))
  have k1_1_1 : w1.cell? ⟨w.heap.size + 1, 1, none⟩ = some (.int .i64 (0)) := (b1.cell (p := ⟨w.heap.size + 1, 1, none⟩) (by first | (simp; done) | (simp; omega) | omega)).trans (by first | with_reducible assumption | (simp [go_sem]; done) | (simp [go_sem, *]; done))
  have g1_1_1 : w1.frozen? ⟨w.heap.size + 1, 1, none⟩ = false := (b1.frozen (p := ⟨w.heap.size + 1, 1, none⟩) (by first | (simp; done) | (simp; omega) | omega)).trans (by first | with_reducible assumption | (simp [go_sem]; done) | (simp [go_sem, *]; done))
  have k1_1_2 : w1.cell? ⟨w.heap.size + 1, 2, none⟩ = some (.int .i64 (0)) := (b1.cell (p := ⟨w.heap.size + 1, 2, none⟩) (by first | (simp; done) | (simp; omega) | omega)).trans (by first | with_reducible assumption | (simp [go_sem]; done) | (simp [go_sem, *]; done))
  have g1_1_2 : w1.frozen? ⟨w.heap.size + 1, 2, none⟩ = false := (b1.frozen (p := ⟨w.heap.size + 1, 2, none⟩) (by first | (simp; done) | (simp; omega) | omega)).trans (by first | with_reducible assumption | (simp [go_sem]; done) | (simp [go_sem, *]; done))
  have k1_1_3 : w1.cell? ⟨w.heap.size + 1, 3, none⟩ = some (.int .i64 (0)) := (b1.cell (p := ⟨w.heap.size + 1, 3, none⟩) (by first | (simp; done) | (simp; omega) | omega)).trans (by first | with_reducible assumption | (simp [go_sem]; done) | (simp [go_sem, *]; done))
  have g1_1_3 : w1.frozen? ⟨w.heap.size + 1, 3, none⟩ = false := (b1.frozen (p := ⟨w.heap.size + 1, 3, none⟩) (by first | (simp; done) | (simp; omega) | omega)).trans (by first | with_reducible assumption | (simp [go_sem]; done) | (simp [go_sem, *]; done))
  have t1 := rd1.lt
  have hB : B ≤ R := by omega
  go_wp2_with fail
  refine (rdr_anyMatrix B R ar nr cr (0) _ (by (repeat (first | with_reducible assumption | with_reducible refine Rdr.alloc ?_ _ | with_reducible refine Rdr.below ?_ (by with_reducible assumption) | with_reducible refine Rdr.drew ?_ | with_reducible refine Rdr.drewN ?_ _ | with_reducible refine Rdr.set ?_ (by dsimp only; omega) (by dsimp only; omega) _))) (by omega)).mono ?_
  rintro e w2 ⟨x2, y2, z2, u2, q2, rfl, ⟨lx2, ux2⟩, ⟨ly2, uy2⟩, ⟨lz2, uz2⟩, ⟨lu2, uu2⟩, hq2, rd2, b2⟩
  have s2 := b2.size
  try simp at s2
  have t2 := rd2.lt
  have z2_0 : w.heap.size < w2.heap.size := by omega
  have k2_0_0 : w2.cell? ⟨w.heap.size, 0, none⟩ = some (.int .i64 (0)) := (b2.cell (p := ⟨w.heap.size, 0, none⟩) (by first | (simp; done) | (simp; omega) | omega) n0).trans (by first | with_reducible assumption | (simp [go_sem]; done) | (simp [go_sem, *]; done))
  have g2_0_0 : w2.frozen? ⟨w.heap.size, 0, none⟩ = false := (b2.frozen (p := ⟨w.heap.size, 0, none⟩) (by first | (simp; done) | (simp; omega) | omega) n0).trans (by first | with_reducible assumption | (simp [go_sem]; done) | (simp [go_sem, *]; done))
  have k2_0_1 : w2.cell? ⟨w.heap.size, 1, none⟩ = some (.int .i64 (0)) := (b2.cell (p := ⟨w.heap.size, 1, none⟩) (by first | (simp; done) | (simp; omega) | omega) n0).trans (by first | with_reducible assumption | (simp [go_sem]; done) | (simp [go_sem, *]; done))
  have g2_0_1 : w2.frozen? ⟨w.heap.size, 1, none⟩ = false := (b2.frozen (p := ⟨w.heap.size, 1, none⟩) (by first | (simp; done) | (simp; omega) | omega) n0).trans (by first | with_reducible assumption | (simp [go_sem]; done) | (simp [go_sem, *]; done))
  have k2_0_2 : w2.cell? ⟨w.heap.size, 2, none⟩ = some (.int .i64 (0)) := (b2.cell (p := ⟨w.heap.size, 2, none⟩) (by first | (simp; done) | (simp; omega) | omega) n0).trans (by first | with_reducible assumption | (simp [go_sem]; done) | (simp [go_sem, *]; done))
  have g2_0_2 : w2.frozen? ⟨w.heap.size, 2, none⟩ = false := (b2.frozen (p := ⟨w.heap.size, 2, none⟩) (by first | (simp; done) | (simp; omega) | omega) n0).trans (by first | with_reducible assumption | (simp [go_sem]; done) | (simp [go_sem, *]; done))
  have k2_0_3 : w2.cell? ⟨w.heap.size, 3, none⟩ = some (.int .i64 (0)) := (b2.cell (p := ⟨w.heap.size, 3, none⟩) (by first | (simp; done) | (simp; omega) | omega) n0).trans (by first | with_reducible assumption | (simp [go_sem]; done) | (simp [go_sem, *]; done))
  have g2_0_3 : w2.frozen? ⟨w.heap.size, 3, none⟩ = false := (b2.frozen (p := ⟨w.heap.size, 3, none⟩) (by first | (simp; done) | (simp; omega) | omega) n0).trans (by first | with_reducible assumption | (simp [go_sem]; done) | (simp [go_sem, *]; done))
  have z2_1 : w.heap.size + 1 < w2.heap.size := by omega
  have k2_1_0 : w2.cell? ⟨w.heap.size + 1, 0, none⟩ = some (.int .i64 (0)) := (b2.cell (p := ⟨w.heap.size + 1, 0, none⟩) (by first | (simp; done) | (simp; omega) | omega) n1).trans (by first | with_reducible assumption | (simp [go_sem]; done) | (simp [go_sem, *]; done))
  have g2_1_0 : w2.frozen? ⟨w.heap.size + 1, 0, none⟩ = false := (b2.frozen (p := ⟨w.heap.size + 1, 0, none⟩) (by first | (simp; done) | (simp; omega) | omega) n1).trans (by first | with_reducible assumption | (simp [go_sem]; done) | (simp [go_sem, *]; done))
  have k2_1_1 : w2.cell? ⟨w.heap.size + 1, 1, none⟩ = some (.int .i64 (0)) := (b2.cell (p := ⟨w.heap.size + 1, 1, none⟩) (by first | (simp; done) | (simp; omega) | omega) n1).trans (by first | with_reducible assumption | (simp [go_sem]; done) | (simp [go_sem, *]; done))
  have g2_1_1 : w2.frozen? ⟨w.heap.size + 1, 1, none⟩ = false := (b2.frozen (p := ⟨w.heap.size + 1, 1, none⟩) (by first | (simp; done) | (simp; omega) | omega) n1).trans (by first | with_reducible assumption | (simp [go_sem]; done) | (simp [go_sem, *]; done))
  have k2_1_2 : w2.cell? ⟨w.heap.size + 1, 2, none⟩ = some (.int .i64 (0)) := (b2.cell (p := ⟨w.heap.size + 1, 2, none⟩) (by first | (simp; done) | (simp; omega) | omega) n1).trans (by first | with_reducible assumption | (simp [go_sem]; done) | (simp [go_sem, *]; done))
  have g2_1_2 : w2.frozen? ⟨w.heap.size + 1, 2, none⟩ = false := (b2.frozen (p := ⟨w.heap.size + 1, 2, none⟩) (by first | (simp; done) | (simp; omega) | omega) n1).trans (by first | with_reducible assumption | (simp [go_sem]; done) | (simp [go_sem, *]; done))
  have k2_1_3 : w2.cell? ⟨w.heap.size + 1, 3, none⟩ = some (.int .i64 (0)) := (b2.cell (p := ⟨w.heap.size + 1, 3, none⟩) (by first | (simp; done) | (simp; omega) | omega) n1).trans (by first | with_reducible assumption | (simp [go_sem]; done) | (simp [go_sem, *]; done))
  have g2_1_3 : w2.frozen? ⟨w.heap.size + 1, 3, none⟩ = false := (b2.frozen (p := ⟨w.heap.size + 1, 3, none⟩) (by first | (simp; done) | (simp; omega) | omega) n1).trans (by first | with_reducible assumption | (simp [go_sem]; done) | (simp [go_sem, *]; done))
  clear k1_0_0 g1_0_0 k1_0_1 g1_0_1 k1_0_2 g1_0_2 k1_0_3 g1_0_3 k1_1_0 g1_1_0 k1_1_1 g1_1_1 k1_1_2 g1_1_2 k1_1_3 g1_1_3
  have n2 : ¬ w2.heap.size = R := by omega
  go_wp2
  have A2_0 : ∀ w', HldHi (w1.heap.size) (w2.alloc (Obj.cells #[.int .i64 (x2), .int .i64 (y2), .int .i64 (z2), .int .i64 (u2)] 24)) w' → w'.cell? ⟨w2.heap.size, 0, none⟩ = some (.int .i64 (x2))   := fun w' h => h.cell (by omega) (by first | omega | (simp; done) | (simp; omega)) (by first | assumption | (simp [go_sem, *]; done))
  have A2_1 : ∀ w', HldHi (w1.heap.size) (w2.alloc (Obj.cells #[.int .i64 (x2), .int .i64 (y2), .int .i64 (z2), .int .i64 (u2)] 24)) w' → w'.cell? ⟨w2.heap.size, 1, none⟩ = some (.int .i64 (y2))   := fun w' h => h.cell (by omega) (by first | omega | (simp; done) | (simp; omega)) (by first | assumption | (simp [go_sem, *]; done))
  have A2_2 : ∀ w', HldHi (w1.heap.size) (w2.alloc (Obj.cells #[.int .i64 (x2), .int .i64 (y2), .int .i64 (z2), .int .i64 (u2)] 24)) w' → w'.cell? ⟨w2.heap.size, 2, none⟩ = some (.int .i64 (z2))   := fun w' h => h.cell (by omega) (by first | omega | (simp; done) | (simp; omega)) (by first | assumption | (simp [go_sem, *]; done))
  have A2_3 : ∀ w', HldHi (w1.heap.size) (w2.alloc (Obj.cells #[.int .i64 (x2), .int .i64 (y2), .int .i64 (z2), .int .i64 (u2)] 24)) w' → w'.cell? ⟨w2.heap.size, 3, none⟩ = some (.int .i64 (u2))   := fun w' h => h.cell (by omega) (by first | omega | (simp; done) | (simp; omega)) (by first | assumption | (simp [go_sem, *]; done))
  go_region_held3 (fun w' => HldHi (w1.heap.size) (w2.alloc (Obj.cells #[.int .i64 (x2), .int .i64 (y2), .int .i64 (z2), .int .i64 (u2)] 24)) w') ((repeat (first | with_reducible assumption | with_reducible exact HldHi.start _ _ | with_reducible exact HldHi.refl _ _ | with_reducible refine HldHi.drew ?_ | with_reducible refine HldHi.set ?_ (by dsimp only; omega) _))) (first | (go_at_call 25; refine (rdr_anyMatrix B R ar nr cr (q2) _ (by (repeat (first | with_reducible assumption | with_reducible refine Rdr.alloc ?_ _ | with_reducible refine Rdr.below ?_ (by with_reducible assumption) | with_reducible refine Rdr.drew ?_ | with_reducible refine Rdr.drewN ?_ _ | with_reducible refine Rdr.set ?_ (by dsimp only; omega) (by dsimp only; omega) _))) (by omega)).mono ?_; rintro e w3 ⟨x3, y3, z3, u3, q3, rfl, ⟨lx3, ux3⟩, ⟨ly3, uy3⟩, ⟨lz3, uz3⟩, ⟨lu3, uu3⟩, hq3, rd3, b3⟩; have HS3 : HldHi (w1.heap.size) (w2.alloc (Obj.cells #[.int .i64 (x2), .int .i64 (y2), .int .i64 (z2), .int .i64 (u2)] 24)) w3 := HldHi.call (by first | with_reducible assumption | with_reducible exact HldHi.start _ _) b3 (by omega); have s3 := b3.size; (try simp at s3); have t3 := rd3.lt; have z3_0 : w.heap.size < w3.heap.size := (by omega); have k3_0_0 : w3.cell? ⟨w.heap.size, 0, none⟩ = some (.int .i64 (0)) := (b3.cell (p := ⟨w.heap.size, 0, none⟩) (by first | (simp; done) | (simp; omega) | omega) n0).trans (by first | with_reducible assumption | (simp [go_sem]; done) | (simp [go_sem, *]; done)); have g3_0_0 : w3.frozen? ⟨w.heap.size, 0, none⟩ = false := (b3.frozen (p := ⟨w.heap.size, 0, none⟩) (by first | (simp; done) | (simp; omega) | omega) n0).trans (by first | with_reducible assumption | (simp [go_sem]; done) | (simp [go_sem, *]; done)); have k3_0_1 : w3.cell? ⟨w.heap.size, 1, none⟩ = some (.int .i64 (0)) := (b3.cell (p := ⟨w.heap.size, 1, none⟩) (by first | (simp; done) | (simp; omega) | omega) n0).trans (by first | with_reducible assumption | (simp [go_sem]; done) | (simp [go_sem, *]; done)); have g3_0_1 : w3.frozen? ⟨w.heap.size, 1, none⟩ = false := (b3.frozen (p := ⟨w.heap.size, 1, none⟩) (by first | (simp; done) | (simp; omega) | omega) n0).trans (by first | with_reducible assumption | (simp [go_sem]; done) | (simp [go_sem, *]; done)); have k3_0_2 : w3.cell? ⟨w.heap.size, 2, none⟩ = some (.int .i64 (0)) := (b3.cell (p := ⟨w.heap.size, 2, none⟩) (by first | (simp; done) | (simp; omega) | omega) n0).trans (by first | with_reducible assumption | (simp [go_sem]; done) | (simp [go_sem, *]; done)); have g3_0_2 : w3.frozen? ⟨w.heap.size, 2, none⟩ = false := (b3.frozen (p := ⟨w.heap.size, 2, none⟩) (by first | (simp; done) | (simp; omega) | omega) n0).trans (by first | with_reducible assumption | (simp [go_sem]; done) | (simp [go_sem, *]; done)); have k3_0_3 : w3.cell? ⟨w.heap.size, 3, none⟩ = some (.int .i64 (0)) := (b3.cell (p := ⟨w.heap.size, 3, none⟩) (by first | (simp; done) | (simp; omega) | omega) n0).trans (by first | with_reducible assumption | (simp [go_sem]; done) | (simp [go_sem, *]; done)); have g3_0_3 : w3.frozen? ⟨w.heap.size, 3, none⟩ = false := (b3.frozen (p := ⟨w.heap.size, 3, none⟩) (by first | (simp; done) | (simp; omega) | omega) n0).trans (by first | with_reducible assumption | (simp [go_sem]; done) | (simp [go_sem, *]; done)); have z3_1 : w.heap.size + 1 < w3.heap.size := (by omega); have k3_1_0 : w3.cell? ⟨w.heap.size + 1, 0, none⟩ = some (.int .i64 (0)) := (b3.cell (p := ⟨w.heap.size + 1, 0, none⟩) (by first | (simp; done) | (simp; omega) | omega) n1).trans (by first | with_reducible assumption | (simp [go_sem]; done) | (simp [go_sem, *]; done)); have g3_1_0 : w3.frozen? ⟨w.heap.size + 1, 0, none⟩ = false := (b3.frozen (p := ⟨w.heap.size + 1, 0, none⟩) (by first | (simp; done) | (simp; omega) | omega) n1).trans (by first | with_reducible assumption | (simp [go_sem]; done) | (simp [go_sem, *]; done)); have k3_1_1 : w3.cell? ⟨w.heap.size + 1, 1, none⟩ = some (.int .i64 (0)) := (b3.cell (p := ⟨w.heap.size + 1, 1, none⟩) (by first | (simp; done) | (simp; omega) | omega) n1).trans (by first | with_reducible assumption | (simp [go_sem]; done) | (simp [go_sem, *]; done)); have g3_1_1 : w3.frozen? ⟨w.heap.size + 1, 1, none⟩ = false := (b3.frozen (p := ⟨w.heap.size + 1, 1, none⟩) (by first | (simp; done) | (simp; omega) | omega) n1).trans (by first | with_reducible assumption | (simp [go_sem]; done) | (simp [go_sem, *]; done)); have k3_1_2 : w3.cell? ⟨w.heap.size + 1, 2, none⟩ = some (.int .i64 (0)) := (b3.cell (p := ⟨w.heap.size + 1, 2, none⟩) (by first | (simp; done) | (simp; omega) | omega) n1).trans (by first | with_reducible assumption | (simp [go_sem]; done) | (simp [go_sem, *]; done)); have g3_1_2 : w3.frozen? ⟨w.heap.size + 1, 2, none⟩ = false := (b3.frozen (p := ⟨w.heap.size + 1, 2, none⟩) (by first | (simp; done) | (simp; omega) | omega) n1).trans (by first | with_reducible assumption | (simp [go_sem]; done) | (simp [go_sem, *]; done)); have k3_1_3 : w3.cell? ⟨w.heap.size + 1, 3, none⟩ = some (.int .i64 (0)) := (b3.cell (p := ⟨w.heap.size + 1, 3, none⟩) (by first | (simp; done) | (simp; omega) | omega) n1).trans (by first | with_reducible assumption | (simp [go_sem]; done) | (simp [go_sem, *]; done)); have g3_1_3 : w3.frozen? ⟨w.heap.size + 1, 3, none⟩ = false := (b3.frozen (p := ⟨w.heap.size + 1, 3, none⟩) (by first | (simp; done) | (simp; omega) | omega) n1).trans (by first | with_reducible assumption | (simp [go_sem]; done) | (simp [go_sem, *]; done)); clear A2_0 A2_1 A2_2 A2_3 k2_0_0 g2_0_0 k2_0_1 g2_0_1 k2_0_2 g2_0_2 k2_0_3 g2_0_3 k2_1_0 g2_1_0 k2_1_1 g2_1_1 k2_1_2 g2_1_2 k2_1_3 g2_1_3))
  all_goals go_wp2
  all_goals (refine bodyPost_ret (v := .tuple #[.agg #[.int .i64 (x2), .int .i64 (y2), .int .i64 (z2), .int .i64 (u2)], .agg #[.int .i64 (x3), .int .i64 (y3), .int .i64 (z3), .int .i64 (u3)]]) (by simp [results, Try.results7, go_sem, *]) rfl ⟨x2, y2, z2, u2, x3, y3, z3, u3, rfl, ⟨by omega, by omega⟩, ⟨by omega, by omega⟩, ⟨by omega, by omega⟩, ⟨by omega, by omega⟩, ⟨by omega, by omega⟩, ⟨by omega, by omega⟩, ⟨by omega, by omega⟩, ⟨by omega, by omega⟩, But.out (R := R) (by (repeat (first | with_reducible assumption | with_reducible exact But.refl _ _ | with_reducible refine But.alloc ?_ _ | with_reducible refine But.drew ?_ | with_reducible refine But.drewN ?_ _ | with_reducible refine But.set ?_ (Or.inr (by dsimp only; omega)) _ | with_reducible refine But.trans ?_ (by with_reducible assumption) | with_reducible refine But.below ?_ (by with_reducible assumption)))) (Nat.le_refl _) (by omega)⟩)

end Go.Proofs.Ytbfeaiaoelkggaa
