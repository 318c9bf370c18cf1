/- What the draws yield. -/
import Derived.Test.YtbfeaiaoelkggaaRdr2
namespace Go.Proofs.Ytbfeaiaoelkggaa
open Go.RowKit
set_option linter.unusedVariables false

set_option maxHeartbeats 2000000 in
theorem rdr_anyPoint (B R : Nat) (a : Option Addr) (n c p : Nat) (w : World) (h : Rdr w B R a n c p) (hp1 : p ≤ 80000) :
    Calls Try.prog 38 #[.pointer (some ⟨R, 0, none⟩)] w (RAg2 B R a n c (p + 4) 2000 w) := by
  have hR := h.lt
  have hB := h.bR
  go_enter Try.func38, Try.ntmps38
  have n0 : ¬ w.heap.size = R := by omega
  go_wp2_with fail
  refine (rdr_randomPoint B R a n c (p) _ (by (repeat (first | with_reducible assumption | with_reducible refine Rdr.alloc ?_ _ | with_reducible refine Rdr.below ?_ (by with_reducible assumption) | with_reducible refine Rdr.drew ?_ | with_reducible refine Rdr.drewN ?_ _ | with_reducible refine Rdr.set ?_ (by dsimp only; omega) (by dsimp only; omega) _))) (by omega)).mono ?_
  rintro e w1 ⟨x1, y1, q1, rfl, ⟨lx1, ux1⟩, ⟨ly1, uy1⟩, hq1, rd1, b1⟩
  have s1 := b1.size
  try simp at s1
  have t1 := rd1.lt
  have z1_0 : w.heap.size < w1.heap.size := by omega
  have k1_0_0 : w1.cell? ⟨w.heap.size, 0, none⟩ = some (.int .i64 (0)) := (b1.cell (p := ⟨w.heap.size, 0, none⟩) (by first | (simp; done) | (simp; omega) | omega) n0).trans (by first | with_reducible assumption | (simp [go_sem]; done) | (simp [go_sem, *]; done))
  have g1_0_0 : w1.frozen? ⟨w.heap.size, 0, none⟩ = false := (b1.frozen (p := ⟨w.heap.size, 0, none⟩) (by first | (simp; done) | (simp; omega) | omega) n0).trans (by first | with_reducible assumption | (simp [go_sem]; done) | (simp [go_sem, *]; done))
  have k1_0_1 : w1.cell? ⟨w.heap.size, 1, none⟩ = some (.int .i64 (0)) := (b1.cell (p := ⟨w.heap.size, 1, none⟩) (by first | (simp; done) | (simp; omega) | omega) n0).trans (by first | with_reducible assumption | (simp [go_sem]; done) | (simp [go_sem, *]; done))
  have g1_0_1 : w1.frozen? ⟨w.heap.size, 1, none⟩ = false := (b1.frozen (p := ⟨w.heap.size, 1, none⟩) (by first | (simp; done) | (simp; omega) | omega) n0).trans (by first | with_reducible assumption | (simp [go_sem]; done) | (simp [go_sem, *]; done))
  have n1 : ¬ w1.heap.size = R := by omega
  go_wp2_with fail
  refine (rdr_pick B R a n c (q1) 16 _ (by (repeat (first | with_reducible assumption | with_reducible refine Rdr.alloc ?_ _ | with_reducible refine Rdr.below ?_ (by with_reducible assumption) | with_reducible refine Rdr.drew ?_ | with_reducible refine Rdr.drewN ?_ _ | with_reducible refine Rdr.set ?_ (by dsimp only; omega) (by dsimp only; omega) _))) (by omega) (by omega) (by omega)).mono ?_
  rintro e w2 ⟨v2, rfl, l2, u2, rd2, b2⟩
  have s2 := b2.size
  try simp at s2
  have t2 := rd2.lt
  have z2_0 : w.heap.size < w2.heap.size := by omega
  have k2_0_0 : w2.cell? ⟨w.heap.size, 0, none⟩ = some (.int .i64 (0)) := (b2.cell (p := ⟨w.heap.size, 0, none⟩) (by first | (simp; done) | (simp; omega) | omega) n0).trans (by first | with_reducible assumption | (simp [go_sem]; done) | (simp [go_sem, *]; done))
  have g2_0_0 : w2.frozen? ⟨w.heap.size, 0, none⟩ = false := (b2.frozen (p := ⟨w.heap.size, 0, none⟩) (by first | (simp; done) | (simp; omega) | omega) n0).trans (by first | with_reducible assumption | (simp [go_sem]; done) | (simp [go_sem, *]; done))
  have k2_0_1 : w2.cell? ⟨w.heap.size, 1, none⟩ = some (.int .i64 (0)) := (b2.cell (p := ⟨w.heap.size, 1, none⟩) (by first | (simp; done) | (simp; omega) | omega) n0).trans (by first | with_reducible assumption | (simp [go_sem]; done) | (simp [go_sem, *]; done))
  have g2_0_1 : w2.frozen? ⟨w.heap.size, 1, none⟩ = false := (b2.frozen (p := ⟨w.heap.size, 1, none⟩) (by first | (simp; done) | (simp; omega) | omega) n0).trans (by first | with_reducible assumption | (simp [go_sem]; done) | (simp [go_sem, *]; done))
  have z2_1 : w1.heap.size < w2.heap.size := by omega
  have k2_1_0 : w2.cell? ⟨w1.heap.size, 0, none⟩ = some (.int .i64 (x1)) := (b2.cell (p := ⟨w1.heap.size, 0, none⟩) (by first | (simp; done) | (simp; omega) | omega) n1).trans (by first | with_reducible assumption | (simp [go_sem]; done) | (simp [go_sem, *]; done))
  have g2_1_0 : w2.frozen? ⟨w1.heap.size, 0, none⟩ = false := (b2.frozen (p := ⟨w1.heap.size, 0, none⟩) (by first | (simp; done) | (simp; omega) | omega) n1).trans (by first | with_reducible assumption | (simp [go_sem]; done) | (simp [go_sem, *]; done))
  have k2_1_1 : w2.cell? ⟨w1.heap.size, 1, none⟩ = some (.int .i64 (y1)) := (b2.cell (p := ⟨w1.heap.size, 1, none⟩) (by first | (simp; done) | (simp; omega) | omega) n1).trans (by first | with_reducible assumption | (simp [go_sem]; done) | (simp [go_sem, *]; done))
  have g2_1_1 : w2.frozen? ⟨w1.heap.size, 1, none⟩ = false := (b2.frozen (p := ⟨w1.heap.size, 1, none⟩) (by first | (simp; done) | (simp; omega) | omega) n1).trans (by first | with_reducible assumption | (simp [go_sem]; done) | (simp [go_sem, *]; done))
  clear k1_0_0 g1_0_0 k1_0_1 g1_0_1
  by_cases e0 : v2 = 0
  · have i0 : (v2 == 0) = true := by simp [e0]
    clear e0
    go_wp2_with fail
    refine (rdr_one B R a n c (q1 + 1) _ 4 (-2000) (2000) _ (by (repeat (first | with_reducible assumption | with_reducible refine Rdr.alloc ?_ _ | with_reducible refine Rdr.below ?_ (by with_reducible assumption) | with_reducible refine Rdr.drew ?_ | with_reducible refine Rdr.drewN ?_ _ | with_reducible refine Rdr.set ?_ (by dsimp only; omega) (by dsimp only; omega) _))) (by omega) (ListOf.mk' _ _ _ _ _ _ (by intro j hj; rcases j with _ | _ | _ | _ | j <;> first | exact ⟨_, by decide, by decide, rfl⟩ | omega)) (by omega) (by omega) (by omega)).mono ?_
    rintro e w3 ⟨v3, q3, rfl, ⟨l3, u3⟩, hq3, rd3, b3⟩
    have s3 := b3.size
    try simp at s3
    have t3 := rd3.lt
    have z3_0 : w.heap.size < w3.heap.size := by omega
    have k3_0_0 : w3.cell? ⟨w.heap.size, 0, none⟩ = some (.int .i64 (0)) := (b3.cell (p := ⟨w.heap.size, 0, none⟩) (by first | (simp; done) | (simp; omega) | omega) n0).trans (by first | with_reducible assumption | (simp [go_sem]; done) | (simp [go_sem, *]; done))
    have g3_0_0 : w3.frozen? ⟨w.heap.size, 0, none⟩ = false := (b3.frozen (p := ⟨w.heap.size, 0, none⟩) (by first | (simp; done) | (simp; omega) | omega) n0).trans (by first | with_reducible assumption | (simp [go_sem]; done) | (simp [go_sem, *]; done))
    have k3_0_1 : w3.cell? ⟨w.heap.size, 1, none⟩ = some (.int .i64 (0)) := (b3.cell (p := ⟨w.heap.size, 1, none⟩) (by first | (simp; done) | (simp; omega) | omega) n0).trans (by first | with_reducible assumption | (simp [go_sem]; done) | (simp [go_sem, *]; done))
    have g3_0_1 : w3.frozen? ⟨w.heap.size, 1, none⟩ = false := (b3.frozen (p := ⟨w.heap.size, 1, none⟩) (by first | (simp; done) | (simp; omega) | omega) n0).trans (by first | with_reducible assumption | (simp [go_sem]; done) | (simp [go_sem, *]; done))
    have z3_1 : w1.heap.size < w3.heap.size := by omega
    have k3_1_0 : w3.cell? ⟨w1.heap.size, 0, none⟩ = some (.int .i64 (x1)) := (b3.cell (p := ⟨w1.heap.size, 0, none⟩) (by first | (simp; done) | (simp; omega) | omega) n1).trans (by first | with_reducible assumption | (simp [go_sem]; done) | (simp [go_sem, *]; done))
    have g3_1_0 : w3.frozen? ⟨w1.heap.size, 0, none⟩ = false := (b3.frozen (p := ⟨w1.heap.size, 0, none⟩) (by first | (simp; done) | (simp; omega) | omega) n1).trans (by first | with_reducible assumption | (simp [go_sem]; done) | (simp [go_sem, *]; done))
    have k3_1_1 : w3.cell? ⟨w1.heap.size, 1, none⟩ = some (.int .i64 (y1)) := (b3.cell (p := ⟨w1.heap.size, 1, none⟩) (by first | (simp; done) | (simp; omega) | omega) n1).trans (by first | with_reducible assumption | (simp [go_sem]; done) | (simp [go_sem, *]; done))
    have g3_1_1 : w3.frozen? ⟨w1.heap.size, 1, none⟩ = false := (b3.frozen (p := ⟨w1.heap.size, 1, none⟩) (by first | (simp; done) | (simp; omega) | omega) n1).trans (by first | with_reducible assumption | (simp [go_sem]; done) | (simp [go_sem, *]; done))
    clear k2_0_0 g2_0_0 k2_0_1 g2_0_1 k2_1_0 g2_1_0 k2_1_1 g2_1_1
    have df1_0 : ¬ w1.heap.size = w.heap.size := by omega
    have f1k0_0 : (w3.setCell ⟨w1.heap.size, 0, none⟩ (.int .i64 (v3))).cell? ⟨w.heap.size, 0, none⟩ = some (.int .i64 (0)) := csetO df1_0 (by assumption)
    have f1g0_0 : (w3.setCell ⟨w1.heap.size, 0, none⟩ (.int .i64 (v3))).frozen? ⟨w.heap.size, 0, none⟩ = false := by rw [World.frozen?_setCell]; assumption
    have f1k0_1 : (w3.setCell ⟨w1.heap.size, 0, none⟩ (.int .i64 (v3))).cell? ⟨w.heap.size, 1, none⟩ = some (.int .i64 (0)) := csetO df1_0 (by assumption)
    have f1g0_1 : (w3.setCell ⟨w1.heap.size, 0, none⟩ (.int .i64 (v3))).frozen? ⟨w.heap.size, 1, none⟩ = false := by rw [World.frozen?_setCell]; assumption
    have f1k1_0 : (w3.setCell ⟨w1.heap.size, 0, none⟩ (.int .i64 (v3))).cell? ⟨w1.heap.size, 0, none⟩ = some (.int .i64 (v3)) := csetS (by assumption) _
    have f1g1_0 : (w3.setCell ⟨w1.heap.size, 0, none⟩ (.int .i64 (v3))).frozen? ⟨w1.heap.size, 0, none⟩ = false := by rw [World.frozen?_setCell]; assumption
    have f1k1_1 : (w3.setCell ⟨w1.heap.size, 0, none⟩ (.int .i64 (v3))).cell? ⟨w1.heap.size, 1, none⟩ = some (.int .i64 (y1)) := csetN _ (by assumption) (by omega)
    have f1g1_1 : (w3.setCell ⟨w1.heap.size, 0, none⟩ (.int .i64 (v3))).frozen? ⟨w1.heap.size, 1, none⟩ = false := by rw [World.frozen?_setCell]; assumption
    go_wp2
    refine bodyPost_ret (v := .agg #[.int .i64 (v3), .int .i64 (y1)]) (by simp [results, Try.results38, go_sem, *]) rfl ⟨_, _, q3, rfl, ⟨by omega, by omega⟩, ⟨by omega, by omega⟩, by omega, by (repeat (first | with_reducible assumption | with_reducible refine Rdr.alloc ?_ _ | with_reducible refine Rdr.below ?_ (by with_reducible assumption) | with_reducible refine Rdr.drew ?_ | with_reducible refine Rdr.drewN ?_ _ | with_reducible refine Rdr.set ?_ (by dsimp only; omega) (by dsimp only; omega) _)), by (repeat (first | with_reducible assumption | with_reducible exact But.refl _ _ | with_reducible refine But.alloc ?_ _ | with_reducible refine But.drew ?_ | with_reducible refine But.drewN ?_ _ | with_reducible refine But.set ?_ (Or.inr (by dsimp only; omega)) _ | with_reducible refine But.trans ?_ (by with_reducible assumption) | with_reducible refine But.below ?_ (by with_reducible assumption)))⟩
  · have i0 : (v2 == 0) = false := by simp [e0]
    by_cases e1 : v2 = 1
    · have i1 : (v2 == 1) = true := by simp [e1]
      clear e1
      go_wp2_with fail
      refine (rdr_one B R a n c (q1 + 1) _ 4 (-2000) (2000) _ (by (repeat (first | with_reducible assumption | with_reducible refine Rdr.alloc ?_ _ | with_reducible refine Rdr.below ?_ (by with_reducible assumption) | with_reducible refine Rdr.drew ?_ | with_reducible refine Rdr.drewN ?_ _ | with_reducible refine Rdr.set ?_ (by dsimp only; omega) (by dsimp only; omega) _))) (by omega) (ListOf.mk' _ _ _ _ _ _ (by intro j hj; rcases j with _ | _ | _ | _ | j <;> first | exact ⟨_, by decide, by decide, rfl⟩ | omega)) (by omega) (by omega) (by omega)).mono ?_
      rintro e w3 ⟨v3, q3, rfl, ⟨l3, u3⟩, hq3, rd3, b3⟩
      have s3 := b3.size
      try simp at s3
      have t3 := rd3.lt
      have z3_0 : w.heap.size < w3.heap.size := by omega
      have k3_0_0 : w3.cell? ⟨w.heap.size, 0, none⟩ = some (.int .i64 (0)) := (b3.cell (p := ⟨w.heap.size, 0, none⟩) (by first | (simp; done) | (simp; omega) | omega) n0).trans (by first | with_reducible assumption | (simp [go_sem]; done) | (simp [go_sem, *]; done))
      have g3_0_0 : w3.frozen? ⟨w.heap.size, 0, none⟩ = false := (b3.frozen (p := ⟨w.heap.size, 0, none⟩) (by first | (simp; done) | (simp; omega) | omega) n0).trans (by first | with_reducible assumption | (simp [go_sem]; done) | (simp [go_sem, *]; done))
      have k3_0_1 : w3.cell? ⟨w.heap.size, 1, none⟩ = some (.int .i64 (0)) := (b3.cell (p := ⟨w.heap.size, 1, none⟩) (by first | (simp; done) | (simp; omega) | omega) n0).trans (by first | with_reducible assumption | (simp [go_sem]; done) | (simp [go_sem, *]; done))
      have g3_0_1 : w3.frozen? ⟨w.heap.size, 1, none⟩ = false := (b3.frozen (p := ⟨w.heap.size, 1, none⟩) (by first | (simp; done) | (simp; omega) | omega) n0).trans (by first | with_reducible assumption | (simp [go_sem]; done) | (simp [go_sem, *]; done))
      have z3_1 : w1.heap.size < w3.heap.size := by omega
      have k3_1_0 : w3.cell? ⟨w1.heap.size, 0, none⟩ = some (.int .i64 (x1)) := (b3.cell (p := ⟨w1.heap.size, 0, none⟩) (by first | (simp; done) | (simp; omega) | omega) n1).trans (by first | with_reducible assumption | (simp [go_sem]; done) | (simp [go_sem, *]; done))
      have g3_1_0 : w3.frozen? ⟨w1.heap.size, 0, none⟩ = false := (b3.frozen (p := ⟨w1.heap.size, 0, none⟩) (by first | (simp; done) | (simp; omega) | omega) n1).trans (by first | with_reducible assumption | (simp [go_sem]; done) | (simp [go_sem, *]; done))
      have k3_1_1 : w3.cell? ⟨w1.heap.size, 1, none⟩ = some (.int .i64 (y1)) := (b3.cell (p := ⟨w1.heap.size, 1, none⟩) (by first | (simp; done) | (simp; omega) | omega) n1).trans (by first | with_reducible assumption | (simp [go_sem]; done) | (simp [go_sem, *]; done))
      have g3_1_1 : w3.frozen? ⟨w1.heap.size, 1, none⟩ = false := (b3.frozen (p := ⟨w1.heap.size, 1, none⟩) (by first | (simp; done) | (simp; omega) | omega) n1).trans (by first | with_reducible assumption | (simp [go_sem]; done) | (simp [go_sem, *]; done))
      clear k2_0_0 g2_0_0 k2_0_1 g2_0_1 k2_1_0 g2_1_0 k2_1_1 g2_1_1
      have df1_0 : ¬ w1.heap.size = w.heap.size := by omega
      have f1k0_0 : (w3.setCell ⟨w1.heap.size, 1, none⟩ (.int .i64 (v3))).cell? ⟨w.heap.size, 0, none⟩ = some (.int .i64 (0)) := csetO df1_0 (by assumption)
      have f1g0_0 : (w3.setCell ⟨w1.heap.size, 1, none⟩ (.int .i64 (v3))).frozen? ⟨w.heap.size, 0, none⟩ = false := by rw [World.frozen?_setCell]; assumption
      have f1k0_1 : (w3.setCell ⟨w1.heap.size, 1, none⟩ (.int .i64 (v3))).cell? ⟨w.heap.size, 1, none⟩ = some (.int .i64 (0)) := csetO df1_0 (by assumption)
      have f1g0_1 : (w3.setCell ⟨w1.heap.size, 1, none⟩ (.int .i64 (v3))).frozen? ⟨w.heap.size, 1, none⟩ = false := by rw [World.frozen?_setCell]; assumption
      have f1k1_0 : (w3.setCell ⟨w1.heap.size, 1, none⟩ (.int .i64 (v3))).cell? ⟨w1.heap.size, 0, none⟩ = some (.int .i64 (x1)) := csetN _ (by assumption) (by omega)
      have f1g1_0 : (w3.setCell ⟨w1.heap.size, 1, none⟩ (.int .i64 (v3))).frozen? ⟨w1.heap.size, 0, none⟩ = false := by rw [World.frozen?_setCell]; assumption
      have f1k1_1 : (w3.setCell ⟨w1.heap.size, 1, none⟩ (.int .i64 (v3))).cell? ⟨w1.heap.size, 1, none⟩ = some (.int .i64 (v3)) := csetS (by assumption) _
      have f1g1_1 : (w3.setCell ⟨w1.heap.size, 1, none⟩ (.int .i64 (v3))).frozen? ⟨w1.heap.size, 1, none⟩ = false := by rw [World.frozen?_setCell]; assumption
      go_wp2
      refine bodyPost_ret (v := .agg #[.int .i64 (x1), .int .i64 (v3)]) (by simp [results, Try.results38, go_sem, *]) rfl ⟨_, _, q3, rfl, ⟨by omega, by omega⟩, ⟨by omega, by omega⟩, by omega, by (repeat (first | with_reducible assumption | with_reducible refine Rdr.alloc ?_ _ | with_reducible refine Rdr.below ?_ (by with_reducible assumption) | with_reducible refine Rdr.drew ?_ | with_reducible refine Rdr.drewN ?_ _ | with_reducible refine Rdr.set ?_ (by dsimp only; omega) (by dsimp only; omega) _)), by (repeat (first | with_reducible assumption | with_reducible exact But.refl _ _ | with_reducible refine But.alloc ?_ _ | with_reducible refine But.drew ?_ | with_reducible refine But.drewN ?_ _ | with_reducible refine But.set ?_ (Or.inr (by dsimp only; omega)) _ | with_reducible refine But.trans ?_ (by with_reducible assumption) | with_reducible refine But.below ?_ (by with_reducible assumption)))⟩
    · have i1 : (v2 == 1) = false := by simp [e1]
      go_wp2
      refine bodyPost_ret (v := .agg #[.int .i64 (x1), .int .i64 (y1)]) (by simp [results, Try.results38, go_sem, *]) rfl ⟨_, _, q1 + 1, rfl, ⟨by omega, by omega⟩, ⟨by omega, by omega⟩, by omega, by (repeat (first | with_reducible assumption | with_reducible refine Rdr.alloc ?_ _ | with_reducible refine Rdr.below ?_ (by with_reducible assumption) | with_reducible refine Rdr.drew ?_ | with_reducible refine Rdr.drewN ?_ _ | with_reducible refine Rdr.set ?_ (by dsimp only; omega) (by dsimp only; omega) _)), by (repeat (first | with_reducible assumption | with_reducible exact But.refl _ _ | with_reducible refine But.alloc ?_ _ | with_reducible refine But.drew ?_ | with_reducible refine But.drewN ?_ _ | with_reducible refine But.set ?_ (Or.inr (by dsimp only; omega)) _ | with_reducible refine But.trans ?_ (by with_reducible assumption) | with_reducible refine But.below ?_ (by with_reducible assumption)))⟩

end Go.Proofs.Ytbfeaiaoelkggaa
