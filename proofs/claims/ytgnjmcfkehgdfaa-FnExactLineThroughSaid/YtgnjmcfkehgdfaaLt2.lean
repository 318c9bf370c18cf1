/- Contracts of functions that this seat's statements reach: each is shown to compute a plain Lean function, and to leave what was there as it was. No conditions but those in each theorem. -/
import Derived.Test.YtgnjmcfkehgdfaaLt
namespace Go.Proofs.Ytgnjmcfkehgdfaa
open Go.RowKit
set_option linter.unusedVariables false

open Go.Sort

set_option maxHeartbeats 4000000 in
theorem spec_LineThrough (aX : Int) (aY : Int) (bX : Int) (bY : Int) (w : World) :
    Calls Try.prog 12 #[.agg #[.int .i64 aX, .int .i64 aY], .agg #[.int .i64 bX, .int .i64 bY]] w fun e w' => e = .returned (.tuple #[.agg #[.int .i64 (LtA aX aY bX bY), .int .i64 (LtB aX aY bX bY), .int .i64 (LtC aX aY bX bY)], .bool (ltOk aX aY bX bY)]) ∧ Below w.heap.size w w' := by
  cases qa : ptB aX aY with
  | false =>
    have hk : ltOk aX aY bX bY = false := by simp [ltOk, v2B, qa]
    have rA : LtA aX aY bX bY = 0 := by simp [LtA, hk]
    have rB : LtB aX aY bX bY = 0 := by simp [LtB, hk]
    have rC : LtC aX aY bX bY = 0 := by simp [LtC, hk]
    rw [rA, rB, rC, hk]
    clear rA rB rC hk
    have K1 : Hid (∀ W : World, Calls Try.prog 40 #[.agg #[.int .i64 aX, .int .i64 aY]] W fun e w' => e = .returned (.bool false) ∧ Below W.heap.size W w') := Lib.hid fun W => by
      have h := spec_validPoint (aX) (aY) W
      rw [qa] at h
      exact h
    clear qa
    go_enter Try.func12, Try.ntmps12
    go_wp2_with fail
    refine (K1.out _).mono ?_
    rintro e w1 ⟨rfl, b1⟩
    have s1 := b1.size
    try simp at s1
    have z1_0 : w.heap.size < w1.heap.size := by omega
    have k1_0_0 : w1.cell? ⟨w.heap.size, 0, none⟩ = some (.int .i64 (aX)) := (b1.cell (p := ⟨w.heap.size, 0, none⟩) (by first | (simp; done) | (simp; omega) | omega)).trans (by first | with_reducible assumption | (simp [go_sem]; done) | (simp [go_sem, *]; done))
    have g1_0_0 : w1.frozen? ⟨w.heap.size, 0, none⟩ = false := (b1.frozen (p := ⟨w.heap.size, 0, none⟩) (by first | (simp; done) | (simp; omega) | omega)).trans (by first | with_reducible assumption | (simp [go_sem]; done) | (simp [go_sem, *]; done))
    have k1_0_1 : w1.cell? ⟨w.heap.size, 1, none⟩ = some (.int .i64 (aY)) := (b1.cell (p := ⟨w.heap.size, 1, none⟩) (by first | (simp; done) | (simp; omega) | omega)).trans (by first | with_reducible assumption | (simp [go_sem]; done) | (simp [go_sem, *]; done))
    have g1_0_1 : w1.frozen? ⟨w.heap.size, 1, none⟩ = false := (b1.frozen (p := ⟨w.heap.size, 1, none⟩) (by first | (simp; done) | (simp; omega) | omega)).trans (by first | with_reducible assumption | (simp [go_sem]; done) | (simp [go_sem, *]; done))
    have z1_1 : w.heap.size + 1 < w1.heap.size := by omega
    have k1_1_0 : w1.cell? ⟨w.heap.size + 1, 0, none⟩ = some (.int .i64 (bX)) := (b1.cell (p := ⟨w.heap.size + 1, 0, none⟩) (by first | (simp; done) | (simp; omega) | omega)).trans (by first | with_reducible assumption | (simp [go_sem]; done) | (simp [go_sem, *]; done))
    have g1_1_0 : w1.frozen? ⟨w.heap.size + 1, 0, none⟩ = false := (b1.frozen (p := ⟨w.heap.size + 1, 0, none⟩) (by first | (simp; done) | (simp; omega) | omega)).trans (by first | with_reducible assumption | (simp [go_sem]; done) | (simp [go_sem, *]; done))
    have k1_1_1 : w1.cell? ⟨w.heap.size + 1, 1, none⟩ = some (.int .i64 (bY)) := (b1.cell (p := ⟨w.heap.size + 1, 1, none⟩) (by first | (simp; done) | (simp; omega) | omega)).trans (by first | with_reducible assumption | (simp [go_sem]; done) | (simp [go_sem, *]; done))
    have g1_1_1 : w1.frozen? ⟨w.heap.size + 1, 1, none⟩ = false := (b1.frozen (p := ⟨w.heap.size + 1, 1, none⟩) (by first | (simp; done) | (simp; omega) | omega)).trans (by first | with_reducible assumption | (simp [go_sem]; done) | (simp [go_sem, *]; done))
    have z1_2 : w.heap.size + 1 + 1 < w1.heap.size := by omega
    have k1_2_0 : w1.cell? ⟨w.heap.size + 1 + 1, 0, none⟩ = some (.int .i64 (0)) := (b1.cell (p := ⟨w.heap.size + 1 + 1, 0, none⟩) (by first | (simp; done) | (simp; omega) | omega)).trans (by first | with_reducible assumption | (simp [go_sem]; done) | (simp [go_sem, *]; done))
    have g1_2_0 : w1.frozen? ⟨w.heap.size + 1 + 1, 0, none⟩ = false := (b1.frozen (p := ⟨w.heap.size + 1 + 1, 0, none⟩) (by first | (simp; done) | (simp; omega) | omega)).trans (by first | with_reducible assumption | (simp [go_sem]; done) | (simp [go_sem, *]; done))
    have k1_2_1 : w1.cell? ⟨w.heap.size + 1 + 1, 1, none⟩ = some (.int .i64 (0)) := (b1.cell (p := ⟨w.heap.size + 1 + 1, 1, none⟩) (by first | (simp; done) | (simp; omega) | omega)).trans (by first | with_reducible assumption | (simp [go_sem]; done) | (simp [go_sem, *]; done))
    have g1_2_1 : w1.frozen? ⟨w.heap.size + 1 + 1, 1, none⟩ = false := (b1.frozen (p := ⟨w.heap.size + 1 + 1, 1, none⟩) (by first | (simp; done) | (simp; omega) | omega)).trans (by first | with_reducible assumption | (simp [go_sem]; done) | (simp [go_sem, *]; done))
    have k1_2_2 : w1.cell? ⟨w.heap.size + 1 + 1, 2, none⟩ = some (.int .i64 (0)) := (b1.cell (p := ⟨w.heap.size + 1 + 1, 2, none⟩) (by first | (simp; done) | (simp; omega) | omega)).trans (by first | with_reducible assumption | (simp [go_sem]; done) | (simp [go_sem, *]; done))
    have g1_2_2 : w1.frozen? ⟨w.heap.size + 1 + 1, 2, none⟩ = false := (b1.frozen (p := ⟨w.heap.size + 1 + 1, 2, none⟩) (by first | (simp; done) | (simp; omega) | omega)).trans (by first | with_reducible assumption | (simp [go_sem]; done) | (simp [go_sem, *]; done))
    go_wp2
    refine bodyPost_ret (v := .tuple #[.agg #[.int .i64 0, .int .i64 0, .int .i64 0], .bool false]) (by simp [results, Try.results12, go_sem, *]) rfl ⟨rfl, ?_⟩
    (repeat (first | with_reducible exact Below.refl _ _ | with_reducible refine bl_alloc ?_ _ | with_reducible refine bl_drew ?_ | with_reducible refine bl_set ?_ (by first | (simp; done) | (simp; omega)) _ | with_reducible refine bl_call (by assumption) ?_))
  
  | true =>
    cases qb : ptB bX bY with
    | false =>
      have hk : ltOk aX aY bX bY = false := by simp [ltOk, v2B, qa, qb]
      have rA : LtA aX aY bX bY = 0 := by simp [LtA, hk]
      have rB : LtB aX aY bX bY = 0 := by simp [LtB, hk]
      have rC : LtC aX aY bX bY = 0 := by simp [LtC, hk]
      rw [rA, rB, rC, hk]
      clear rA rB rC hk
      have K1 : Hid (∀ W : World, Calls Try.prog 40 #[.agg #[.int .i64 aX, .int .i64 aY]] W fun e w' => e = .returned (.bool true) ∧ Below W.heap.size W w') := Lib.hid fun W => by
        have h := spec_validPoint (aX) (aY) W
        rw [qa] at h
        exact h
      have K2 : Hid (∀ W : World, Calls Try.prog 40 #[.agg #[.int .i64 bX, .int .i64 bY]] W fun e w' => e = .returned (.bool false) ∧ Below W.heap.size W w') := Lib.hid fun W => by
        have h := spec_validPoint (bX) (bY) W
        rw [qb] at h
        exact h
      clear qa qb
      go_enter Try.func12, Try.ntmps12
      go_wp2_with fail
      refine (K1.out _).mono ?_
      rintro e w1 ⟨rfl, b1⟩
      have s1 := b1.size
      try simp at s1
      have z1_0 : w.heap.size < w1.heap.size := by omega
      have k1_0_0 : w1.cell? ⟨w.heap.size, 0, none⟩ = some (.int .i64 (aX)) := (b1.cell (p := ⟨w.heap.size, 0, none⟩) (by first | (simp; done) | (simp; omega) | omega)).trans (by first | with_reducible assumption | (simp [go_sem]; done) | (simp [go_sem, *]; done))
      have g1_0_0 : w1.frozen? ⟨w.heap.size, 0, none⟩ = false := (b1.frozen (p := ⟨w.heap.size, 0, none⟩) (by first | (simp; done) | (simp; omega) | omega)).trans (by first | with_reducible assumption | (simp [go_sem]; done) | (simp [go_sem, *]; done))
      have k1_0_1 : w1.cell? ⟨w.heap.size, 1, none⟩ = some (.int .i64 (aY)) := (b1.cell (p := ⟨w.heap.size, 1, none⟩) (by first | (simp; done) | (simp; omega) | omega)).trans (by first | with_reducible assumption | (simp [go_sem]; done) | (simp [go_sem, *]; done))
      have g1_0_1 : w1.frozen? ⟨w.heap.size, 1, none⟩ = false := (b1.frozen (p := ⟨w.heap.size, 1, none⟩) (by first | (simp; done) | (simp; omega) | omega)).trans (by first | with_reducible assumption | (simp [go_sem]; done) | (simp [go_sem, *]; done))
      have z1_1 : w.heap.size + 1 < w1.heap.size := by omega
      have k1_1_0 : w1.cell? ⟨w.heap.size + 1, 0, none⟩ = some (.int .i64 (bX)) := (b1.cell (p := ⟨w.heap.size + 1, 0, none⟩) (by first | (simp; done) | (simp; omega) | omega)).trans (by first | with_reducible assumption | (simp [go_sem]; done) | (simp [go_sem, *]; done))
      have g1_1_0 : w1.frozen? ⟨w.heap.size + 1, 0, none⟩ = false := (b1.frozen (p := ⟨w.heap.size + 1, 0, none⟩) (by first | (simp; done) | (simp; omega) | omega)).trans (by first | with_reducible assumption | (simp [go_sem]; done) | (simp [go_sem, *]; done))
      have k1_1_1 : w1.cell? ⟨w.heap.size + 1, 1, none⟩ = some (.int .i64 (bY)) := (b1.cell (p := ⟨w.heap.size + 1, 1, none⟩) (by first | (simp; done) | (simp; omega) | omega)).trans (by first | with_reducible assumption | (simp [go_sem]; done) | (simp [go_sem, *]; done))
      have g1_1_1 : w1.frozen? ⟨w.heap.size + 1, 1, none⟩ = false := (b1.frozen (p := ⟨w.heap.size + 1, 1, none⟩) (by first | (simp; done) | (simp; omega) | omega)).trans (by first | with_reducible assumption | (simp [go_sem]; done) | (simp [go_sem, *]; done))
      have z1_2 : w.heap.size + 1 + 1 < w1.heap.size := by omega
      have k1_2_0 : w1.cell? ⟨w.heap.size + 1 + 1, 0, none⟩ = some (.int .i64 (0)) := (b1.cell (p := ⟨w.heap.size + 1 + 1, 0, none⟩) (by first | (simp; done) | (simp; omega) | omega)).trans (by first | with_reducible assumption | (simp [go_sem]; done) | (simp [go_sem, *]; done))
      have g1_2_0 : w1.frozen? ⟨w.heap.size + 1 + 1, 0, none⟩ = false := (b1.frozen (p := ⟨w.heap.size + 1 + 1, 0, none⟩) (by first | (simp; done) | (simp; omega) | omega)).trans (by first | with_reducible assumption | (simp [go_sem]; done) | (simp [go_sem, *]; done))
      have k1_2_1 : w1.cell? ⟨w.heap.size + 1 + 1, 1, none⟩ = some (.int .i64 (0)) := (b1.cell (p := ⟨w.heap.size + 1 + 1, 1, none⟩) (by first | (simp; done) | (simp; omega) | omega)).trans (by first | with_reducible assumption | (simp [go_sem]; done) | (simp [go_sem, *]; done))
      have g1_2_1 : w1.frozen? ⟨w.heap.size + 1 + 1, 1, none⟩ = false := (b1.frozen (p := ⟨w.heap.size + 1 + 1, 1, none⟩) (by first | (simp; done) | (simp; omega) | omega)).trans (by first | with_reducible assumption | (simp [go_sem]; done) | (simp [go_sem, *]; done))
      have k1_2_2 : w1.cell? ⟨w.heap.size + 1 + 1, 2, none⟩ = some (.int .i64 (0)) := (b1.cell (p := ⟨w.heap.size + 1 + 1, 2, none⟩) (by first | (simp; done) | (simp; omega) | omega)).trans (by first | with_reducible assumption | (simp [go_sem]; done) | (simp [go_sem, *]; done))
      have g1_2_2 : w1.frozen? ⟨w.heap.size + 1 + 1, 2, none⟩ = false := (b1.frozen (p := ⟨w.heap.size + 1 + 1, 2, none⟩) (by first | (simp; done) | (simp; omega) | omega)).trans (by first | with_reducible assumption | (simp [go_sem]; done) | (simp [go_sem, *]; done))
      go_wp2_with fail
      refine (K2.out _).mono ?_
      rintro e w2 ⟨rfl, b2⟩
      have s2 := b2.size
      try simp at s2
      have z2_0 : w.heap.size < w2.heap.size := by omega
      have k2_0_0 : w2.cell? ⟨w.heap.size, 0, none⟩ = some (.int .i64 (aX)) := (b2.cell (p := ⟨w.heap.size, 0, none⟩) (by first | (simp; done) | (simp; omega) | omega)).trans (by first | with_reducible assumption | (simp [go_sem]; done) | (simp [go_sem, *]; done))
      have g2_0_0 : w2.frozen? ⟨w.heap.size, 0, none⟩ = false := (b2.frozen (p := ⟨w.heap.size, 0, none⟩) (by first | (simp; done) | (simp; omega) | omega)).trans (by first | with_reducible assumption | (simp [go_sem]; done) | (simp [go_sem, *]; done))
      have k2_0_1 : w2.cell? ⟨w.heap.size, 1, none⟩ = some (.int .i64 (aY)) := (b2.cell (p := ⟨w.heap.size, 1, none⟩) (by first | (simp; done) | (simp; omega) | omega)).trans (by first | with_reducible assumption | (simp [go_sem]; done) | (simp [go_sem, *]; done))
      have g2_0_1 : w2.frozen? ⟨w.heap.size, 1, none⟩ = false := (b2.frozen (p := ⟨w.heap.size, 1, none⟩) (by first | (simp; done) | (simp; omega) | omega)).trans (by first | with_reducible assumption | (simp [go_sem]; done) | (simp [go_sem, *]; done))
      have z2_1 : w.heap.size + 1 < w2.heap.size := by omega
      have k2_1_0 : w2.cell? ⟨w.heap.size + 1, 0, none⟩ = some (.int .i64 (bX)) := (b2.cell (p := ⟨w.heap.size + 1, 0, none⟩) (by first | (simp; done) | (simp; omega) | omega)).trans (by first | with_reducible assumption | (simp [go_sem]; done) | (simp [go_sem, *]; done))
      have g2_1_0 : w2.frozen? ⟨w.heap.size + 1, 0, none⟩ = false := (b2.frozen (p := ⟨w.heap.size + 1, 0, none⟩) (by first | (simp; done) | (simp; omega) | omega)).trans (by first | with_reducible assumption | (simp [go_sem]; done) | (simp [go_sem, *]; done))
      have k2_1_1 : w2.cell? ⟨w.heap.size + 1, 1, none⟩ = some (.int .i64 (bY)) := (b2.cell (p := ⟨w.heap.size + 1, 1, none⟩) (by first | (simp; done) | (simp; omega) | omega)).trans (by first | with_reducible assumption | (simp [go_sem]; done) | (simp [go_sem, *]; done))
      have g2_1_1 : w2.frozen? ⟨w.heap.size + 1, 1, none⟩ = false := (b2.frozen (p := ⟨w.heap.size + 1, 1, none⟩) (by first | (simp; done) | (simp; omega) | omega)).trans (by first | with_reducible assumption | (simp [go_sem]; done) | (simp [go_sem, *]; done))
      have z2_2 : w.heap.size + 1 + 1 < w2.heap.size := by omega
      have k2_2_0 : w2.cell? ⟨w.heap.size + 1 + 1, 0, none⟩ = some (.int .i64 (0)) := (b2.cell (p := ⟨w.heap.size + 1 + 1, 0, none⟩) (by first | (simp; done) | (simp; omega) | omega)).trans (by first | with_reducible assumption | (simp [go_sem]; done) | (simp [go_sem, *]; done))
      have g2_2_0 : w2.frozen? ⟨w.heap.size + 1 + 1, 0, none⟩ = false := (b2.frozen (p := ⟨w.heap.size + 1 + 1, 0, none⟩) (by first | (simp; done) | (simp; omega) | omega)).trans (by first | with_reducible assumption | (simp [go_sem]; done) | (simp [go_sem, *]; done))
      have k2_2_1 : w2.cell? ⟨w.heap.size + 1 + 1, 1, none⟩ = some (.int .i64 (0)) := (b2.cell (p := ⟨w.heap.size + 1 + 1, 1, none⟩) (by first | (simp; done) | (simp; omega) | omega)).trans (by first | with_reducible assumption | (simp [go_sem]; done) | (simp [go_sem, *]; done))
      have g2_2_1 : w2.frozen? ⟨w.heap.size + 1 + 1, 1, none⟩ = false := (b2.frozen (p := ⟨w.heap.size + 1 + 1, 1, none⟩) (by first | (simp; done) | (simp; omega) | omega)).trans (by first | with_reducible assumption | (simp [go_sem]; done) | (simp [go_sem, *]; done))
      have k2_2_2 : w2.cell? ⟨w.heap.size + 1 + 1, 2, none⟩ = some (.int .i64 (0)) := (b2.cell (p := ⟨w.heap.size + 1 + 1, 2, none⟩) (by first | (simp; done) | (simp; omega) | omega)).trans (by first | with_reducible assumption | (simp [go_sem]; done) | (simp [go_sem, *]; done))
      have g2_2_2 : w2.frozen? ⟨w.heap.size + 1 + 1, 2, none⟩ = false := (b2.frozen (p := ⟨w.heap.size + 1 + 1, 2, none⟩) (by first | (simp; done) | (simp; omega) | omega)).trans (by first | with_reducible assumption | (simp [go_sem]; done) | (simp [go_sem, *]; done))
      clear k1_0_0 g1_0_0 k1_0_1 g1_0_1 k1_1_0 g1_1_0 k1_1_1 g1_1_1 k1_2_0 g1_2_0 k1_2_1 g1_2_1 k1_2_2 g1_2_2
      go_wp2
      refine bodyPost_ret (v := .tuple #[.agg #[.int .i64 0, .int .i64 0, .int .i64 0], .bool false]) (by simp [results, Try.results12, go_sem, *]) rfl ⟨rfl, ?_⟩
      (repeat (first | with_reducible exact Below.refl _ _ | with_reducible refine bl_alloc ?_ _ | with_reducible refine bl_drew ?_ | with_reducible refine bl_set ?_ (by first | (simp; done) | (simp; omega)) _ | with_reducible refine bl_call (by assumption) ?_))
  
    | true =>
      by_cases e1 : aX = bX
      · by_cases e2 : aY = bY
        · have hk : ltOk aX aY bX bY = false := by simp [ltOk, v2B, qb, e1, e2]
          have rA : LtA aX aY bX bY = 0 := by simp [LtA, hk]
          have rB : LtB aX aY bX bY = 0 := by simp [LtB, hk]
          have rC : LtC aX aY bX bY = 0 := by simp [LtC, hk]
          rw [rA, rB, rC, hk]
          clear rA rB rC hk
          have K1 : Hid (∀ W : World, Calls Try.prog 40 #[.agg #[.int .i64 aX, .int .i64 aY]] W fun e w' => e = .returned (.bool true) ∧ Below W.heap.size W w') := Lib.hid fun W => by
            have h := spec_validPoint (aX) (aY) W
            rw [qa] at h
            exact h
          have K2 : Hid (∀ W : World, Calls Try.prog 40 #[.agg #[.int .i64 bX, .int .i64 bY]] W fun e w' => e = .returned (.bool true) ∧ Below W.heap.size W w') := Lib.hid fun W => by
            have h := spec_validPoint (bX) (bY) W
            rw [qb] at h
            exact h
          have i1 : (aX == bX) = true := by simp [e1]
          have i2 : (aY == bY) = true := by simp [e2]
          clear qa qb e1 e2
          go_enter Try.func12, Try.ntmps12
          go_wp2_with fail
          refine (K1.out _).mono ?_
          rintro e w1 ⟨rfl, b1⟩
          have s1 := b1.size
          try simp at s1
          have z1_0 : w.heap.size < w1.heap.size := by omega
          have k1_0_0 : w1.cell? ⟨w.heap.size, 0, none⟩ = some (.int .i64 (aX)) := (b1.cell (p := ⟨w.heap.size, 0, none⟩) (by first | (simp; done) | (simp; omega) | omega)).trans (by first | with_reducible assumption | (simp [go_sem]; done) | (simp [go_sem, *]; done))
          have g1_0_0 : w1.frozen? ⟨w.heap.size, 0, none⟩ = false := (b1.frozen (p := ⟨w.heap.size, 0, none⟩) (by first | (simp; done) | (simp; omega) | omega)).trans (by first | with_reducible assumption | (simp [go_sem]; done) | (simp [go_sem, *]; done))
          have k1_0_1 : w1.cell? ⟨w.heap.size, 1, none⟩ = some (.int .i64 (aY)) := (b1.cell (p := ⟨w.heap.size, 1, none⟩) (by first | (simp; done) | (simp; omega) | omega)).trans (by first | with_reducible assumption | (simp [go_sem]; done) | (simp [go_sem, *]; done))
          have g1_0_1 : w1.frozen? ⟨w.heap.size, 1, none⟩ = false := (b1.frozen (p := ⟨w.heap.size, 1, none⟩) (by first | (simp; done) | (simp; omega) | omega)).trans (by first | with_reducible assumption | (simp [go_sem]; done) | (simp [go_sem, *]; done))
          have z1_1 : w.heap.size + 1 < w1.heap.size := by omega
          have k1_1_0 : w1.cell? ⟨w.heap.size + 1, 0, none⟩ = some (.int .i64 (bX)) := (b1.cell (p := ⟨w.heap.size + 1, 0, none⟩) (by first | (simp; done) | (simp; omega) | omega)).trans (by first | with_reducible assumption | (simp [go_sem]; done) | (simp [go_sem, *]; done))
          have g1_1_0 : w1.frozen? ⟨w.heap.size + 1, 0, none⟩ = false := (b1.frozen (p := ⟨w.heap.size + 1, 0, none⟩) (by first | (simp; done) | (simp; omega) | omega)).trans (by first | with_reducible assumption | (simp [go_sem]; done) | (simp [go_sem, *]; done))
          have k1_1_1 : w1.cell? ⟨w.heap.size + 1, 1, none⟩ = some (.int .i64 (bY)) := (b1.cell (p := ⟨w.heap.size + 1, 1, none⟩) (by first | (simp; done) | (simp; omega) | omega)).trans (by first | with_reducible assumption | (simp [go_sem]; done) | (simp [go_sem, *]; done))
          have g1_1_1 : w1.frozen? ⟨w.heap.size + 1, 1, none⟩ = false := (b1.frozen (p := ⟨w.heap.size + 1, 1, none⟩) (by first | (simp; done) | (simp; omega) | omega)).trans (by first | with_reducible assumption | (simp [go_sem]; done) | (simp [go_sem, *]; done))
          have z1_2 : w.heap.size + 1 + 1 < w1.heap.size := by omega
          have k1_2_0 : w1.cell? ⟨w.heap.size + 1 + 1, 0, none⟩ = some (.int .i64 (0)) := (b1.cell (p := ⟨w.heap.size + 1 + 1, 0, none⟩) (by first | (simp; done) | (simp; omega) | omega)).trans (by first | with_reducible assumption | (simp [go_sem]; done) | (simp [go_sem, *]; done))
          have g1_2_0 : w1.frozen? ⟨w.heap.size + 1 + 1, 0, none⟩ = false := (b1.frozen (p := ⟨w.heap.size + 1 + 1, 0, none⟩) (by first | (simp; done) | (simp; omega) | omega)).trans (by first | with_reducible assumption | (simp [go_sem]; done) | (simp [go_sem, *]; done))
          have k1_2_1 : w1.cell? ⟨w.heap.size + 1 + 1, 1, none⟩ = some (.int .i64 (0)) := (b1.cell (p := ⟨w.heap.size + 1 + 1, 1, none⟩) (by first | (simp; done) | (simp; omega) | omega)).trans (by first | with_reducible assumption | (simp [go_sem]; done) | (simp [go_sem, *]; done))
          have g1_2_1 : w1.frozen? ⟨w.heap.size + 1 + 1, 1, none⟩ = false := (b1.frozen (p := ⟨w.heap.size + 1 + 1, 1, none⟩) (by first | (simp; done) | (simp; omega) | omega)).trans (by first | with_reducible assumption | (simp [go_sem]; done) | (simp [go_sem, *]; done))
          have k1_2_2 : w1.cell? ⟨w.heap.size + 1 + 1, 2, none⟩ = some (.int .i64 (0)) := (b1.cell (p := ⟨w.heap.size + 1 + 1, 2, none⟩) (by first | (simp; done) | (simp; omega) | omega)).trans (by first | with_reducible assumption | (simp [go_sem]; done) | (simp [go_sem, *]; done))
          have g1_2_2 : w1.frozen? ⟨w.heap.size + 1 + 1, 2, none⟩ = false := (b1.frozen (p := ⟨w.heap.size + 1 + 1, 2, none⟩) (by first | (simp; done) | (simp; omega) | omega)).trans (by first | with_reducible assumption | (simp [go_sem]; done) | (simp [go_sem, *]; done))
          go_wp2_with fail
          refine (K2.out _).mono ?_
          rintro e w2 ⟨rfl, b2⟩
          have s2 := b2.size
          try simp at s2
          have z2_0 : w.heap.size < w2.heap.size := by omega
          have k2_0_0 : w2.cell? ⟨w.heap.size, 0, none⟩ = some (.int .i64 (aX)) := (b2.cell (p := ⟨w.heap.size, 0, none⟩) (by first | (simp; done) | (simp; omega) | omega)).trans (by first | with_reducible assumption | (simp [go_sem]; done) | (simp [go_sem, *]; done))
          have g2_0_0 : w2.frozen? ⟨w.heap.size, 0, none⟩ = false := (b2.frozen (p := ⟨w.heap.size, 0, none⟩) (by first | (simp; done) | (simp; omega) | omega)).trans (by first | with_reducible assumption | (simp [go_sem]; done) | (simp [go_sem, *]; done))
          have k2_0_1 : w2.cell? ⟨w.heap.size, 1, none⟩ = some (.int .i64 (aY)) := (b2.cell (p := ⟨w.heap.size, 1, none⟩) (by first | (simp; done) | (simp; omega) | omega)).trans (by first | with_reducible assumption | (simp [go_sem]; done) | (simp [go_sem, *]; done))
          have g2_0_1 : w2.frozen? ⟨w.heap.size, 1, none⟩ = false := (b2.frozen (p := ⟨w.heap.size, 1, none⟩) (by first | (simp; done) | (simp; omega) | omega)).trans (by first | with_reducible assumption | (simp [go_sem]; done) | (simp [go_sem, *]; done))
          have z2_1 : w.heap.size + 1 < w2.heap.size := by omega
          have k2_1_0 : w2.cell? ⟨w.heap.size + 1, 0, none⟩ = some (.int .i64 (bX)) := (b2.cell (p := ⟨w.heap.size + 1, 0, none⟩) (by first | (simp; done) | (simp; omega) | omega)).trans (by first | with_reducible assumption | (simp [go_sem]; done) | (simp [go_sem, *]; done))
          have g2_1_0 : w2.frozen? ⟨w.heap.size + 1, 0, none⟩ = false := (b2.frozen (p := ⟨w.heap.size + 1, 0, none⟩) (by first | (simp; done) | (simp; omega) | omega)).trans (by first | with_reducible assumption | (simp [go_sem]; done) | (simp [go_sem, *]; done))
          have k2_1_1 : w2.cell? ⟨w.heap.size + 1, 1, none⟩ = some (.int .i64 (bY)) := (b2.cell (p := ⟨w.heap.size + 1, 1, none⟩) (by first | (simp; done) | (simp; omega) | omega)).trans (by first | with_reducible assumption | (simp [go_sem]; done) | (simp [go_sem, *]; done))
          have g2_1_1 : w2.frozen? ⟨w.heap.size + 1, 1, none⟩ = false := (b2.frozen (p := ⟨w.heap.size + 1, 1, none⟩) (by first | (simp; done) | (simp; omega) | omega)).trans (by first | with_reducible assumption | (simp [go_sem]; done) | (simp [go_sem, *]; done))
          have z2_2 : w.heap.size + 1 + 1 < w2.heap.size := by omega
          have k2_2_0 : w2.cell? ⟨w.heap.size + 1 + 1, 0, none⟩ = some (.int .i64 (0)) := (b2.cell (p := ⟨w.heap.size + 1 + 1, 0, none⟩) (by first | (simp; done) | (simp; omega) | omega)).trans (by first | with_reducible assumption | (simp [go_sem]; done) | (simp [go_sem, *]; done))
          have g2_2_0 : w2.frozen? ⟨w.heap.size + 1 + 1, 0, none⟩ = false := (b2.frozen (p := ⟨w.heap.size + 1 + 1, 0, none⟩) (by first | (simp; done) | (simp; omega) | omega)).trans (by first | with_reducible assumption | (simp [go_sem]; done) | (simp [go_sem, *]; done))
          have k2_2_1 : w2.cell? ⟨w.heap.size + 1 + 1, 1, none⟩ = some (.int .i64 (0)) := (b2.cell (p := ⟨w.heap.size + 1 + 1, 1, none⟩) (by first | (simp; done) | (simp; omega) | omega)).trans (by first | with_reducible assumption | (simp [go_sem]; done) | (simp [go_sem, *]; done))
          have g2_2_1 : w2.frozen? ⟨w.heap.size + 1 + 1, 1, none⟩ = false := (b2.frozen (p := ⟨w.heap.size + 1 + 1, 1, none⟩) (by first | (simp; done) | (simp; omega) | omega)).trans (by first | with_reducible assumption | (simp [go_sem]; done) | (simp [go_sem, *]; done))
          have k2_2_2 : w2.cell? ⟨w.heap.size + 1 + 1, 2, none⟩ = some (.int .i64 (0)) := (b2.cell (p := ⟨w.heap.size + 1 + 1, 2, none⟩) (by first | (simp; done) | (simp; omega) | omega)).trans (by first | with_reducible assumption | (simp [go_sem]; done) | (simp [go_sem, *]; done))
          have g2_2_2 : w2.frozen? ⟨w.heap.size + 1 + 1, 2, none⟩ = false := (b2.frozen (p := ⟨w.heap.size + 1 + 1, 2, none⟩) (by first | (simp; done) | (simp; omega) | omega)).trans (by first | with_reducible assumption | (simp [go_sem]; done) | (simp [go_sem, *]; done))
          clear k1_0_0 g1_0_0 k1_0_1 g1_0_1 k1_1_0 g1_1_0 k1_1_1 g1_1_1 k1_2_0 g1_2_0 k1_2_1 g1_2_1 k1_2_2 g1_2_2
          go_wp2
          refine bodyPost_ret (v := .tuple #[.agg #[.int .i64 0, .int .i64 0, .int .i64 0], .bool false]) (by simp [results, Try.results12, go_sem, *]) rfl ⟨rfl, ?_⟩
          (repeat (first | with_reducible exact Below.refl _ _ | with_reducible refine bl_alloc ?_ _ | with_reducible refine bl_drew ?_ | with_reducible refine bl_set ?_ (by first | (simp; done) | (simp; omega)) _ | with_reducible refine bl_call (by assumption) ?_))
        · have hne : ¬ (aX = bX ∧ aY = bY) := by omega
          have hk : ltOk aX aY bX bY = true := by simp [ltOk, v2B, qa, qb, hne]
          have rA : LtA aX aY bX bY = ltA aX aY bX bY := by simp [LtA, hk]
          have rB : LtB aX aY bX bY = ltB aX aY bX bY := by simp [LtB, hk]
          have rC : LtC aX aY bX bY = ltC aX aY bX bY := by simp [LtC, hk]
          rw [rA, rB, rC, hk]
          clear rA rB rC hk
          obtain ⟨haX, haY⟩ := ptB_true qa
          obtain ⟨hbX, hbY⟩ := ptB_true qb
          have K1 : Hid (∀ W : World, Calls Try.prog 40 #[.agg #[.int .i64 aX, .int .i64 aY]] W fun e w' => e = .returned (.bool true) ∧ Below W.heap.size W w') := Lib.hid fun W => by
            have h := spec_validPoint (aX) (aY) W
            rw [qa] at h
            exact h
          have K2 : Hid (∀ W : World, Calls Try.prog 40 #[.agg #[.int .i64 bX, .int .i64 bY]] W fun e w' => e = .returned (.bool true) ∧ Below W.heap.size W w') := Lib.hid fun W => by
            have h := spec_validPoint (bX) (bY) W
            rw [qb] at h
            exact h
          have K3 : Hid (∀ W : World, Calls Try.prog 41 #[.agg #[.int .i64 aX, .int .i64 aY], .agg #[.int .i64 bX, .int .i64 bY]] W fun e w' => e = .returned (.agg #[.int .i64 (ltA aX aY bX bY), .int .i64 (ltB aX aY bX bY), .int .i64 (ltC aX aY bX bY)]) ∧ Below W.heap.size W w') := Lib.hid fun W => spec_lineThrough _ _ _ _ W (by omega) (by omega) (by omega) (by omega) hne
          have i1 : (aX == bX) = true := by simp [e1]
          have i2 : (aY == bY) = false := by simp [e2]
          clear qa qb hne e1 e2
          go_enter Try.func12, Try.ntmps12
          go_wp2_with fail
          refine (K1.out _).mono ?_
          rintro e w1 ⟨rfl, b1⟩
          have s1 := b1.size
          try simp at s1
          have z1_0 : w.heap.size < w1.heap.size := by omega
          have k1_0_0 : w1.cell? ⟨w.heap.size, 0, none⟩ = some (.int .i64 (aX)) := (b1.cell (p := ⟨w.heap.size, 0, none⟩) (by first | (simp; done) | (simp; omega) | omega)).trans (by first | with_reducible assumption | (simp [go_sem]; done) | (simp [go_sem, *]; done))
          have g1_0_0 : w1.frozen? ⟨w.heap.size, 0, none⟩ = false := (b1.frozen (p := ⟨w.heap.size, 0, none⟩) (by first | (simp; done) | (simp; omega) | omega)).trans (by first | with_reducible assumption | (simp [go_sem]; done) | (simp [go_sem, *]; done))
          have k1_0_1 : w1.cell? ⟨w.heap.size, 1, none⟩ = some (.int .i64 (aY)) := (b1.cell (p := ⟨w.heap.size, 1, none⟩) (by first | (simp; done) | (simp; omega) | omega)).trans (by first | with_reducible assumption | (simp [go_sem]; done) | (simp [go_sem, *]; done))
          have g1_0_1 : w1.frozen? ⟨w.heap.size, 1, none⟩ = false := (b1.frozen (p := ⟨w.heap.size, 1, none⟩) (by first | (simp; done) | (simp; omega) | omega)).trans (by first | with_reducible assumption | (simp [go_sem]; done) | (simp [go_sem, *]; done))
          have z1_1 : w.heap.size + 1 < w1.heap.size := by omega
          have k1_1_0 : w1.cell? ⟨w.heap.size + 1, 0, none⟩ = some (.int .i64 (bX)) := (b1.cell (p := ⟨w.heap.size + 1, 0, none⟩) (by first | (simp; done) | (simp; omega) | omega)).trans (by first | with_reducible assumption | (simp [go_sem]; done) | (simp [go_sem, *]; done))
          have g1_1_0 : w1.frozen? ⟨w.heap.size + 1, 0, none⟩ = false := (b1.frozen (p := ⟨w.heap.size + 1, 0, none⟩) (by first | (simp; done) | (simp; omega) | omega)).trans (by first | with_reducible assumption | (simp [go_sem]; done) | (simp [go_sem, *]; done))
          have k1_1_1 : w1.cell? ⟨w.heap.size + 1, 1, none⟩ = some (.int .i64 (bY)) := (b1.cell (p := ⟨w.heap.size + 1, 1, none⟩) (by first | (simp; done) | (simp; omega) | omega)).trans (by first | with_reducible assumption | (simp [go_sem]; done) | (simp [go_sem, *]; done))
          have g1_1_1 : w1.frozen? ⟨w.heap.size + 1, 1, none⟩ = false := (b1.frozen (p := ⟨w.heap.size + 1, 1, none⟩) (by first | (simp; done) | (simp; omega) | omega)).trans (by first | with_reducible assumption | (simp [go_sem]; done) | (simp [go_sem, *]; done))
          have z1_2 : w.heap.size + 1 + 1 < w1.heap.size := by omega
          have k1_2_0 : w1.cell? ⟨w.heap.size + 1 + 1, 0, none⟩ = some (.int .i64 (0)) := (b1.cell (p := ⟨w.heap.size + 1 + 1, 0, none⟩) (by first | (simp; done) | (simp; omega) | omega)).trans (by first | with_reducible assumption | (simp [go_sem]; done) | (simp [go_sem, *]; done))
          have g1_2_0 : w1.frozen? ⟨w.heap.size + 1 + 1, 0, none⟩ = false := (b1.frozen (p := ⟨w.heap.size + 1 + 1, 0, none⟩) (by first | (simp; done) | (simp; omega) | omega)).trans (by first | with_reducible assumption | (simp [go_sem]; done) | (simp [go_sem, *]; done))
          have k1_2_1 : w1.cell? ⟨w.heap.size + 1 + 1, 1, none⟩ = some (.int .i64 (0)) := (b1.cell (p := ⟨w.heap.size + 1 + 1, 1, none⟩) (by first | (simp; done) | (simp; omega) | omega)).trans (by first | with_reducible assumption | (simp [go_sem]; done) | (simp [go_sem, *]; done))
          have g1_2_1 : w1.frozen? ⟨w.heap.size + 1 + 1, 1, none⟩ = false := (b1.frozen (p := ⟨w.heap.size + 1 + 1, 1, none⟩) (by first | (simp; done) | (simp; omega) | omega)).trans (by first | with_reducible assumption | (simp [go_sem]; done) | (simp [go_sem, *]; done))
          have k1_2_2 : w1.cell? ⟨w.heap.size + 1 + 1, 2, none⟩ = some (.int .i64 (0)) := (b1.cell (p := ⟨w.heap.size + 1 + 1, 2, none⟩) (by first | (simp; done) | (simp; omega) | omega)).trans (by first | with_reducible assumption | (simp [go_sem]; done) | (simp [go_sem, *]; done))
          have g1_2_2 : w1.frozen? ⟨w.heap.size + 1 + 1, 2, none⟩ = false := (b1.frozen (p := ⟨w.heap.size + 1 + 1, 2, none⟩) (by first | (simp; done) | (simp; omega) | omega)).trans (by first | with_reducible assumption | (simp [go_sem]; done) | (simp [go_sem, *]; done))
          go_wp2_with fail
          refine (K2.out _).mono ?_
          rintro e w2 ⟨rfl, b2⟩
          have s2 := b2.size
          try simp at s2
          have z2_0 : w.heap.size < w2.heap.size := by omega
          have k2_0_0 : w2.cell? ⟨w.heap.size, 0, none⟩ = some (.int .i64 (aX)) := (b2.cell (p := ⟨w.heap.size, 0, none⟩) (by first | (simp; done) | (simp; omega) | omega)).trans (by first | with_reducible assumption | (simp [go_sem]; done) | (simp [go_sem, *]; done))
          have g2_0_0 : w2.frozen? ⟨w.heap.size, 0, none⟩ = false := (b2.frozen (p := ⟨w.heap.size, 0, none⟩) (by first | (simp; done) | (simp; omega) | omega)).trans (by first | with_reducible assumption | (simp [go_sem]; done) | (simp [go_sem, *]; done))
          have k2_0_1 : w2.cell? ⟨w.heap.size, 1, none⟩ = some (.int .i64 (aY)) := (b2.cell (p := ⟨w.heap.size, 1, none⟩) (by first | (simp; done) | (simp; omega) | omega)).trans (by first | with_reducible assumption | (simp [go_sem]; done) | (simp [go_sem, *]; done))
          have g2_0_1 : w2.frozen? ⟨w.heap.size, 1, none⟩ = false := (b2.frozen (p := ⟨w.heap.size, 1, none⟩) (by first | (simp; done) | (simp; omega) | omega)).trans (by first | with_reducible assumption | (simp [go_sem]; done) | (simp [go_sem, *]; done))
          have z2_1 : w.heap.size + 1 < w2.heap.size := by omega
          have k2_1_0 : w2.cell? ⟨w.heap.size + 1, 0, none⟩ = some (.int .i64 (bX)) := (b2.cell (p := ⟨w.heap.size + 1, 0, none⟩) (by first | (simp; done) | (simp; omega) | omega)).trans (by first | with_reducible assumption | (simp [go_sem]; done) | (simp [go_sem, *]; done))
          have g2_1_0 : w2.frozen? ⟨w.heap.size + 1, 0, none⟩ = false := (b2.frozen (p := ⟨w.heap.size + 1, 0, none⟩) (by first | (simp; done) | (simp; omega) | omega)).trans (by first | with_reducible assumption | (simp [go_sem]; done) | (simp [go_sem, *]; done))
          have k2_1_1 : w2.cell? ⟨w.heap.size + 1, 1, none⟩ = some (.int .i64 (bY)) := (b2.cell (p := ⟨w.heap.size + 1, 1, none⟩) (by first | (simp; done) | (simp; omega) | omega)).trans (by first | with_reducible assumption | (simp [go_sem]; done) | (simp [go_sem, *]; done))
          have g2_1_1 : w2.frozen? ⟨w.heap.size + 1, 1, none⟩ = false := (b2.frozen (p := ⟨w.heap.size + 1, 1, none⟩) (by first | (simp; done) | (simp; omega) | omega)).trans (by first | with_reducible assumption | (simp [go_sem]; done) | (simp [go_sem, *]; done))
          have z2_2 : w.heap.size + 1 + 1 < w2.heap.size := by omega
          have k2_2_0 : w2.cell? ⟨w.heap.size + 1 + 1, 0, none⟩ = some (.int .i64 (0)) := (b2.cell (p := ⟨w.heap.size + 1 + 1, 0, none⟩) (by first | (simp; done) | (simp; omega) | omega)).trans (by first | with_reducible assumption | (simp [go_sem]; done) | (simp [go_sem, *]; done))
          have g2_2_0 : w2.frozen? ⟨w.heap.size + 1 + 1, 0, none⟩ = false := (b2.frozen (p := ⟨w.heap.size + 1 + 1, 0, none⟩) (by first | (simp; done) | (simp; omega) | omega)).trans (by first | with_reducible assumption | (simp [go_sem]; done) | (simp [go_sem, *]; done))
          have k2_2_1 : w2.cell? ⟨w.heap.size + 1 + 1, 1, none⟩ = some (.int .i64 (0)) := (b2.cell (p := ⟨w.heap.size + 1 + 1, 1, none⟩) (by first | (simp; done) | (simp; omega) | omega)).trans (by first | with_reducible assumption | (simp [go_sem]; done) | (simp [go_sem, *]; done))
          have g2_2_1 : w2.frozen? ⟨w.heap.size + 1 + 1, 1, none⟩ = false := (b2.frozen (p := ⟨w.heap.size + 1 + 1, 1, none⟩) (by first | (simp; done) | (simp; omega) | omega)).trans (by first | with_reducible assumption | (simp [go_sem]; done) | (simp [go_sem, *]; done))
          have k2_2_2 : w2.cell? ⟨w.heap.size + 1 + 1, 2, none⟩ = some (.int .i64 (0)) := (b2.cell (p := ⟨w.heap.size + 1 + 1, 2, none⟩) (by first | (simp; done) | (simp; omega) | omega)).trans (by first | with_reducible assumption | (simp [go_sem]; done) | (simp [go_sem, *]; done))
          have g2_2_2 : w2.frozen? ⟨w.heap.size + 1 + 1, 2, none⟩ = false := (b2.frozen (p := ⟨w.heap.size + 1 + 1, 2, none⟩) (by first | (simp; done) | (simp; omega) | omega)).trans (by first | with_reducible assumption | (simp [go_sem]; done) | (simp [go_sem, *]; done))
          clear k1_0_0 g1_0_0 k1_0_1 g1_0_1 k1_1_0 g1_1_0 k1_1_1 g1_1_1 k1_2_0 g1_2_0 k1_2_1 g1_2_1 k1_2_2 g1_2_2
          go_wp2_with fail
          refine (K3.out _).mono ?_
          rintro e w3 ⟨rfl, b3⟩
          have s3 := b3.size
          try simp at s3
          have z3_0 : w.heap.size < w3.heap.size := by omega
          have k3_0_0 : w3.cell? ⟨w.heap.size, 0, none⟩ = some (.int .i64 (aX)) := (b3.cell (p := ⟨w.heap.size, 0, none⟩) (by first | (simp; done) | (simp; omega) | omega)).trans (by first | with_reducible assumption | (simp [go_sem]; done) | (simp [go_sem, *]; done))
          have g3_0_0 : w3.frozen? ⟨w.heap.size, 0, none⟩ = false := (b3.frozen (p := ⟨w.heap.size, 0, none⟩) (by first | (simp; done) | (simp; omega) | omega)).trans (by first | with_reducible assumption | (simp [go_sem]; done) | (simp [go_sem, *]; done))
          have k3_0_1 : w3.cell? ⟨w.heap.size, 1, none⟩ = some (.int .i64 (aY)) := (b3.cell (p := ⟨w.heap.size, 1, none⟩) (by first | (simp; done) | (simp; omega) | omega)).trans (by first | with_reducible assumption | (simp [go_sem]; done) | (simp [go_sem, *]; done))
          have g3_0_1 : w3.frozen? ⟨w.heap.size, 1, none⟩ = false := (b3.frozen (p := ⟨w.heap.size, 1, none⟩) (by first | (simp; done) | (simp; omega) | omega)).trans (by first | with_reducible assumption | (simp [go_sem]; done) | (simp [go_sem, *]; done))
          have z3_1 : w.heap.size + 1 < w3.heap.size := by omega
          have k3_1_0 : w3.cell? ⟨w.heap.size + 1, 0, none⟩ = some (.int .i64 (bX)) := (b3.cell (p := ⟨w.heap.size + 1, 0, none⟩) (by first | (simp; done) | (simp; omega) | omega)).trans (by first | with_reducible assumption | (simp [go_sem]; done) | (simp [go_sem, *]; done))
          have g3_1_0 : w3.frozen? ⟨w.heap.size + 1, 0, none⟩ = false := (b3.frozen (p := ⟨w.heap.size + 1, 0, none⟩) (by first | (simp; done) | (simp; omega) | omega)).trans (by first | with_reducible assumption | (simp [go_sem]; done) | (simp [go_sem, *]; done))
          have k3_1_1 : w3.cell? ⟨w.heap.size + 1, 1, none⟩ = some (.int .i64 (bY)) := (b3.cell (p := ⟨w.heap.size + 1, 1, none⟩) (by first | (simp; done) | (simp; omega) | omega)).trans (by first | with_reducible assumption | (simp [go_sem]; done) | (simp [go_sem, *]; done))
          have g3_1_1 : w3.frozen? ⟨w.heap.size + 1, 1, none⟩ = false := (b3.frozen (p := ⟨w.heap.size + 1, 1, none⟩) (by first | (simp; done) | (simp; omega) | omega)).trans (by first | with_reducible assumption | (simp [go_sem]; done) | (simp [go_sem, *]; done))
          have z3_2 : w.heap.size + 1 + 1 < w3.heap.size := by omega
          have k3_2_0 : w3.cell? ⟨w.heap.size + 1 + 1, 0, none⟩ = some (.int .i64 (0)) := (b3.cell (p := ⟨w.heap.size + 1 + 1, 0, none⟩) (by first | (simp; done) | (simp; omega) | omega)).trans (by first | with_reducible assumption | (simp [go_sem]; done) | (simp [go_sem, *]; done))
          have g3_2_0 : w3.frozen? ⟨w.heap.size + 1 + 1, 0, none⟩ = false := (b3.frozen (p := ⟨w.heap.size + 1 + 1, 0, none⟩) (by first | (simp; done) | (simp; omega) | omega)).trans (by first | with_reducible assumption | (simp [go_sem]; done) | (simp [go_sem, *]; done))
          have k3_2_1 : w3.cell? ⟨w.heap.size + 1 + 1, 1, none⟩ = some (.int .i64 (0)) := (b3.cell (p := ⟨w.heap.size + 1 + 1, 1, none⟩) (by first | (simp; done) | (simp; omega) | omega)).trans (by first | with_reducible assumption | (simp [go_sem]; done) | (simp [go_sem, *]; done))
          have g3_2_1 : w3.frozen? ⟨w.heap.size + 1 + 1, 1, none⟩ = false := (b3.frozen (p := ⟨w.heap.size + 1 + 1, 1, none⟩) (by first | (simp; done) | (simp; omega) | omega)).trans (by first | with_reducible assumption | (simp [go_sem]; done) | (simp [go_sem, *]; done))
          have k3_2_2 : w3.cell? ⟨w.heap.size + 1 + 1, 2, none⟩ = some (.int .i64 (0)) := (b3.cell (p := ⟨w.heap.size + 1 + 1, 2, none⟩) (by first | (simp; done) | (simp; omega) | omega)).trans (by first | with_reducible assumption | (simp [go_sem]; done) | (simp [go_sem, *]; done))
          have g3_2_2 : w3.frozen? ⟨w.heap.size + 1 + 1, 2, none⟩ = false := (b3.frozen (p := ⟨w.heap.size + 1 + 1, 2, none⟩) (by first | (simp; done) | (simp; omega) | omega)).trans (by first | with_reducible assumption | (simp [go_sem]; done) | (simp [go_sem, *]; done))
          clear k2_0_0 g2_0_0 k2_0_1 g2_0_1 k2_1_0 g2_1_0 k2_1_1 g2_1_1 k2_2_0 g2_2_0 k2_2_1 g2_2_1 k2_2_2 g2_2_2
          go_wp2
          refine bodyPost_ret (v := .tuple #[.agg #[.int .i64 (ltA aX aY bX bY), .int .i64 (ltB aX aY bX bY), .int .i64 (ltC aX aY bX bY)], .bool true]) (by simp [results, Try.results12, go_sem, *]) rfl ⟨rfl, ?_⟩
          (repeat (first | with_reducible exact Below.refl _ _ | with_reducible refine bl_alloc ?_ _ | with_reducible refine bl_drew ?_ | with_reducible refine bl_set ?_ (by first | (simp; done) | (simp; omega)) _ | with_reducible refine bl_call (by assumption) ?_))
      · have hne : ¬ (aX = bX ∧ aY = bY) := by omega
        have hk : ltOk aX aY bX bY = true := by simp [ltOk, v2B, qa, qb, hne]
        have rA : LtA aX aY bX bY = ltA aX aY bX bY := by simp [LtA, hk]
        have rB : LtB aX aY bX bY = ltB aX aY bX bY := by simp [LtB, hk]
        have rC : LtC aX aY bX bY = ltC aX aY bX bY := by simp [LtC, hk]
        rw [rA, rB, rC, hk]
        clear rA rB rC hk
        obtain ⟨haX, haY⟩ := ptB_true qa
        obtain ⟨hbX, hbY⟩ := ptB_true qb
        have K1 : Hid (∀ W : World, Calls Try.prog 40 #[.agg #[.int .i64 aX, .int .i64 aY]] W fun e w' => e = .returned (.bool true) ∧ Below W.heap.size W w') := Lib.hid fun W => by
          have h := spec_validPoint (aX) (aY) W
          rw [qa] at h
          exact h
        have K2 : Hid (∀ W : World, Calls Try.prog 40 #[.agg #[.int .i64 bX, .int .i64 bY]] W fun e w' => e = .returned (.bool true) ∧ Below W.heap.size W w') := Lib.hid fun W => by
          have h := spec_validPoint (bX) (bY) W
          rw [qb] at h
          exact h
        have K3 : Hid (∀ W : World, Calls Try.prog 41 #[.agg #[.int .i64 aX, .int .i64 aY], .agg #[.int .i64 bX, .int .i64 bY]] W fun e w' => e = .returned (.agg #[.int .i64 (ltA aX aY bX bY), .int .i64 (ltB aX aY bX bY), .int .i64 (ltC aX aY bX bY)]) ∧ Below W.heap.size W w') := Lib.hid fun W => spec_lineThrough _ _ _ _ W (by omega) (by omega) (by omega) (by omega) hne
        have i1 : (aX == bX) = false := by simp [e1]
        clear qa qb hne e1
        go_enter Try.func12, Try.ntmps12
        go_wp2_with fail
        refine (K1.out _).mono ?_
        rintro e w1 ⟨rfl, b1⟩
        have s1 := b1.size
        try simp at s1
        have z1_0 : w.heap.size < w1.heap.size := by omega
        have k1_0_0 : w1.cell? ⟨w.heap.size, 0, none⟩ = some (.int .i64 (aX)) := (b1.cell (p := ⟨w.heap.size, 0, none⟩) (by first | (simp; done) | (simp; omega) | omega)).trans (by first | with_reducible assumption | (simp [go_sem]; done) | (simp [go_sem, *]; done))
        have g1_0_0 : w1.frozen? ⟨w.heap.size, 0, none⟩ = false := (b1.frozen (p := ⟨w.heap.size, 0, none⟩) (by first | (simp; done) | (simp; omega) | omega)).trans (by first | with_reducible assumption | (simp [go_sem]; done) | (simp [go_sem, *]; done))
        have k1_0_1 : w1.cell? ⟨w.heap.size, 1, none⟩ = some (.int .i64 (aY)) := (b1.cell (p := ⟨w.heap.size, 1, none⟩) (by first | (simp; done) | (simp; omega) | omega)).trans (by first | with_reducible assumption | (simp [go_sem]; done) | (simp [go_sem, *]; done))
        have g1_0_1 : w1.frozen? ⟨w.heap.size, 1, none⟩ = false := (b1.frozen (p := ⟨w.heap.size, 1, none⟩) (by first | (simp; done) | (simp; omega) | omega)).trans (by first | with_reducible assumption | (simp [go_sem]; done) | (simp [go_sem, *]; done))
        have z1_1 : w.heap.size + 1 < w1.heap.size := by omega
        have k1_1_0 : w1.cell? ⟨w.heap.size + 1, 0, none⟩ = some (.int .i64 (bX)) := (b1.cell (p := ⟨w.heap.size + 1, 0, none⟩) (by first | (simp; done) | (simp; omega) | omega)).trans (by first | with_reducible assumption | (simp [go_sem]; done) | (simp [go_sem, *]; done))
        have g1_1_0 : w1.frozen? ⟨w.heap.size + 1, 0, none⟩ = false := (b1.frozen (p := ⟨w.heap.size + 1, 0, none⟩) (by first | (simp; done) | (simp; omega) | omega)).trans (by first | with_reducible assumption | (simp [go_sem]; done) | (simp [go_sem, *]; done))
        have k1_1_1 : w1.cell? ⟨w.heap.size + 1, 1, none⟩ = some (.int .i64 (bY)) := (b1.cell (p := ⟨w.heap.size + 1, 1, none⟩) (by first | (simp; done) | (simp; omega) | omega)).trans (by first | with_reducible assumption | (simp [go_sem]; done) | (simp [go_sem, *]; done))
        have g1_1_1 : w1.frozen? ⟨w.heap.size + 1, 1, none⟩ = false := (b1.frozen (p := ⟨w.heap.size + 1, 1, none⟩) (by first | (simp; done) | (simp; omega) | omega)).trans (by first | with_reducible assumption | (simp [go_sem]; done) | (simp [go_sem, *]; done))
        have z1_2 : w.heap.size + 1 + 1 < w1.heap.size := by omega
        have k1_2_0 : w1.cell? ⟨w.heap.size + 1 + 1, 0, none⟩ = some (.int .i64 (0)) := (b1.cell (p := ⟨w.heap.size + 1 + 1, 0, none⟩) (by first | (simp; done) | (simp; omega) | omega)).trans (by first | with_reducible assumption | (simp [go_sem]; done) | (simp [go_sem, *]; done))
        have g1_2_0 : w1.frozen? ⟨w.heap.size + 1 + 1, 0, none⟩ = false := (b1.frozen (p := ⟨w.heap.size + 1 + 1, 0, none⟩) (by first | (simp; done) | (simp; omega) | omega)).trans (by first | with_reducible assumption | (simp [go_sem]; done) | (simp [go_sem, *]; done))
        have k1_2_1 : w1.cell? ⟨w.heap.size + 1 + 1, 1, none⟩ = some (.int .i64 (0)) := (b1.cell (p := ⟨w.heap.size + 1 + 1, 1, none⟩) (by first | (simp; done) | (simp; omega) | omega)).trans (by first | with_reducible assumption | (simp [go_sem]; done) | (simp [go_sem, *]; done))
        have g1_2_1 : w1.frozen? ⟨w.heap.size + 1 + 1, 1, none⟩ = false := (b1.frozen (p := ⟨w.heap.size + 1 + 1, 1, none⟩) (by first | (simp; done) | (simp; omega) | omega)).trans (by first | with_reducible assumption | (simp [go_sem]; done) | (simp [go_sem, *]; done))
        have k1_2_2 : w1.cell? ⟨w.heap.size + 1 + 1, 2, none⟩ = some (.int .i64 (0)) := (b1.cell (p := ⟨w.heap.size + 1 + 1, 2, none⟩) (by first | (simp; done) | (simp; omega) | omega)).trans (by first | with_reducible assumption | (simp [go_sem]; done) | (simp [go_sem, *]; done))
        have g1_2_2 : w1.frozen? ⟨w.heap.size + 1 + 1, 2, none⟩ = false := (b1.frozen (p := ⟨w.heap.size + 1 + 1, 2, none⟩) (by first | (simp; done) | (simp; omega) | omega)).trans (by first | with_reducible assumption | (simp [go_sem]; done) | (simp [go_sem, *]; done))
        go_wp2_with fail
        refine (K2.out _).mono ?_
        rintro e w2 ⟨rfl, b2⟩
        have s2 := b2.size
        try simp at s2
        have z2_0 : w.heap.size < w2.heap.size := by omega
        have k2_0_0 : w2.cell? ⟨w.heap.size, 0, none⟩ = some (.int .i64 (aX)) := (b2.cell (p := ⟨w.heap.size, 0, none⟩) (by first | (simp; done) | (simp; omega) | omega)).trans (by first | with_reducible assumption | (simp [go_sem]; done) | (simp [go_sem, *]; done))
        have g2_0_0 : w2.frozen? ⟨w.heap.size, 0, none⟩ = false := (b2.frozen (p := ⟨w.heap.size, 0, none⟩) (by first | (simp; done) | (simp; omega) | omega)).trans (by first | with_reducible assumption | (simp [go_sem]; done) | (simp [go_sem, *]; done))
        have k2_0_1 : w2.cell? ⟨w.heap.size, 1, none⟩ = some (.int .i64 (aY)) := (b2.cell (p := ⟨w.heap.size, 1, none⟩) (by first | (simp; done) | (simp; omega) | omega)).trans (by first | with_reducible assumption | (simp [go_sem]; done) | (simp [go_sem, *]; done))
        have g2_0_1 : w2.frozen? ⟨w.heap.size, 1, none⟩ = false := (b2.frozen (p := ⟨w.heap.size, 1, none⟩) (by first | (simp; done) | (simp; omega) | omega)).trans (by first | with_reducible assumption | (simp [go_sem]; done) | (simp [go_sem, *]; done))
        have z2_1 : w.heap.size + 1 < w2.heap.size := by omega
        have k2_1_0 : w2.cell? ⟨w.heap.size + 1, 0, none⟩ = some (.int .i64 (bX)) := (b2.cell (p := ⟨w.heap.size + 1, 0, none⟩) (by first | (simp; done) | (simp; omega) | omega)).trans (by first | with_reducible assumption | (simp [go_sem]; done) | (simp [go_sem, *]; done))
        have g2_1_0 : w2.frozen? ⟨w.heap.size + 1, 0, none⟩ = false := (b2.frozen (p := ⟨w.heap.size + 1, 0, none⟩) (by first | (simp; done) | (simp; omega) | omega)).trans (by first | with_reducible assumption | (simp [go_sem]; done) | (simp [go_sem, *]; done))
        have k2_1_1 : w2.cell? ⟨w.heap.size + 1, 1, none⟩ = some (.int .i64 (bY)) := (b2.cell (p := ⟨w.heap.size + 1, 1, none⟩) (by first | (simp; done) | (simp; omega) | omega)).trans (by first | with_reducible assumption | (simp [go_sem]; done) | (simp [go_sem, *]; done))
        have g2_1_1 : w2.frozen? ⟨w.heap.size + 1, 1, none⟩ = false := (b2.frozen (p := ⟨w.heap.size + 1, 1, none⟩) (by first | (simp; done) | (simp; omega) | omega)).trans (by first | with_reducible assumption | (simp [go_sem]; done) | (simp [go_sem, *]; done))
        have z2_2 : w.heap.size + 1 + 1 < w2.heap.size := by omega
        have k2_2_0 : w2.cell? ⟨w.heap.size + 1 + 1, 0, none⟩ = some (.int .i64 (0)) := (b2.cell (p := ⟨w.heap.size + 1 + 1, 0, none⟩) (by first | (simp; done) | (simp; omega) | omega)).trans (by first | with_reducible assumption | (simp [go_sem]; done) | (simp [go_sem, *]; done))
        have g2_2_0 : w2.frozen? ⟨w.heap.size + 1 + 1, 0, none⟩ = false := (b2.frozen (p := ⟨w.heap.size + 1 + 1, 0, none⟩) (by first | (simp; done) | (simp; omega) | omega)).trans (by first | with_reducible assumption | (simp [go_sem]; done) | (simp [go_sem, *]; done))
        have k2_2_1 : w2.cell? ⟨w.heap.size + 1 + 1, 1, none⟩ = some (.int .i64 (0)) := (b2.cell (p := ⟨w.heap.size + 1 + 1, 1, none⟩) (by first | (simp; done) | (simp; omega) | omega)).trans (by first | with_reducible assumption | (simp [go_sem]; done) | (simp [go_sem, *]; done))
        have g2_2_1 : w2.frozen? ⟨w.heap.size + 1 + 1, 1, none⟩ = false := (b2.frozen (p := ⟨w.heap.size + 1 + 1, 1, none⟩) (by first | (simp; done) | (simp; omega) | omega)).trans (by first | with_reducible assumption | (simp [go_sem]; done) | (simp [go_sem, *]; done))
        have k2_2_2 : w2.cell? ⟨w.heap.size + 1 + 1, 2, none⟩ = some (.int .i64 (0)) := (b2.cell (p := ⟨w.heap.size + 1 + 1, 2, none⟩) (by first | (simp; done) | (simp; omega) | omega)).trans (by first | with_reducible assumption | (simp [go_sem]; done) | (simp [go_sem, *]; done))
        have g2_2_2 : w2.frozen? ⟨w.heap.size + 1 + 1, 2, none⟩ = false := (b2.frozen (p := ⟨w.heap.size + 1 + 1, 2, none⟩) (by first | (simp; done) | (simp; omega) | omega)).trans (by first | with_reducible assumption | (simp [go_sem]; done) | (simp [go_sem, *]; done))
        clear k1_0_0 g1_0_0 k1_0_1 g1_0_1 k1_1_0 g1_1_0 k1_1_1 g1_1_1 k1_2_0 g1_2_0 k1_2_1 g1_2_1 k1_2_2 g1_2_2
        go_wp2_with fail
        refine (K3.out _).mono ?_
        rintro e w3 ⟨rfl, b3⟩
        have s3 := b3.size
        try simp at s3
        have z3_0 : w.heap.size < w3.heap.size := by omega
        have k3_0_0 : w3.cell? ⟨w.heap.size, 0, none⟩ = some (.int .i64 (aX)) := (b3.cell (p := ⟨w.heap.size, 0, none⟩) (by first | (simp; done) | (simp; omega) | omega)).trans (by first | with_reducible assumption | (simp [go_sem]; done) | (simp [go_sem, *]; done))
        have g3_0_0 : w3.frozen? ⟨w.heap.size, 0, none⟩ = false := (b3.frozen (p := ⟨w.heap.size, 0, none⟩) (by first | (simp; done) | (simp; omega) | omega)).trans (by first | with_reducible assumption | (simp [go_sem]; done) | (simp [go_sem, *]; done))
        have k3_0_1 : w3.cell? ⟨w.heap.size, 1, none⟩ = some (.int .i64 (aY)) := (b3.cell (p := ⟨w.heap.size, 1, none⟩) (by first | (simp; done) | (simp; omega) | omega)).trans (by first | with_reducible assumption | (simp [go_sem]; done) | (simp [go_sem, *]; done))
        have g3_0_1 : w3.frozen? ⟨w.heap.size, 1, none⟩ = false := (b3.frozen (p := ⟨w.heap.size, 1, none⟩) (by first | (simp; done) | (simp; omega) | omega)).trans (by first | with_reducible assumption | (simp [go_sem]; done) | (simp [go_sem, *]; done))
        have z3_1 : w.heap.size + 1 < w3.heap.size := by omega
        have k3_1_0 : w3.cell? ⟨w.heap.size + 1, 0, none⟩ = some (.int .i64 (bX)) := (b3.cell (p := ⟨w.heap.size + 1, 0, none⟩) (by first | (simp; done) | (simp; omega) | omega)).trans (by first | with_reducible assumption | (simp [go_sem]; done) | (simp [go_sem, *]; done))
        have g3_1_0 : w3.frozen? ⟨w.heap.size + 1, 0, none⟩ = false := (b3.frozen (p := ⟨w.heap.size + 1, 0, none⟩) (by first | (simp; done) | (simp; omega) | omega)).trans (by first | with_reducible assumption | (simp [go_sem]; done) | (simp [go_sem, *]; done))
        have k3_1_1 : w3.cell? ⟨w.heap.size + 1, 1, none⟩ = some (.int .i64 (bY)) := (b3.cell (p := ⟨w.heap.size + 1, 1, none⟩) (by first | (simp; done) | (simp; omega) | omega)).trans (by first | with_reducible assumption | (simp [go_sem]; done) | (simp [go_sem, *]; done))
        have g3_1_1 : w3.frozen? ⟨w.heap.size + 1, 1, none⟩ = false := (b3.frozen (p := ⟨w.heap.size + 1, 1, none⟩) (by first | (simp; done) | (simp; omega) | omega)).trans (by first | with_reducible assumption | (simp [go_sem]; done) | (simp [go_sem, *]; done))
        have z3_2 : w.heap.size + 1 + 1 < w3.heap.size := by omega
        have k3_2_0 : w3.cell? ⟨w.heap.size + 1 + 1, 0, none⟩ = some (.int .i64 (0)) := (b3.cell (p := ⟨w.heap.size + 1 + 1, 0, none⟩) (by first | (simp; done) | (simp; omega) | omega)).trans (by first | with_reducible assumption | (simp [go_sem]; done) | (simp [go_sem, *]; done))
        have g3_2_0 : w3.frozen? ⟨w.heap.size + 1 + 1, 0, none⟩ = false := (b3.frozen (p := ⟨w.heap.size + 1 + 1, 0, none⟩) (by first | (simp; done) | (simp; omega) | omega)).trans (by first | with_reducible assumption | (simp [go_sem]; done) | (simp [go_sem, *]; done))
        have k3_2_1 : w3.cell? ⟨w.heap.size + 1 + 1, 1, none⟩ = some (.int .i64 (0)) := (b3.cell (p := ⟨w.heap.size + 1 + 1, 1, none⟩) (by first | (simp; done) | (simp; omega) | omega)).trans (by first | with_reducible assumption | (simp [go_sem]; done) | (simp [go_sem, *]; done))
        have g3_2_1 : w3.frozen? ⟨w.heap.size + 1 + 1, 1, none⟩ = false := (b3.frozen (p := ⟨w.heap.size + 1 + 1, 1, none⟩) (by first | (simp; done) | (simp; omega) | omega)).trans (by first | with_reducible assumption | (simp [go_sem]; done) | (simp [go_sem, *]; done))
        have k3_2_2 : w3.cell? ⟨w.heap.size + 1 + 1, 2, none⟩ = some (.int .i64 (0)) := (b3.cell (p := ⟨w.heap.size + 1 + 1, 2, none⟩) (by first | (simp; done) | (simp; omega) | omega)).trans (by first | with_reducible assumption | (simp [go_sem]; done) | (simp [go_sem, *]; done))
        have g3_2_2 : w3.frozen? ⟨w.heap.size + 1 + 1, 2, none⟩ = false := (b3.frozen (p := ⟨w.heap.size + 1 + 1, 2, none⟩) (by first | (simp; done) | (simp; omega) | omega)).trans (by first | with_reducible assumption | (simp [go_sem]; done) | (simp [go_sem, *]; done))
        clear k2_0_0 g2_0_0 k2_0_1 g2_0_1 k2_1_0 g2_1_0 k2_1_1 g2_1_1 k2_2_0 g2_2_0 k2_2_1 g2_2_1 k2_2_2 g2_2_2
        go_wp2
        refine bodyPost_ret (v := .tuple #[.agg #[.int .i64 (ltA aX aY bX bY), .int .i64 (ltB aX aY bX bY), .int .i64 (ltC aX aY bX bY)], .bool true]) (by simp [results, Try.results12, go_sem, *]) rfl ⟨rfl, ?_⟩
        (repeat (first | with_reducible exact Below.refl _ _ | with_reducible refine bl_alloc ?_ _ | with_reducible refine bl_drew ?_ | with_reducible refine bl_set ?_ (by first | (simp; done) | (simp; omega)) _ | with_reducible refine bl_call (by assumption) ?_))

end Go.Proofs.Ytgnjmcfkehgdfaa
