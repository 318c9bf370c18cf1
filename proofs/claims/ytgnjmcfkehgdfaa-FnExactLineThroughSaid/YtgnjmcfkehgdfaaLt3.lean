/- Contracts of functions that this seat's statements reach: each is shown to compute a plain Lean function, and to leave what was there as it was. No conditions but those in each theorem. -/
import Derived.Test.YtgnjmcfkehgdfaaCtn
import Derived.Test.YtgnjmcfkehgdfaaGeo
import Derived.Test.YtgnjmcfkehgdfaaPlainL4
import Derived.Test.YtgnjmcfkehgdfaaGn
namespace Go.Proofs.Ytgnjmcfkehgdfaa
open Go.RowKit
set_option linter.unusedVariables false

open Go.Sort

set_option maxHeartbeats 8000000 in
theorem impl_LineThrough (aX : Int) (aY : Int) (bX : Int) (bY : Int) (w : World) :
    Calls Try.prog 14 #[.agg #[.int .i64 aX, .int .i64 aY], .agg #[.int .i64 bX, .int .i64 bY]] w fun e w' => e = .returned (.tuple #[.agg #[.int .i64 (LtA aX aY bX bY), .int .i64 (LtB aX aY bX bY), .int .i64 (LtC aX aY bX bY)], .bool (ltOk aX aY bX bY)]) ∧ Below w.heap.size w w' := by
  cases hv : v2B aX aY bX bY with
  | false =>
    have hk : ltOk aX aY bX bY = false := by simp [ltOk, hv]
    have rA : LtA aX aY bX bY = 0 := by simp [LtA, hk]
    have rB : LtB aX aY bX bY = 0 := by simp [LtB, hk]
    have rC : LtC aX aY bX bY = 0 := by simp [LtC, hk]
    rw [rA, rB, rC, hk]
    clear rA rB rC hk
    go_enter Try.func14, Try.ntmps14
    go_wp2_with fail
    refine (impl_allValid2 _ _ aX aY bX bY _ (by simp) ⟨by simp [go_sem], by simp [go_sem], by simp [go_sem], by simp [go_sem]⟩).mono ?_
    rintro e w1 ⟨rfl, b1⟩
    have s1 := b1.size
    try simp at s1
    have z1_0 : w.heap.size < w1.heap.size := by omega
    have k1_0_0 : w1.cell? ⟨w.heap.size, 0, none⟩ = some (.int .i64 (aX)) := (b1.cell (p := ⟨w.heap.size, 0, none⟩) (by first | (simp; done) | (simp; omega) | omega)).trans (by first | with_reducible assumption | (simp [go_sem]; done) | (simp [go_sem, *]; done))
    have g1_0_0 : w1.frozen? ⟨w.heap.size, 0, none⟩ = false := (b1.frozen (p := ⟨w.heap.size, 0, none⟩) (by first | (simp; done) | (simp; omega) | omega)).trans (by first | with_reducible assumption | (simp [go_sem]; done) | (simp [go_sem, *]; done))
    have k1_0_1 : w1.cell? ⟨w.heap.size, 1, none⟩ = some (.int .i64 (aY)) := (b1.cell (p := ⟨w.heap.size, 1, none⟩) (by first | (simp; done) | (simp; omega) | omega)).trans (by first | with_reducible assumption | (simp [go_sem]; done) | (simp [go_sem, *]; done))
    have g1_0_1 : w1.frozen? ⟨w.heap.size, 1, none⟩ = false := (b1.frozen (p := ⟨w.heap.size, 1, none⟩) (by first | (simp; done) | (simp; omega) | omega)).trans (by first | with_reducible assumption | (simp [go_sem]; done) | (simp [go_sem, *]; done))
    have z1_1 : w.heap.size + 1 < w1.heap.size := by omega
    have k1_1_0 : w1.cell? ⟨w.heap.size + 1, 0, none⟩ = some (.int .i64 (bX)) := (b1.cell (p := ⟨w.heap.size + 1, 0, none⟩) (by first | (simp; done) | (simp; omega) | omega)).trans (by first | with_reducible assumption | (simp [go_sem]; done) | (simp [go_sem, *]; done))
    have g1_1_0 : w1.frozen? ⟨w.heap.size + 1, 0, none⟩ = false := (b1.frozen (p := ⟨w.heap.size + 1, 0, none⟩) (by first | (simp; done) | (simp; omega) | omega)).trans (by first | with_reducible assumption | (simp [go_sem]; done) | (simp [go_sem, *]; done))
    have k1_1_1 : w1.cell? ⟨w.heap.size + 1, 1, none⟩ = some (.int .i64 (bY)) := (b1.cell (p := ⟨w.heap.size + 1, 1, none⟩) (by first | (simp; done) | (simp; omega) | omega)).trans (by first | with_reducible assumption | (simp [go_sem]; done) | (simp [go_sem, *]; done))
    have g1_1_1 : w1.frozen? ⟨w.heap.size + 1, 1, none⟩ = false := (b1.frozen (p := ⟨w.heap.size + 1, 1, none⟩) (by first | (simp; done) | (simp; omega) | omega)).trans (by first | with_reducible assumption | (simp [go_sem]; done) | (simp [go_sem, *]; done))
    have z1_2 : w.heap.size + 1 + 1 < w1.heap.size := by omega
    have k1_2_0 : w1.cell? ⟨w.heap.size + 1 + 1, 0, none⟩ = some (.int .i64 (0)) := (b1.cell (p := ⟨w.heap.size + 1 + 1, 0, none⟩) (by first | (simp; done) | (simp; omega) | omega)).trans (by first | with_reducible assumption | (simp [go_sem]; done) | (simp [go_sem, *]; done))
    have g1_2_0 : w1.frozen? ⟨w.heap.size + 1 + 1, 0, none⟩ = false := (b1.frozen (p := ⟨w.heap.size + 1 + 1, 0, none⟩) (by first | (simp; done) | (simp; omega) | omega)).trans (by first | with_reducible assumption | (simp [go_sem]; done) | (simp [go_sem, *]; done))
    have k1_2_1 : w1.cell? ⟨w.heap.size + 1 + 1, 1, none⟩ = some (.int .i64 (0)) := (b1.cell (p := ⟨w.heap.size + 1 + 1, 1, none⟩) (by first | (simp; done) | (simp; omega) | omega)).trans (by first | with_reducible assumption | (simp [go_sem]; done) | (simp [go_sem, *]; done))
    have g1_2_1 : w1.frozen? ⟨w.heap.size + 1 + 1, 1, none⟩ = false := (b1.frozen (p := ⟨w.heap.size + 1 + 1, 1, none⟩) (by first | (simp; done) | (simp; omega) | omega)).trans (by first | with_reducible assumption | (simp [go_sem]; done) | (simp [go_sem, *]; done))
    have k1_2_2 : w1.cell? ⟨w.heap.size + 1 + 1, 2, none⟩ = some (.int .i64 (0)) := (b1.cell (p := ⟨w.heap.size + 1 + 1, 2, none⟩) (by first | (simp; done) | (simp; omega) | omega)).trans (by first | with_reducible assumption | (simp [go_sem]; done) | (simp [go_sem, *]; done))
    have g1_2_2 : w1.frozen? ⟨w.heap.size + 1 + 1, 2, none⟩ = false := (b1.frozen (p := ⟨w.heap.size + 1 + 1, 2, none⟩) (by first | (simp; done) | (simp; omega) | omega)).trans (by first | with_reducible assumption | (simp [go_sem]; done) | (simp [go_sem, *]; done))
    go_wp2
    refine bodyPost_ret (v := .tuple #[.agg #[.int .i64 0, .int .i64 0, .int .i64 0], .bool false]) (by simp [results, Try.results14, go_sem, *]) rfl ⟨rfl, ?_⟩
    (repeat (first | with_reducible exact Below.refl _ _ | with_reducible refine bl_alloc ?_ _ | with_reducible refine bl_drew ?_ | with_reducible refine bl_set ?_ (by first | (simp; done) | (simp; omega)) _ | with_reducible refine bl_call (by assumption) ?_))
  
  | true =>
    by_cases e1 : aX = bX
    · by_cases e2 : aY = bY
      · have hk : ltOk aX aY bX bY = false := by simp [ltOk, e1, e2]
        have rA : LtA aX aY bX bY = 0 := by simp [LtA, hk]
        have rB : LtB aX aY bX bY = 0 := by simp [LtB, hk]
        have rC : LtC aX aY bX bY = 0 := by simp [LtC, hk]
        rw [rA, rB, rC, hk]
        clear rA rB rC hk
        have i1 : (aX == bX) = true := by simp [e1]
        have i2 : (aY == bY) = true := by simp [e2]
        clear e1 e2
        go_enter Try.func14, Try.ntmps14
        go_wp2_with fail
        refine (impl_allValid2 _ _ aX aY bX bY _ (by simp) ⟨by simp [go_sem], by simp [go_sem], by simp [go_sem], by simp [go_sem]⟩).mono ?_
        rintro e w1 ⟨rfl, b1⟩
        have s1 := b1.size
        try simp at s1
        have z1_0 : w.heap.size < w1.heap.size := by omega
        have k1_0_0 : w1.cell? ⟨w.heap.size, 0, none⟩ = some (.int .i64 (aX)) := (b1.cell (p := ⟨w.heap.size, 0, none⟩) (by first | (simp; done) | (simp; omega) | omega)).trans (by first | with_reducible assumption | (simp [go_sem]; done) | (simp [go_sem, *]; done))
        have g1_0_0 : w1.frozen? ⟨w.heap.size, 0, none⟩ = false := (b1.frozen (p := ⟨w.heap.size, 0, none⟩) (by first | (simp; done) | (simp; omega) | omega)).trans (by first | with_reducible assumption | (simp [go_sem]; done) | (simp [go_sem, *]; done))
        have k1_0_1 : w1.cell? ⟨w.heap.size, 1, none⟩ = some (.int .i64 (aY)) := (b1.cell (p := ⟨w.heap.size, 1, none⟩) (by first | (simp; done) | (simp; omega) | omega)).trans (by first | with_reducible assumption | (simp [go_sem]; done) | (simp [go_sem, *]; done))
        have g1_0_1 : w1.frozen? ⟨w.heap.size, 1, none⟩ = false := (b1.frozen (p := ⟨w.heap.size, 1, none⟩) (by first | (simp; done) | (simp; omega) | omega)).trans (by first | with_reducible assumption | (simp [go_sem]; done) | (simp [go_sem, *]; done))
        have z1_1 : w.heap.size + 1 < w1.heap.size := by omega
        have k1_1_0 : w1.cell? ⟨w.heap.size + 1, 0, none⟩ = some (.int .i64 (bX)) := (b1.cell (p := ⟨w.heap.size + 1, 0, none⟩) (by first | (simp; done) | (simp; omega) | omega)).trans (by first | with_reducible assumption | (simp [go_sem]; done) | (simp [go_sem, *]; done))
        have g1_1_0 : w1.frozen? ⟨w.heap.size + 1, 0, none⟩ = false := (b1.frozen (p := ⟨w.heap.size + 1, 0, none⟩) (by first | (simp; done) | (simp; omega) | omega)).trans (by first | with_reducible assumption | (simp [go_sem]; done) | (simp [go_sem, *]; done))
        have k1_1_1 : w1.cell? ⟨w.heap.size + 1, 1, none⟩ = some (.int .i64 (bY)) := (b1.cell (p := ⟨w.heap.size + 1, 1, none⟩) (by first | (simp; done) | (simp; omega) | omega)).trans (by first | with_reducible assumption | (simp [go_sem]; done) | (simp [go_sem, *]; done))
        have g1_1_1 : w1.frozen? ⟨w.heap.size + 1, 1, none⟩ = false := (b1.frozen (p := ⟨w.heap.size + 1, 1, none⟩) (by first | (simp; done) | (simp; omega) | omega)).trans (by first | with_reducible assumption | (simp [go_sem]; done) | (simp [go_sem, *]; done))
        have z1_2 : w.heap.size + 1 + 1 < w1.heap.size := by omega
        have k1_2_0 : w1.cell? ⟨w.heap.size + 1 + 1, 0, none⟩ = some (.int .i64 (0)) := (b1.cell (p := ⟨w.heap.size + 1 + 1, 0, none⟩) (by first | (simp; done) | (simp; omega) | omega)).trans (by first | with_reducible assumption | (simp [go_sem]; done) | (simp [go_sem, *]; done))
        have g1_2_0 : w1.frozen? ⟨w.heap.size + 1 + 1, 0, none⟩ = false := (b1.frozen (p := ⟨w.heap.size + 1 + 1, 0, none⟩) (by first | (simp; done) | (simp; omega) | omega)).trans (by first | with_reducible assumption | (simp [go_sem]; done) | (simp [go_sem, *]; done))
        have k1_2_1 : w1.cell? ⟨w.heap.size + 1 + 1, 1, none⟩ = some (.int .i64 (0)) := (b1.cell (p := ⟨w.heap.size + 1 + 1, 1, none⟩) (by first | (simp; done) | (simp; omega) | omega)).trans (by first | with_reducible assumption | (simp [go_sem]; done) | (simp [go_sem, *]; done))
        have g1_2_1 : w1.frozen? ⟨w.heap.size + 1 + 1, 1, none⟩ = false := (b1.frozen (p := ⟨w.heap.size + 1 + 1, 1, none⟩) (by first | (simp; done) | (simp; omega) | omega)).trans (by first | with_reducible assumption | (simp [go_sem]; done) | (simp [go_sem, *]; done))
        have k1_2_2 : w1.cell? ⟨w.heap.size + 1 + 1, 2, none⟩ = some (.int .i64 (0)) := (b1.cell (p := ⟨w.heap.size + 1 + 1, 2, none⟩) (by first | (simp; done) | (simp; omega) | omega)).trans (by first | with_reducible assumption | (simp [go_sem]; done) | (simp [go_sem, *]; done))
        have g1_2_2 : w1.frozen? ⟨w.heap.size + 1 + 1, 2, none⟩ = false := (b1.frozen (p := ⟨w.heap.size + 1 + 1, 2, none⟩) (by first | (simp; done) | (simp; omega) | omega)).trans (by first | with_reducible assumption | (simp [go_sem]; done) | (simp [go_sem, *]; done))
        go_wp2
        refine bodyPost_ret (v := .tuple #[.agg #[.int .i64 0, .int .i64 0, .int .i64 0], .bool false]) (by simp [results, Try.results14, go_sem, *]) rfl ⟨rfl, ?_⟩
        (repeat (first | with_reducible exact Below.refl _ _ | with_reducible refine bl_alloc ?_ _ | with_reducible refine bl_drew ?_ | with_reducible refine bl_set ?_ (by first | (simp; done) | (simp; omega)) _ | with_reducible refine bl_call (by assumption) ?_))
      · by_cases c1 : bY - aY < 0
        · have hne : ¬ (aX = bX ∧ aY = bY) := by omega
          have hk : ltOk aX aY bX bY = true := by simp [ltOk, hv, hne]
          have rA : LtA aX aY bX bY = ltA aX aY bX bY := by simp [LtA, hk]
          have rB : LtB aX aY bX bY = ltB aX aY bX bY := by simp [LtB, hk]
          have rC : LtC aX aY bX bY = ltC aX aY bX bY := by simp [LtC, hk]
          rw [rA, rB, rC, hk]
          clear rA rB rC hk
          obtain ⟨hpa, hpb⟩ : ptB aX aY = true ∧ ptB bX bY = true := by simpa [v2B] using hv
          obtain ⟨⟨_, _⟩, ⟨_, _⟩⟩ := ptB_true hpa
          obtain ⟨⟨_, _⟩, ⟨_, _⟩⟩ := ptB_true hpb
          obtain ⟨⟨q1a, q1b⟩, ⟨q2a, q2b⟩⟩ := lt_bd aX aY bX bY hv
          clear hpa hpb
          have hG : gcdI (bX - aX) (bY - aY) = gcdI (bY - aY) (aX - bX) := by
            have e : aX - bX = -(bX - aX) := by omega
            rw [e, gcdI_neg2]; unfold gcdI; rw [Int.gcd_comm]
          have gp := gcd_pos2 (bY - aY) (aX - bX) (by omega)
          have gu := gcdI_le (bY - aY) (aX - bX) 2000 (by omega) (by omega)
          have hn : bY - aY < 0 ∨ (bY - aY = 0 ∧ aX - bX < 0) := by omega
          obtain ⟨-, -, -, e3, e4⟩ := lt_neg aX aY bX bY hne hn
          have K1 : Hid (∀ W : World, Calls Try.prog 43 #[.agg #[.int .i64 bX, .int .i64 bY], .agg #[.int .i64 aX, .int .i64 aY]] W fun e w' => e = .returned (.agg #[.int .i64 (bX - aX), .int .i64 (bY - aY)]) ∧ Below W.heap.size W w') := Lib.hid fun W => by
            have h := impl_Point_minus (bX) (bY) (aX) (aY) W (by omega) (by omega) (by omega) (by omega)
            exact h
          have K2 : Hid (∀ W : World, Calls Try.prog 44 #[.int .i64 (bX - aX), .int .i64 (bY - aY)] W fun e w' => e = .returned (.int .i64 (gcdI (bY - aY) (aX - bX))) ∧ Below W.heap.size W w') := Lib.hid fun W => by
            have h := impl_divisor (bX - aX) (bY - aY) W (by omega) (by omega) (by omega) (by omega)
            rw [hG] at h
            exact h
          obtain ⟨m1l, m1u⟩ := mul_bd (ltA aX aY bX bY) aX 2000 1000 (by omega) (by omega) (by omega) (by omega)
          obtain ⟨m2l, m2u⟩ := mul_bd (ltB aX aY bX bY) aY 2000 1000 (by omega) (by omega) (by omega) (by omega)
          have hB : aX - bX = -(bX - aX) := by omega
          have eC : ltA aX aY bX bY * aX + ltB aX aY bX bY * aY = ltC aX aY bX bY := rfl
          generalize gcdI (bY - aY) (aX - bX) = G at *
          generalize ltA aX aY bX bY = LA at *
          generalize ltB aX aY bX bY = LB at *
          rw [hB] at e4
          have n1 : bY - aY < 0 := by omega
          have dxl : -2000 ≤ bX - aX := by omega
          have dxu : bX - aX ≤ 2000 := by omega
          have dyl : -2000 ≤ bY - aY := by omega
          have dyu : bY - aY ≤ 2000 := by omega
          clear c1
          clear hne hn hB hG
          generalize bX - aX = DX at *
          generalize bY - aY = DY at *
          have E3 := Lib.hid e3
          have E4 := Lib.hid e4
          have EC := Lib.hid eC
          clear e3 e4 eC
          have gnz : ¬ G = 0 := by omega
          have gnz2 : ¬ -G = 0 := by omega
          obtain ⟨t1l, t1u⟩ := tdiv_bd DY G 2000 (by omega)
          obtain ⟨t2l, t2u⟩ := tdiv_bd (-DX) G 2000 (by omega)
          obtain ⟨t3l, t3u⟩ := tdiv_bd DY (-G) 2000 (by omega)
          obtain ⟨t4l, t4u⟩ := tdiv_bd (-DX) (-G) 2000 (by omega)
          have i1 : (aX == bX) = true := by simp [e1]
          have i2 : (aY == bY) = false := by simp [e2]
          clear e1 e2
          go_enter Try.func14, Try.ntmps14
          go_wp2_with fail
          refine (impl_allValid2 _ _ aX aY bX bY _ (by simp) ⟨by simp [go_sem], by simp [go_sem], by simp [go_sem], by simp [go_sem]⟩).mono ?_
          rintro e w1 ⟨rfl, b1⟩
          have s1 := b1.size
          try simp at s1
          have z1_0 : w.heap.size < w1.heap.size := by omega
          have k1_0_0 : w1.cell? ⟨w.heap.size, 0, none⟩ = some (.int .i64 (aX)) := (b1.cell (p := ⟨w.heap.size, 0, none⟩) (by first | (simp; done) | (simp; omega) | omega)).trans (by first | with_reducible assumption | (simp [go_sem]; done) | (simp [go_sem, *]; done))
          have g1_0_0 : w1.frozen? ⟨w.heap.size, 0, none⟩ = false := (b1.frozen (p := ⟨w.heap.size, 0, none⟩) (by first | (simp; done) | (simp; omega) | omega)).trans (by first | with_reducible assumption | (simp [go_sem]; done) | (simp [go_sem, *]; done))
          have k1_0_1 : w1.cell? ⟨w.heap.size, 1, none⟩ = some (.int .i64 (aY)) := (b1.cell (p := ⟨w.heap.size, 1, none⟩) (by first | (simp; done) | (simp; omega) | omega)).trans (by first | with_reducible assumption | (simp [go_sem]; done) | (simp [go_sem, *]; done))
          have g1_0_1 : w1.frozen? ⟨w.heap.size, 1, none⟩ = false := (b1.frozen (p := ⟨w.heap.size, 1, none⟩) (by first | (simp; done) | (simp; omega) | omega)).trans (by first | with_reducible assumption | (simp [go_sem]; done) | (simp [go_sem, *]; done))
          have z1_1 : w.heap.size + 1 < w1.heap.size := by omega
          have k1_1_0 : w1.cell? ⟨w.heap.size + 1, 0, none⟩ = some (.int .i64 (bX)) := (b1.cell (p := ⟨w.heap.size + 1, 0, none⟩) (by first | (simp; done) | (simp; omega) | omega)).trans (by first | with_reducible assumption | (simp [go_sem]; done) | (simp [go_sem, *]; done))
          have g1_1_0 : w1.frozen? ⟨w.heap.size + 1, 0, none⟩ = false := (b1.frozen (p := ⟨w.heap.size + 1, 0, none⟩) (by first | (simp; done) | (simp; omega) | omega)).trans (by first | with_reducible assumption | (simp [go_sem]; done) | (simp [go_sem, *]; done))
          have k1_1_1 : w1.cell? ⟨w.heap.size + 1, 1, none⟩ = some (.int .i64 (bY)) := (b1.cell (p := ⟨w.heap.size + 1, 1, none⟩) (by first | (simp; done) | (simp; omega) | omega)).trans (by first | with_reducible assumption | (simp [go_sem]; done) | (simp [go_sem, *]; done))
          have g1_1_1 : w1.frozen? ⟨w.heap.size + 1, 1, none⟩ = false := (b1.frozen (p := ⟨w.heap.size + 1, 1, none⟩) (by first | (simp; done) | (simp; omega) | omega)).trans (by first | with_reducible assumption | (simp [go_sem]; done) | (simp [go_sem, *]; done))
          have z1_2 : w.heap.size + 1 + 1 < w1.heap.size := by omega
          have k1_2_0 : w1.cell? ⟨w.heap.size + 1 + 1, 0, none⟩ = some (.int .i64 (0)) := (b1.cell (p := ⟨w.heap.size + 1 + 1, 0, none⟩) (by first | (simp; done) | (simp; omega) | omega)).trans (by first | with_reducible assumption | (simp [go_sem]; done) | (simp [go_sem, *]; done))
          have g1_2_0 : w1.frozen? ⟨w.heap.size + 1 + 1, 0, none⟩ = false := (b1.frozen (p := ⟨w.heap.size + 1 + 1, 0, none⟩) (by first | (simp; done) | (simp; omega) | omega)).trans (by first | with_reducible assumption | (simp [go_sem]; done) | (simp [go_sem, *]; done))
          have k1_2_1 : w1.cell? ⟨w.heap.size + 1 + 1, 1, none⟩ = some (.int .i64 (0)) := (b1.cell (p := ⟨w.heap.size + 1 + 1, 1, none⟩) (by first | (simp; done) | (simp; omega) | omega)).trans (by first | with_reducible assumption | (simp [go_sem]; done) | (simp [go_sem, *]; done))
          have g1_2_1 : w1.frozen? ⟨w.heap.size + 1 + 1, 1, none⟩ = false := (b1.frozen (p := ⟨w.heap.size + 1 + 1, 1, none⟩) (by first | (simp; done) | (simp; omega) | omega)).trans (by first | with_reducible assumption | (simp [go_sem]; done) | (simp [go_sem, *]; done))
          have k1_2_2 : w1.cell? ⟨w.heap.size + 1 + 1, 2, none⟩ = some (.int .i64 (0)) := (b1.cell (p := ⟨w.heap.size + 1 + 1, 2, none⟩) (by first | (simp; done) | (simp; omega) | omega)).trans (by first | with_reducible assumption | (simp [go_sem]; done) | (simp [go_sem, *]; done))
          have g1_2_2 : w1.frozen? ⟨w.heap.size + 1 + 1, 2, none⟩ = false := (b1.frozen (p := ⟨w.heap.size + 1 + 1, 2, none⟩) (by first | (simp; done) | (simp; omega) | omega)).trans (by first | with_reducible assumption | (simp [go_sem]; done) | (simp [go_sem, *]; done))
          go_wp2_with fail
          refine (K1.out _).mono ?_
          rintro e w2 ⟨rfl, b2⟩
          have s2 := b2.size
          try simp at s2
          have z2_0 : w.heap.size < w2.heap.size := by omega
          have k2_0_0 : w2.cell? ⟨w.heap.size, 0, none⟩ = some (.int .i64 (aX)) := (b2.cell (p := ⟨w.heap.size, 0, none⟩) (by first | (simp; done) | (simp; omega) | omega)).trans (by first | with_reducible assumption | (simp [go_sem]; done) | (simp [go_sem, *]; done))
          have g2_0_0 : w2.frozen? ⟨w.heap.size, 0, none⟩ = false := (b2.frozen (p := ⟨w.heap.size, 0, none⟩) (by first | (simp; done) | (simp; omega) | omega)).trans (by first | with_reducible assumption | (simp [go_sem]; done) | (simp [go_sem, *]; done))
          have k2_0_1 : w2.cell? ⟨w.heap.size, 1, none⟩ = some (.int .i64 (aY)) := (b2.cell (p := ⟨w.heap.size, 1, none⟩) (by first | (simp; done) | (simp; omega) | omega)).trans (by first | with_reducible assumption | (simp [go_sem]; done) | (simp [go_sem, *]; done))
          have g2_0_1 : w2.frozen? ⟨w.heap.size, 1, none⟩ = false := (b2.frozen (p := ⟨w.heap.size, 1, none⟩) (by first | (simp; done) | (simp; omega) | omega)).trans (by first | with_reducible assumption | (simp [go_sem]; done) | (simp [go_sem, *]; done))
          have z2_1 : w.heap.size + 1 < w2.heap.size := by omega
          have k2_1_0 : w2.cell? ⟨w.heap.size + 1, 0, none⟩ = some (.int .i64 (bX)) := (b2.cell (p := ⟨w.heap.size + 1, 0, none⟩) (by first | (simp; done) | (simp; omega) | omega)).trans (by first | with_reducible assumption | (simp [go_sem]; done) | (simp [go_sem, *]; done))
          have g2_1_0 : w2.frozen? ⟨w.heap.size + 1, 0, none⟩ = false := (b2.frozen (p := ⟨w.heap.size + 1, 0, none⟩) (by first | (simp; done) | (simp; omega) | omega)).trans (by first | with_reducible assumption | (simp [go_sem]; done) | (simp [go_sem, *]; done))
          have k2_1_1 : w2.cell? ⟨w.heap.size + 1, 1, none⟩ = some (.int .i64 (bY)) := (b2.cell (p := ⟨w.heap.size + 1, 1, none⟩) (by first | (simp; done) | (simp; omega) | omega)).trans (by first | with_reducible assumption | (simp [go_sem]; done) | (simp [go_sem, *]; done))
          have g2_1_1 : w2.frozen? ⟨w.heap.size + 1, 1, none⟩ = false := (b2.frozen (p := ⟨w.heap.size + 1, 1, none⟩) (by first | (simp; done) | (simp; omega) | omega)).trans (by first | with_reducible assumption | (simp [go_sem]; done) | (simp [go_sem, *]; done))
          have z2_2 : w.heap.size + 1 + 1 < w2.heap.size := by omega
          have k2_2_0 : w2.cell? ⟨w.heap.size + 1 + 1, 0, none⟩ = some (.int .i64 (0)) := (b2.cell (p := ⟨w.heap.size + 1 + 1, 0, none⟩) (by first | (simp; done) | (simp; omega) | omega)).trans (by first | with_reducible assumption | (simp [go_sem]; done) | (simp [go_sem, *]; done))
          have g2_2_0 : w2.frozen? ⟨w.heap.size + 1 + 1, 0, none⟩ = false := (b2.frozen (p := ⟨w.heap.size + 1 + 1, 0, none⟩) (by first | (simp; done) | (simp; omega) | omega)).trans (by first | with_reducible assumption | (simp [go_sem]; done) | (simp [go_sem, *]; done))
          have k2_2_1 : w2.cell? ⟨w.heap.size + 1 + 1, 1, none⟩ = some (.int .i64 (0)) := (b2.cell (p := ⟨w.heap.size + 1 + 1, 1, none⟩) (by first | (simp; done) | (simp; omega) | omega)).trans (by first | with_reducible assumption | (simp [go_sem]; done) | (simp [go_sem, *]; done))
          have g2_2_1 : w2.frozen? ⟨w.heap.size + 1 + 1, 1, none⟩ = false := (b2.frozen (p := ⟨w.heap.size + 1 + 1, 1, none⟩) (by first | (simp; done) | (simp; omega) | omega)).trans (by first | with_reducible assumption | (simp [go_sem]; done) | (simp [go_sem, *]; done))
          have k2_2_2 : w2.cell? ⟨w.heap.size + 1 + 1, 2, none⟩ = some (.int .i64 (0)) := (b2.cell (p := ⟨w.heap.size + 1 + 1, 2, none⟩) (by first | (simp; done) | (simp; omega) | omega)).trans (by first | with_reducible assumption | (simp [go_sem]; done) | (simp [go_sem, *]; done))
          have g2_2_2 : w2.frozen? ⟨w.heap.size + 1 + 1, 2, none⟩ = false := (b2.frozen (p := ⟨w.heap.size + 1 + 1, 2, none⟩) (by first | (simp; done) | (simp; omega) | omega)).trans (by first | with_reducible assumption | (simp [go_sem]; done) | (simp [go_sem, *]; done))
          clear k1_0_0 g1_0_0 k1_0_1 g1_0_1 k1_1_0 g1_1_0 k1_1_1 g1_1_1 k1_2_0 g1_2_0 k1_2_1 g1_2_1 k1_2_2 g1_2_2
          go_wp2_with fail
          refine (K2.out _).mono ?_
          rintro e w3 ⟨rfl, b3⟩
          have s3 := b3.size
          try simp at s3
          have z3_0 : w.heap.size < w3.heap.size := by omega
          have k3_0_0 : w3.cell? ⟨w.heap.size, 0, none⟩ = some (.int .i64 (aX)) := (b3.cell (p := ⟨w.heap.size, 0, none⟩) (by first | (simp; done) | (simp; omega) | omega)).trans (by first | with_reducible assumption | (simp [go_sem]; done) | (simp [go_sem, *]; done))
          have g3_0_0 : w3.frozen? ⟨w.heap.size, 0, none⟩ = false := (b3.frozen (p := ⟨w.heap.size, 0, none⟩) (by first | (simp; done) | (simp; omega) | omega)).trans (by first | with_reducible assumption | (simp [go_sem]; done) | (simp [go_sem, *]; done))
          have k3_0_1 : w3.cell? ⟨w.heap.size, 1, none⟩ = some (.int .i64 (aY)) := (b3.cell (p := ⟨w.heap.size, 1, none⟩) (by first | (simp; done) | (simp; omega) | omega)).trans (by first | with_reducible assumption | (simp [go_sem]; done) | (simp [go_sem, *]; done))
          have g3_0_1 : w3.frozen? ⟨w.heap.size, 1, none⟩ = false := (b3.frozen (p := ⟨w.heap.size, 1, none⟩) (by first | (simp; done) | (simp; omega) | omega)).trans (by first | with_reducible assumption | (simp [go_sem]; done) | (simp [go_sem, *]; done))
          have z3_1 : w.heap.size + 1 < w3.heap.size := by omega
          have k3_1_0 : w3.cell? ⟨w.heap.size + 1, 0, none⟩ = some (.int .i64 (bX)) := (b3.cell (p := ⟨w.heap.size + 1, 0, none⟩) (by first | (simp; done) | (simp; omega) | omega)).trans (by first | with_reducible assumption | (simp [go_sem]; done) | (simp [go_sem, *]; done))
          have g3_1_0 : w3.frozen? ⟨w.heap.size + 1, 0, none⟩ = false := (b3.frozen (p := ⟨w.heap.size + 1, 0, none⟩) (by first | (simp; done) | (simp; omega) | omega)).trans (by first | with_reducible assumption | (simp [go_sem]; done) | (simp [go_sem, *]; done))
          have k3_1_1 : w3.cell? ⟨w.heap.size + 1, 1, none⟩ = some (.int .i64 (bY)) := (b3.cell (p := ⟨w.heap.size + 1, 1, none⟩) (by first | (simp; done) | (simp; omega) | omega)).trans (by first | with_reducible assumption | (simp [go_sem]; done) | (simp [go_sem, *]; done))
          have g3_1_1 : w3.frozen? ⟨w.heap.size + 1, 1, none⟩ = false := (b3.frozen (p := ⟨w.heap.size + 1, 1, none⟩) (by first | (simp; done) | (simp; omega) | omega)).trans (by first | with_reducible assumption | (simp [go_sem]; done) | (simp [go_sem, *]; done))
          have z3_2 : w.heap.size + 1 + 1 < w3.heap.size := by omega
          have k3_2_0 : w3.cell? ⟨w.heap.size + 1 + 1, 0, none⟩ = some (.int .i64 (0)) := (b3.cell (p := ⟨w.heap.size + 1 + 1, 0, none⟩) (by first | (simp; done) | (simp; omega) | omega)).trans (by first | with_reducible assumption | (simp [go_sem]; done) | (simp [go_sem, *]; done))
          have g3_2_0 : w3.frozen? ⟨w.heap.size + 1 + 1, 0, none⟩ = false := (b3.frozen (p := ⟨w.heap.size + 1 + 1, 0, none⟩) (by first | (simp; done) | (simp; omega) | omega)).trans (by first | with_reducible assumption | (simp [go_sem]; done) | (simp [go_sem, *]; done))
          have k3_2_1 : w3.cell? ⟨w.heap.size + 1 + 1, 1, none⟩ = some (.int .i64 (0)) := (b3.cell (p := ⟨w.heap.size + 1 + 1, 1, none⟩) (by first | (simp; done) | (simp; omega) | omega)).trans (by first | with_reducible assumption | (simp [go_sem]; done) | (simp [go_sem, *]; done))
          have g3_2_1 : w3.frozen? ⟨w.heap.size + 1 + 1, 1, none⟩ = false := (b3.frozen (p := ⟨w.heap.size + 1 + 1, 1, none⟩) (by first | (simp; done) | (simp; omega) | omega)).trans (by first | with_reducible assumption | (simp [go_sem]; done) | (simp [go_sem, *]; done))
          have k3_2_2 : w3.cell? ⟨w.heap.size + 1 + 1, 2, none⟩ = some (.int .i64 (0)) := (b3.cell (p := ⟨w.heap.size + 1 + 1, 2, none⟩) (by first | (simp; done) | (simp; omega) | omega)).trans (by first | with_reducible assumption | (simp [go_sem]; done) | (simp [go_sem, *]; done))
          have g3_2_2 : w3.frozen? ⟨w.heap.size + 1 + 1, 2, none⟩ = false := (b3.frozen (p := ⟨w.heap.size + 1 + 1, 2, none⟩) (by first | (simp; done) | (simp; omega) | omega)).trans (by first | with_reducible assumption | (simp [go_sem]; done) | (simp [go_sem, *]; done))
          have z3_3 : w2.heap.size < w3.heap.size := by omega
          have k3_3_0 : w3.cell? ⟨w2.heap.size, 0, none⟩ = some (.int .i64 (DX)) := (b3.cell (p := ⟨w2.heap.size, 0, none⟩) (by first | (simp; done) | (simp; omega) | omega)).trans (by first | with_reducible assumption | (simp [go_sem]; done) | (simp [go_sem, *]; done))
          have g3_3_0 : w3.frozen? ⟨w2.heap.size, 0, none⟩ = false := (b3.frozen (p := ⟨w2.heap.size, 0, none⟩) (by first | (simp; done) | (simp; omega) | omega)).trans (by first | with_reducible assumption | (simp [go_sem]; done) | (simp [go_sem, *]; done))
          have k3_3_1 : w3.cell? ⟨w2.heap.size, 1, none⟩ = some (.int .i64 (DY)) := (b3.cell (p := ⟨w2.heap.size, 1, none⟩) (by first | (simp; done) | (simp; omega) | omega)).trans (by first | with_reducible assumption | (simp [go_sem]; done) | (simp [go_sem, *]; done))
          have g3_3_1 : w3.frozen? ⟨w2.heap.size, 1, none⟩ = false := (b3.frozen (p := ⟨w2.heap.size, 1, none⟩) (by first | (simp; done) | (simp; omega) | omega)).trans (by first | with_reducible assumption | (simp [go_sem]; done) | (simp [go_sem, *]; done))
          clear k2_0_0 g2_0_0 k2_0_1 g2_0_1 k2_1_0 g2_1_0 k2_1_1 g2_1_1 k2_2_0 g2_2_0 k2_2_1 g2_2_1 k2_2_2 g2_2_2
          go_wp2
          all_goals (try (exfalso; omega))
          have H1 := Lib.hid (IntWalk.i64_in (-DX) (by omega))
          have H2 : Hid (IntKind.i64.wrap (-DY.tdiv G) = LA) := Lib.hid (by rw [← Int.tdiv_neg, E3.out]; exact IntWalk.i64_in _ (by omega))
          have H3 : Hid (IntKind.i64.wrap (-(-DX).tdiv G) = LB) := Lib.hid (by rw [← Int.tdiv_neg, E4.out]; exact IntWalk.i64_in _ (by omega))
          go_wp2
          have A3_0 : ∀ w', HldHi (w2.heap.size) w3 w' → w'.cell? ⟨w2.heap.size, 0, none⟩ = some (.int .i64 (DX)) := fun w' h => h.cell (by omega) (by first | omega | (simp; done) | (simp; omega)) (by first | with_reducible assumption | (simp [go_sem]; done) | (simp [go_sem, *]; done))
          have A3_1 : ∀ w', HldHi (w2.heap.size) w3 w' → w'.cell? ⟨w2.heap.size, 1, none⟩ = some (.int .i64 (DY)) := fun w' h => h.cell (by omega) (by first | omega | (simp; done) | (simp; omega)) (by first | with_reducible assumption | (simp [go_sem]; done) | (simp [go_sem, *]; done))
          go_region_held3 (fun w' => HldHi (w2.heap.size) w3 w') ((repeat (first | with_reducible assumption | with_reducible exact HldHi.start _ _ | with_reducible exact HldHi.refl _ _ | with_reducible refine HldHi.drew ?_ | with_reducible refine HldHi.alloc ?_ _ | with_reducible refine HldHi.set ?_ (by dsimp only; omega) _ | with_reducible refine HldHi.setN ?_ (by first | (simp; done) | (simp; omega)) _))) (fail)
          all_goals simp only [H1.out, H2.out, H3.out]
          all_goals go_wp2
          all_goals (refine bodyPost_ret (v := .tuple #[.agg #[.int .i64 LA, .int .i64 LB, .int .i64 (ltC aX aY bX bY)], .bool true]) (by simp [results, Try.results14, go_sem, EC.out, *]) rfl ⟨rfl, ?_⟩)
          all_goals (repeat (first | with_reducible exact Below.refl _ _ | with_reducible refine bl_alloc ?_ _ | with_reducible refine bl_drew ?_ | with_reducible refine bl_set ?_ (by first | (simp; done) | (simp; omega)) _ | with_reducible refine bl_call (by assumption) ?_))
        · by_cases c2 : bY - aY = 0
          · by_cases c3 : aX - bX < 0
            · have hne : ¬ (aX = bX ∧ aY = bY) := by omega
              have hk : ltOk aX aY bX bY = true := by simp [ltOk, hv, hne]
              have rA : LtA aX aY bX bY = ltA aX aY bX bY := by simp [LtA, hk]
              have rB : LtB aX aY bX bY = ltB aX aY bX bY := by simp [LtB, hk]
              have rC : LtC aX aY bX bY = ltC aX aY bX bY := by simp [LtC, hk]
              rw [rA, rB, rC, hk]
              clear rA rB rC hk
              obtain ⟨hpa, hpb⟩ : ptB aX aY = true ∧ ptB bX bY = true := by simpa [v2B] using hv
              obtain ⟨⟨_, _⟩, ⟨_, _⟩⟩ := ptB_true hpa
              obtain ⟨⟨_, _⟩, ⟨_, _⟩⟩ := ptB_true hpb
              obtain ⟨⟨q1a, q1b⟩, ⟨q2a, q2b⟩⟩ := lt_bd aX aY bX bY hv
              clear hpa hpb
              have hG : gcdI (bX - aX) (bY - aY) = gcdI (bY - aY) (aX - bX) := by
                have e : aX - bX = -(bX - aX) := by omega
                rw [e, gcdI_neg2]; unfold gcdI; rw [Int.gcd_comm]
              have gp := gcd_pos2 (bY - aY) (aX - bX) (by omega)
              have gu := gcdI_le (bY - aY) (aX - bX) 2000 (by omega) (by omega)
              have hn : bY - aY < 0 ∨ (bY - aY = 0 ∧ aX - bX < 0) := by omega
              obtain ⟨-, -, -, e3, e4⟩ := lt_neg aX aY bX bY hne hn
              have K1 : Hid (∀ W : World, Calls Try.prog 43 #[.agg #[.int .i64 bX, .int .i64 bY], .agg #[.int .i64 aX, .int .i64 aY]] W fun e w' => e = .returned (.agg #[.int .i64 (bX - aX), .int .i64 (bY - aY)]) ∧ Below W.heap.size W w') := Lib.hid fun W => by
                have h := impl_Point_minus (bX) (bY) (aX) (aY) W (by omega) (by omega) (by omega) (by omega)
                exact h
              have K2 : Hid (∀ W : World, Calls Try.prog 44 #[.int .i64 (bX - aX), .int .i64 (bY - aY)] W fun e w' => e = .returned (.int .i64 (gcdI (bY - aY) (aX - bX))) ∧ Below W.heap.size W w') := Lib.hid fun W => by
                have h := impl_divisor (bX - aX) (bY - aY) W (by omega) (by omega) (by omega) (by omega)
                rw [hG] at h
                exact h
              obtain ⟨m1l, m1u⟩ := mul_bd (ltA aX aY bX bY) aX 2000 1000 (by omega) (by omega) (by omega) (by omega)
              obtain ⟨m2l, m2u⟩ := mul_bd (ltB aX aY bX bY) aY 2000 1000 (by omega) (by omega) (by omega) (by omega)
              have hB : aX - bX = -(bX - aX) := by omega
              have eC : ltA aX aY bX bY * aX + ltB aX aY bX bY * aY = ltC aX aY bX bY := rfl
              generalize gcdI (bY - aY) (aX - bX) = G at *
              generalize ltA aX aY bX bY = LA at *
              generalize ltB aX aY bX bY = LB at *
              rw [hB] at e4
              have n1 : ¬ bY - aY < 0 := by omega
              have n2 : (bY - aY == 0) = true := by simp; omega
              have n3 : 0 < bX - aX := by omega
              have dxl : -2000 ≤ bX - aX := by omega
              have dxu : bX - aX ≤ 2000 := by omega
              have dyl : -2000 ≤ bY - aY := by omega
              have dyu : bY - aY ≤ 2000 := by omega
              clear c1 c2 c3
              clear hne hn hB hG
              generalize bX - aX = DX at *
              generalize bY - aY = DY at *
              have E3 := Lib.hid e3
              have E4 := Lib.hid e4
              have EC := Lib.hid eC
              clear e3 e4 eC
              have gnz : ¬ G = 0 := by omega
              have gnz2 : ¬ -G = 0 := by omega
              obtain ⟨t1l, t1u⟩ := tdiv_bd DY G 2000 (by omega)
              obtain ⟨t2l, t2u⟩ := tdiv_bd (-DX) G 2000 (by omega)
              obtain ⟨t3l, t3u⟩ := tdiv_bd DY (-G) 2000 (by omega)
              obtain ⟨t4l, t4u⟩ := tdiv_bd (-DX) (-G) 2000 (by omega)
              have i1 : (aX == bX) = true := by simp [e1]
              have i2 : (aY == bY) = false := by simp [e2]
              clear e1 e2
              go_enter Try.func14, Try.ntmps14
              go_wp2_with fail
              refine (impl_allValid2 _ _ aX aY bX bY _ (by simp) ⟨by simp [go_sem], by simp [go_sem], by simp [go_sem], by simp [go_sem]⟩).mono ?_
              rintro e w1 ⟨rfl, b1⟩
              have s1 := b1.size
              try simp at s1
              have z1_0 : w.heap.size < w1.heap.size := by omega
              have k1_0_0 : w1.cell? ⟨w.heap.size, 0, none⟩ = some (.int .i64 (aX)) := (b1.cell (p := ⟨w.heap.size, 0, none⟩) (by first | (simp; done) | (simp; omega) | omega)).trans (by first | with_reducible assumption | (simp [go_sem]; done) | (simp [go_sem, *]; done))
              have g1_0_0 : w1.frozen? ⟨w.heap.size, 0, none⟩ = false := (b1.frozen (p := ⟨w.heap.size, 0, none⟩) (by first | (simp; done) | (simp; omega) | omega)).trans (by first | with_reducible assumption | (simp [go_sem]; done) | (simp [go_sem, *]; done))
              have k1_0_1 : w1.cell? ⟨w.heap.size, 1, none⟩ = some (.int .i64 (aY)) := (b1.cell (p := ⟨w.heap.size, 1, none⟩) (by first | (simp; done) | (simp; omega) | omega)).trans (by first | with_reducible assumption | (simp [go_sem]; done) | (simp [go_sem, *]; done))
              have g1_0_1 : w1.frozen? ⟨w.heap.size, 1, none⟩ = false := (b1.frozen (p := ⟨w.heap.size, 1, none⟩) (by first | (simp; done) | (simp; omega) | omega)).trans (by first | with_reducible assumption | (simp [go_sem]; done) | (simp [go_sem, *]; done))
              have z1_1 : w.heap.size + 1 < w1.heap.size := by omega
              have k1_1_0 : w1.cell? ⟨w.heap.size + 1, 0, none⟩ = some (.int .i64 (bX)) := (b1.cell (p := ⟨w.heap.size + 1, 0, none⟩) (by first | (simp; done) | (simp; omega) | omega)).trans (by first | with_reducible assumption | (simp [go_sem]; done) | (simp [go_sem, *]; done))
              have g1_1_0 : w1.frozen? ⟨w.heap.size + 1, 0, none⟩ = false := (b1.frozen (p := ⟨w.heap.size + 1, 0, none⟩) (by first | (simp; done) | (simp; omega) | omega)).trans (by first | with_reducible assumption | (simp [go_sem]; done) | (simp [go_sem, *]; done))
              have k1_1_1 : w1.cell? ⟨w.heap.size + 1, 1, none⟩ = some (.int .i64 (bY)) := (b1.cell (p := ⟨w.heap.size + 1, 1, none⟩) (by first | (simp; done) | (simp; omega) | omega)).trans (by first | with_reducible assumption | (simp [go_sem]; done) | (simp [go_sem, *]; done))
              have g1_1_1 : w1.frozen? ⟨w.heap.size + 1, 1, none⟩ = false := (b1.frozen (p := ⟨w.heap.size + 1, 1, none⟩) (by first | (simp; done) | (simp; omega) | omega)).trans (by first | with_reducible assumption | (simp [go_sem]; done) | (simp [go_sem, *]; done))
              have z1_2 : w.heap.size + 1 + 1 < w1.heap.size := by omega
              have k1_2_0 : w1.cell? ⟨w.heap.size + 1 + 1, 0, none⟩ = some (.int .i64 (0)) := (b1.cell (p := ⟨w.heap.size + 1 + 1, 0, none⟩) (by first | (simp; done) | (simp; omega) | omega)).trans (by first | with_reducible assumption | (simp [go_sem]; done) | (simp [go_sem, *]; done))
              have g1_2_0 : w1.frozen? ⟨w.heap.size + 1 + 1, 0, none⟩ = false := (b1.frozen (p := ⟨w.heap.size + 1 + 1, 0, none⟩) (by first | (simp; done) | (simp; omega) | omega)).trans (by first | with_reducible assumption | (simp [go_sem]; done) | (simp [go_sem, *]; done))
              have k1_2_1 : w1.cell? ⟨w.heap.size + 1 + 1, 1, none⟩ = some (.int .i64 (0)) := (b1.cell (p := ⟨w.heap.size + 1 + 1, 1, none⟩) (by first | (simp; done) | (simp; omega) | omega)).trans (by first | with_reducible assumption | (simp [go_sem]; done) | (simp [go_sem, *]; done))
              have g1_2_1 : w1.frozen? ⟨w.heap.size + 1 + 1, 1, none⟩ = false := (b1.frozen (p := ⟨w.heap.size + 1 + 1, 1, none⟩) (by first | (simp; done) | (simp; omega) | omega)).trans (by first | with_reducible assumption | (simp [go_sem]; done) | (simp [go_sem, *]; done))
              have k1_2_2 : w1.cell? ⟨w.heap.size + 1 + 1, 2, none⟩ = some (.int .i64 (0)) := (b1.cell (p := ⟨w.heap.size + 1 + 1, 2, none⟩) (by first | (simp; done) | (simp; omega) | omega)).trans (by first | with_reducible assumption | (simp [go_sem]; done) | (simp [go_sem, *]; done))
              have g1_2_2 : w1.frozen? ⟨w.heap.size + 1 + 1, 2, none⟩ = false := (b1.frozen (p := ⟨w.heap.size + 1 + 1, 2, none⟩) (by first | (simp; done) | (simp; omega) | omega)).trans (by first | with_reducible assumption | (simp [go_sem]; done) | (simp [go_sem, *]; done))
              go_wp2_with fail
              refine (K1.out _).mono ?_
              rintro e w2 ⟨rfl, b2⟩
              have s2 := b2.size
              try simp at s2
              have z2_0 : w.heap.size < w2.heap.size := by omega
              have k2_0_0 : w2.cell? ⟨w.heap.size, 0, none⟩ = some (.int .i64 (aX)) := (b2.cell (p := ⟨w.heap.size, 0, none⟩) (by first | (simp; done) | (simp; omega) | omega)).trans (by first | with_reducible assumption | (simp [go_sem]; done) | (simp [go_sem, *]; done))
              have g2_0_0 : w2.frozen? ⟨w.heap.size, 0, none⟩ = false := (b2.frozen (p := ⟨w.heap.size, 0, none⟩) (by first | (simp; done) | (simp; omega) | omega)).trans (by first | with_reducible assumption | (simp [go_sem]; done) | (simp [go_sem, *]; done))
              have k2_0_1 : w2.cell? ⟨w.heap.size, 1, none⟩ = some (.int .i64 (aY)) := (b2.cell (p := ⟨w.heap.size, 1, none⟩) (by first | (simp; done) | (simp; omega) | omega)).trans (by first | with_reducible assumption | (simp [go_sem]; done) | (simp [go_sem, *]; done))
              have g2_0_1 : w2.frozen? ⟨w.heap.size, 1, none⟩ = false := (b2.frozen (p := ⟨w.heap.size, 1, none⟩) (by first | (simp; done) | (simp; omega) | omega)).trans (by first | with_reducible assumption | (simp [go_sem]; done) | (simp [go_sem, *]; done))
              have z2_1 : w.heap.size + 1 < w2.heap.size := by omega
              have k2_1_0 : w2.cell? ⟨w.heap.size + 1, 0, none⟩ = some (.int .i64 (bX)) := (b2.cell (p := ⟨w.heap.size + 1, 0, none⟩) (by first | (simp; done) | (simp; omega) | omega)).trans (by first | with_reducible assumption | (simp [go_sem]; done) | (simp [go_sem, *]; done))
              have g2_1_0 : w2.frozen? ⟨w.heap.size + 1, 0, none⟩ = false := (b2.frozen (p := ⟨w.heap.size + 1, 0, none⟩) (by first | (simp; done) | (simp; omega) | omega)).trans (by first | with_reducible assumption | (simp [go_sem]; done) | (simp [go_sem, *]; done))
              have k2_1_1 : w2.cell? ⟨w.heap.size + 1, 1, none⟩ = some (.int .i64 (bY)) := (b2.cell (p := ⟨w.heap.size + 1, 1, none⟩) (by first | (simp; done) | (simp; omega) | omega)).trans (by first | with_reducible assumption | (simp [go_sem]; done) | (simp [go_sem, *]; done))
              have g2_1_1 : w2.frozen? ⟨w.heap.size + 1, 1, none⟩ = false := (b2.frozen (p := ⟨w.heap.size + 1, 1, none⟩) (by first | (simp; done) | (simp; omega) | omega)).trans (by first | with_reducible assumption | (simp [go_sem]; done) | (simp [go_sem, *]; done))
              have z2_2 : w.heap.size + 1 + 1 < w2.heap.size := by omega
              have k2_2_0 : w2.cell? ⟨w.heap.size + 1 + 1, 0, none⟩ = some (.int .i64 (0)) := (b2.cell (p := ⟨w.heap.size + 1 + 1, 0, none⟩) (by first | (simp; done) | (simp; omega) | omega)).trans (by first | with_reducible assumption | (simp [go_sem]; done) | (simp [go_sem, *]; done))
              have g2_2_0 : w2.frozen? ⟨w.heap.size + 1 + 1, 0, none⟩ = false := (b2.frozen (p := ⟨w.heap.size + 1 + 1, 0, none⟩) (by first | (simp; done) | (simp; omega) | omega)).trans (by first | with_reducible assumption | (simp [go_sem]; done) | (simp [go_sem, *]; done))
              have k2_2_1 : w2.cell? ⟨w.heap.size + 1 + 1, 1, none⟩ = some (.int .i64 (0)) := (b2.cell (p := ⟨w.heap.size + 1 + 1, 1, none⟩) (by first | (simp; done) | (simp; omega) | omega)).trans (by first | with_reducible assumption | (simp [go_sem]; done) | (simp [go_sem, *]; done))
              have g2_2_1 : w2.frozen? ⟨w.heap.size + 1 + 1, 1, none⟩ = false := (b2.frozen (p := ⟨w.heap.size + 1 + 1, 1, none⟩) (by first | (simp; done) | (simp; omega) | omega)).trans (by first | with_reducible assumption | (simp [go_sem]; done) | (simp [go_sem, *]; done))
              have k2_2_2 : w2.cell? ⟨w.heap.size + 1 + 1, 2, none⟩ = some (.int .i64 (0)) := (b2.cell (p := ⟨w.heap.size + 1 + 1, 2, none⟩) (by first | (simp; done) | (simp; omega) | omega)).trans (by first | with_reducible assumption | (simp [go_sem]; done) | (simp [go_sem, *]; done))
              have g2_2_2 : w2.frozen? ⟨w.heap.size + 1 + 1, 2, none⟩ = false := (b2.frozen (p := ⟨w.heap.size + 1 + 1, 2, none⟩) (by first | (simp; done) | (simp; omega) | omega)).trans (by first | with_reducible assumption | (simp [go_sem]; done) | (simp [go_sem, *]; done))
              clear k1_0_0 g1_0_0 k1_0_1 g1_0_1 k1_1_0 g1_1_0 k1_1_1 g1_1_1 k1_2_0 g1_2_0 k1_2_1 g1_2_1 k1_2_2 g1_2_2
              go_wp2_with fail
              refine (K2.out _).mono ?_
              rintro e w3 ⟨rfl, b3⟩
              have s3 := b3.size
              try simp at s3
              have z3_0 : w.heap.size < w3.heap.size := by omega
              have k3_0_0 : w3.cell? ⟨w.heap.size, 0, none⟩ = some (.int .i64 (aX)) := (b3.cell (p := ⟨w.heap.size, 0, none⟩) (by first | (simp; done) | (simp; omega) | omega)).trans (by first | with_reducible assumption | (simp [go_sem]; done) | (simp [go_sem, *]; done))
              have g3_0_0 : w3.frozen? ⟨w.heap.size, 0, none⟩ = false := (b3.frozen (p := ⟨w.heap.size, 0, none⟩) (by first | (simp; done) | (simp; omega) | omega)).trans (by first | with_reducible assumption | (simp [go_sem]; done) | (simp [go_sem, *]; done))
              have k3_0_1 : w3.cell? ⟨w.heap.size, 1, none⟩ = some (.int .i64 (aY)) := (b3.cell (p := ⟨w.heap.size, 1, none⟩) (by first | (simp; done) | (simp; omega) | omega)).trans (by first | with_reducible assumption | (simp [go_sem]; done) | (simp [go_sem, *]; done))
              have g3_0_1 : w3.frozen? ⟨w.heap.size, 1, none⟩ = false := (b3.frozen (p := ⟨w.heap.size, 1, none⟩) (by first | (simp; done) | (simp; omega) | omega)).trans (by first | with_reducible assumption | (simp [go_sem]; done) | (simp [go_sem, *]; done))
              have z3_1 : w.heap.size + 1 < w3.heap.size := by omega
              have k3_1_0 : w3.cell? ⟨w.heap.size + 1, 0, none⟩ = some (.int .i64 (bX)) := (b3.cell (p := ⟨w.heap.size + 1, 0, none⟩) (by first | (simp; done) | (simp; omega) | omega)).trans (by first | with_reducible assumption | (simp [go_sem]; done) | (simp [go_sem, *]; done))
              have g3_1_0 : w3.frozen? ⟨w.heap.size + 1, 0, none⟩ = false := (b3.frozen (p := ⟨w.heap.size + 1, 0, none⟩) (by first | (simp; done) | (simp; omega) | omega)).trans (by first | with_reducible assumption | (simp [go_sem]; done) | (simp [go_sem, *]; done))
              have k3_1_1 : w3.cell? ⟨w.heap.size + 1, 1, none⟩ = some (.int .i64 (bY)) := (b3.cell (p := ⟨w.heap.size + 1, 1, none⟩) (by first | (simp; done) | (simp; omega) | omega)).trans (by first | with_reducible assumption | (simp [go_sem]; done) | (simp [go_sem, *]; done))
              have g3_1_1 : w3.frozen? ⟨w.heap.size + 1, 1, none⟩ = false := (b3.frozen (p := ⟨w.heap.size + 1, 1, none⟩) (by first | (simp; done) | (simp; omega) | omega)).trans (by first | with_reducible assumption | (simp [go_sem]; done) | (simp [go_sem, *]; done))
              have z3_2 : w.heap.size + 1 + 1 < w3.heap.size := by omega
              have k3_2_0 : w3.cell? ⟨w.heap.size + 1 + 1, 0, none⟩ = some (.int .i64 (0)) := (b3.cell (p := ⟨w.heap.size + 1 + 1, 0, none⟩) (by first | (simp; done) | (simp; omega) | omega)).trans (by first | with_reducible assumption | (simp [go_sem]; done) | (simp [go_sem, *]; done))
              have g3_2_0 : w3.frozen? ⟨w.heap.size + 1 + 1, 0, none⟩ = false := (b3.frozen (p := ⟨w.heap.size + 1 + 1, 0, none⟩) (by first | (simp; done) | (simp; omega) | omega)).trans (by first | with_reducible assumption | (simp [go_sem]; done) | (simp [go_sem, *]; done))
              have k3_2_1 : w3.cell? ⟨w.heap.size + 1 + 1, 1, none⟩ = some (.int .i64 (0)) := (b3.cell (p := ⟨w.heap.size + 1 + 1, 1, none⟩) (by first | (simp; done) | (simp; omega) | omega)).trans (by first | with_reducible assumption | (simp [go_sem]; done) | (simp [go_sem, *]; done))
              have g3_2_1 : w3.frozen? ⟨w.heap.size + 1 + 1, 1, none⟩ = false := (b3.frozen (p := ⟨w.heap.size + 1 + 1, 1, none⟩) (by first | (simp; done) | (simp; omega) | omega)).trans (by first | with_reducible assumption | (simp [go_sem]; done) | (simp [go_sem, *]; done))
              have k3_2_2 : w3.cell? ⟨w.heap.size + 1 + 1, 2, none⟩ = some (.int .i64 (0)) := (b3.cell (p := ⟨w.heap.size + 1 + 1, 2, none⟩) (by first | (simp; done) | (simp; omega) | omega)).trans (by first | with_reducible assumption | (simp [go_sem]; done) | (simp [go_sem, *]; done))
              have g3_2_2 : w3.frozen? ⟨w.heap.size + 1 + 1, 2, none⟩ = false := (b3.frozen (p := ⟨w.heap.size + 1 + 1, 2, none⟩) (by first | (simp; done) | (simp; omega) | omega)).trans (by first | with_reducible assumption | (simp [go_sem]; done) | (simp [go_sem, *]; done))
              have z3_3 : w2.heap.size < w3.heap.size := by omega
              have k3_3_0 : w3.cell? ⟨w2.heap.size, 0, none⟩ = some (.int .i64 (DX)) := (b3.cell (p := ⟨w2.heap.size, 0, none⟩) (by first | (simp; done) | (simp; omega) | omega)).trans (by first | with_reducible assumption | (simp [go_sem]; done) | (simp [go_sem, *]; done))
              have g3_3_0 : w3.frozen? ⟨w2.heap.size, 0, none⟩ = false := (b3.frozen (p := ⟨w2.heap.size, 0, none⟩) (by first | (simp; done) | (simp; omega) | omega)).trans (by first | with_reducible assumption | (simp [go_sem]; done) | (simp [go_sem, *]; done))
              have k3_3_1 : w3.cell? ⟨w2.heap.size, 1, none⟩ = some (.int .i64 (DY)) := (b3.cell (p := ⟨w2.heap.size, 1, none⟩) (by first | (simp; done) | (simp; omega) | omega)).trans (by first | with_reducible assumption | (simp [go_sem]; done) | (simp [go_sem, *]; done))
              have g3_3_1 : w3.frozen? ⟨w2.heap.size, 1, none⟩ = false := (b3.frozen (p := ⟨w2.heap.size, 1, none⟩) (by first | (simp; done) | (simp; omega) | omega)).trans (by first | with_reducible assumption | (simp [go_sem]; done) | (simp [go_sem, *]; done))
              clear k2_0_0 g2_0_0 k2_0_1 g2_0_1 k2_1_0 g2_1_0 k2_1_1 g2_1_1 k2_2_0 g2_2_0 k2_2_1 g2_2_1 k2_2_2 g2_2_2
              go_wp2
              all_goals (try (exfalso; omega))
              have H1 := Lib.hid (IntWalk.i64_in (-DX) (by omega))
              have H2 : Hid (IntKind.i64.wrap (-DY.tdiv G) = LA) := Lib.hid (by rw [← Int.tdiv_neg, E3.out]; exact IntWalk.i64_in _ (by omega))
              have H3 : Hid (IntKind.i64.wrap (-(-DX).tdiv G) = LB) := Lib.hid (by rw [← Int.tdiv_neg, E4.out]; exact IntWalk.i64_in _ (by omega))
              go_wp2
              have A3_0 : ∀ w', HldHi (w2.heap.size) w3 w' → w'.cell? ⟨w2.heap.size, 0, none⟩ = some (.int .i64 (DX)) := fun w' h => h.cell (by omega) (by first | omega | (simp; done) | (simp; omega)) (by first | with_reducible assumption | (simp [go_sem]; done) | (simp [go_sem, *]; done))
              have A3_1 : ∀ w', HldHi (w2.heap.size) w3 w' → w'.cell? ⟨w2.heap.size, 1, none⟩ = some (.int .i64 (DY)) := fun w' h => h.cell (by omega) (by first | omega | (simp; done) | (simp; omega)) (by first | with_reducible assumption | (simp [go_sem]; done) | (simp [go_sem, *]; done))
              go_region_held3 (fun w' => HldHi (w2.heap.size) w3 w') ((repeat (first | with_reducible assumption | with_reducible exact HldHi.start _ _ | with_reducible exact HldHi.refl _ _ | with_reducible refine HldHi.drew ?_ | with_reducible refine HldHi.alloc ?_ _ | with_reducible refine HldHi.set ?_ (by dsimp only; omega) _ | with_reducible refine HldHi.setN ?_ (by first | (simp; done) | (simp; omega)) _))) (fail)
              all_goals simp only [H1.out, H2.out, H3.out]
              all_goals go_wp2
              all_goals (refine bodyPost_ret (v := .tuple #[.agg #[.int .i64 LA, .int .i64 LB, .int .i64 (ltC aX aY bX bY)], .bool true]) (by simp [results, Try.results14, go_sem, EC.out, *]) rfl ⟨rfl, ?_⟩)
              all_goals (repeat (first | with_reducible exact Below.refl _ _ | with_reducible refine bl_alloc ?_ _ | with_reducible refine bl_drew ?_ | with_reducible refine bl_set ?_ (by first | (simp; done) | (simp; omega)) _ | with_reducible refine bl_call (by assumption) ?_))
            · have hne : ¬ (aX = bX ∧ aY = bY) := by omega
              have hk : ltOk aX aY bX bY = true := by simp [ltOk, hv, hne]
              have rA : LtA aX aY bX bY = ltA aX aY bX bY := by simp [LtA, hk]
              have rB : LtB aX aY bX bY = ltB aX aY bX bY := by simp [LtB, hk]
              have rC : LtC aX aY bX bY = ltC aX aY bX bY := by simp [LtC, hk]
              rw [rA, rB, rC, hk]
              clear rA rB rC hk
              obtain ⟨hpa, hpb⟩ : ptB aX aY = true ∧ ptB bX bY = true := by simpa [v2B] using hv
              obtain ⟨⟨_, _⟩, ⟨_, _⟩⟩ := ptB_true hpa
              obtain ⟨⟨_, _⟩, ⟨_, _⟩⟩ := ptB_true hpb
              obtain ⟨⟨q1a, q1b⟩, ⟨q2a, q2b⟩⟩ := lt_bd aX aY bX bY hv
              clear hpa hpb
              have hG : gcdI (bX - aX) (bY - aY) = gcdI (bY - aY) (aX - bX) := by
                have e : aX - bX = -(bX - aX) := by omega
                rw [e, gcdI_neg2]; unfold gcdI; rw [Int.gcd_comm]
              have gp := gcd_pos2 (bY - aY) (aX - bX) (by omega)
              have gu := gcdI_le (bY - aY) (aX - bX) 2000 (by omega) (by omega)
              have hn : ¬ (bY - aY < 0 ∨ (bY - aY = 0 ∧ aX - bX < 0)) := by omega
              obtain ⟨e3, e4, -⟩ := lt_pos aX aY bX bY hne hn
              have K1 : Hid (∀ W : World, Calls Try.prog 43 #[.agg #[.int .i64 bX, .int .i64 bY], .agg #[.int .i64 aX, .int .i64 aY]] W fun e w' => e = .returned (.agg #[.int .i64 (bX - aX), .int .i64 (bY - aY)]) ∧ Below W.heap.size W w') := Lib.hid fun W => by
                have h := impl_Point_minus (bX) (bY) (aX) (aY) W (by omega) (by omega) (by omega) (by omega)
                exact h
              have K2 : Hid (∀ W : World, Calls Try.prog 44 #[.int .i64 (bX - aX), .int .i64 (bY - aY)] W fun e w' => e = .returned (.int .i64 (gcdI (bY - aY) (aX - bX))) ∧ Below W.heap.size W w') := Lib.hid fun W => by
                have h := impl_divisor (bX - aX) (bY - aY) W (by omega) (by omega) (by omega) (by omega)
                rw [hG] at h
                exact h
              obtain ⟨m1l, m1u⟩ := mul_bd (ltA aX aY bX bY) aX 2000 1000 (by omega) (by omega) (by omega) (by omega)
              obtain ⟨m2l, m2u⟩ := mul_bd (ltB aX aY bX bY) aY 2000 1000 (by omega) (by omega) (by omega) (by omega)
              have hB : aX - bX = -(bX - aX) := by omega
              have eC : ltA aX aY bX bY * aX + ltB aX aY bX bY * aY = ltC aX aY bX bY := rfl
              generalize gcdI (bY - aY) (aX - bX) = G at *
              generalize ltA aX aY bX bY = LA at *
              generalize ltB aX aY bX bY = LB at *
              rw [hB] at e4
              have n1 : ¬ bY - aY < 0 := by omega
              have n2 : (bY - aY == 0) = true := by simp; omega
              have n3 : ¬ 0 < bX - aX := by omega
              have dxl : -2000 ≤ bX - aX := by omega
              have dxu : bX - aX ≤ 2000 := by omega
              have dyl : -2000 ≤ bY - aY := by omega
              have dyu : bY - aY ≤ 2000 := by omega
              clear c1 c2 c3
              clear hne hn hB hG
              generalize bX - aX = DX at *
              generalize bY - aY = DY at *
              have E3 := Lib.hid e3
              have E4 := Lib.hid e4
              have EC := Lib.hid eC
              clear e3 e4 eC
              have gnz : ¬ G = 0 := by omega
              have gnz2 : ¬ -G = 0 := by omega
              obtain ⟨t1l, t1u⟩ := tdiv_bd DY G 2000 (by omega)
              obtain ⟨t2l, t2u⟩ := tdiv_bd (-DX) G 2000 (by omega)
              obtain ⟨t3l, t3u⟩ := tdiv_bd DY (-G) 2000 (by omega)
              obtain ⟨t4l, t4u⟩ := tdiv_bd (-DX) (-G) 2000 (by omega)
              have i1 : (aX == bX) = true := by simp [e1]
              have i2 : (aY == bY) = false := by simp [e2]
              clear e1 e2
              go_enter Try.func14, Try.ntmps14
              go_wp2_with fail
              refine (impl_allValid2 _ _ aX aY bX bY _ (by simp) ⟨by simp [go_sem], by simp [go_sem], by simp [go_sem], by simp [go_sem]⟩).mono ?_
              rintro e w1 ⟨rfl, b1⟩
              have s1 := b1.size
              try simp at s1
              have z1_0 : w.heap.size < w1.heap.size := by omega
              have k1_0_0 : w1.cell? ⟨w.heap.size, 0, none⟩ = some (.int .i64 (aX)) := (b1.cell (p := ⟨w.heap.size, 0, none⟩) (by first | (simp; done) | (simp; omega) | omega)).trans (by first | with_reducible assumption | (simp [go_sem]; done) | (simp [go_sem, *]; done))
              have g1_0_0 : w1.frozen? ⟨w.heap.size, 0, none⟩ = false := (b1.frozen (p := ⟨w.heap.size, 0, none⟩) (by first | (simp; done) | (simp; omega) | omega)).trans (by first | with_reducible assumption | (simp [go_sem]; done) | (simp [go_sem, *]; done))
              have k1_0_1 : w1.cell? ⟨w.heap.size, 1, none⟩ = some (.int .i64 (aY)) := (b1.cell (p := ⟨w.heap.size, 1, none⟩) (by first | (simp; done) | (simp; omega) | omega)).trans (by first | with_reducible assumption | (simp [go_sem]; done) | (simp [go_sem, *]; done))
              have g1_0_1 : w1.frozen? ⟨w.heap.size, 1, none⟩ = false := (b1.frozen (p := ⟨w.heap.size, 1, none⟩) (by first | (simp; done) | (simp; omega) | omega)).trans (by first | with_reducible assumption | (simp [go_sem]; done) | (simp [go_sem, *]; done))
              have z1_1 : w.heap.size + 1 < w1.heap.size := by omega
              have k1_1_0 : w1.cell? ⟨w.heap.size + 1, 0, none⟩ = some (.int .i64 (bX)) := (b1.cell (p := ⟨w.heap.size + 1, 0, none⟩) (by first | (simp; done) | (simp; omega) | omega)).trans (by first | with_reducible assumption | (simp [go_sem]; done) | (simp [go_sem, *]; done))
              have g1_1_0 : w1.frozen? ⟨w.heap.size + 1, 0, none⟩ = false := (b1.frozen (p := ⟨w.heap.size + 1, 0, none⟩) (by first | (simp; done) | (simp; omega) | omega)).trans (by first | with_reducible assumption | (simp [go_sem]; done) | (simp [go_sem, *]; done))
              have k1_1_1 : w1.cell? ⟨w.heap.size + 1, 1, none⟩ = some (.int .i64 (bY)) := (b1.cell (p := ⟨w.heap.size + 1, 1, none⟩) (by first | (simp; done) | (simp; omega) | omega)).trans (by first | with_reducible assumption | (simp [go_sem]; done) | (simp [go_sem, *]; done))
              have g1_1_1 : w1.frozen? ⟨w.heap.size + 1, 1, none⟩ = false := (b1.frozen (p := ⟨w.heap.size + 1, 1, none⟩) (by first | (simp; done) | (simp; omega) | omega)).trans (by first | with_reducible assumption | (simp [go_sem]; done) | (simp [go_sem, *]; done))
              have z1_2 : w.heap.size + 1 + 1 < w1.heap.size := by omega
              have k1_2_0 : w1.cell? ⟨w.heap.size + 1 + 1, 0, none⟩ = some (.int .i64 (0)) := (b1.cell (p := ⟨w.heap.size + 1 + 1, 0, none⟩) (by first | (simp; done) | (simp; omega) | omega)).trans (by first | with_reducible assumption | (simp [go_sem]; done) | (simp [go_sem, *]; done))
              have g1_2_0 : w1.frozen? ⟨w.heap.size + 1 + 1, 0, none⟩ = false := (b1.frozen (p := ⟨w.heap.size + 1 + 1, 0, none⟩) (by first | (simp; done) | (simp; omega) | omega)).trans (by first | with_reducible assumption | (simp [go_sem]; done) | (simp [go_sem, *]; done))
              have k1_2_1 : w1.cell? ⟨w.heap.size + 1 + 1, 1, none⟩ = some (.int .i64 (0)) := (b1.cell (p := ⟨w.heap.size + 1 + 1, 1, none⟩) (by first | (simp; done) | (simp; omega) | omega)).trans (by first | with_reducible assumption | (simp [go_sem]; done) | (simp [go_sem, *]; done))
              have g1_2_1 : w1.frozen? ⟨w.heap.size + 1 + 1, 1, none⟩ = false := (b1.frozen (p := ⟨w.heap.size + 1 + 1, 1, none⟩) (by first | (simp; done) | (simp; omega) | omega)).trans (by first | with_reducible assumption | (simp [go_sem]; done) | (simp [go_sem, *]; done))
              have k1_2_2 : w1.cell? ⟨w.heap.size + 1 + 1, 2, none⟩ = some (.int .i64 (0)) := (b1.cell (p := ⟨w.heap.size + 1 + 1, 2, none⟩) (by first | (simp; done) | (simp; omega) | omega)).trans (by first | with_reducible assumption | (simp [go_sem]; done) | (simp [go_sem, *]; done))
              have g1_2_2 : w1.frozen? ⟨w.heap.size + 1 + 1, 2, none⟩ = false := (b1.frozen (p := ⟨w.heap.size + 1 + 1, 2, none⟩) (by first | (simp; done) | (simp; omega) | omega)).trans (by first | with_reducible assumption | (simp [go_sem]; done) | (simp [go_sem, *]; done))
              go_wp2_with fail
              refine (K1.out _).mono ?_
              rintro e w2 ⟨rfl, b2⟩
              have s2 := b2.size
              try simp at s2
              have z2_0 : w.heap.size < w2.heap.size := by omega
              have k2_0_0 : w2.cell? ⟨w.heap.size, 0, none⟩ = some (.int .i64 (aX)) := (b2.cell (p := ⟨w.heap.size, 0, none⟩) (by first | (simp; done) | (simp; omega) | omega)).trans (by first | with_reducible assumption | (simp [go_sem]; done) | (simp [go_sem, *]; done))
              have g2_0_0 : w2.frozen? ⟨w.heap.size, 0, none⟩ = false := (b2.frozen (p := ⟨w.heap.size, 0, none⟩) (by first | (simp; done) | (simp; omega) | omega)).trans (by first | with_reducible assumption | (simp [go_sem]; done) | (simp [go_sem, *]; done))
              have k2_0_1 : w2.cell? ⟨w.heap.size, 1, none⟩ = some (.int .i64 (aY)) := (b2.cell (p := ⟨w.heap.size, 1, none⟩) (by first | (simp; done) | (simp; omega) | omega)).trans (by first | with_reducible assumption | (simp [go_sem]; done) | (simp [go_sem, *]; done))
              have g2_0_1 : w2.frozen? ⟨w.heap.size, 1, none⟩ = false := (b2.frozen (p := ⟨w.heap.size, 1, none⟩) (by first | (simp; done) | (simp; omega) | omega)).trans (by first | with_reducible assumption | (simp [go_sem]; done) | (simp [go_sem, *]; done))
              have z2_1 : w.heap.size + 1 < w2.heap.size := by omega
              have k2_1_0 : w2.cell? ⟨w.heap.size + 1, 0, none⟩ = some (.int .i64 (bX)) := (b2.cell (p := ⟨w.heap.size + 1, 0, none⟩) (by first | (simp; done) | (simp; omega) | omega)).trans (by first | with_reducible assumption | (simp [go_sem]; done) | (simp [go_sem, *]; done))
              have g2_1_0 : w2.frozen? ⟨w.heap.size + 1, 0, none⟩ = false := (b2.frozen (p := ⟨w.heap.size + 1, 0, none⟩) (by first | (simp; done) | (simp; omega) | omega)).trans (by first | with_reducible assumption | (simp [go_sem]; done) | (simp [go_sem, *]; done))
              have k2_1_1 : w2.cell? ⟨w.heap.size + 1, 1, none⟩ = some (.int .i64 (bY)) := (b2.cell (p := ⟨w.heap.size + 1, 1, none⟩) (by first | (simp; done) | (simp; omega) | omega)).trans (by first | with_reducible assumption | (simp [go_sem]; done) | (simp [go_sem, *]; done))
              have g2_1_1 : w2.frozen? ⟨w.heap.size + 1, 1, none⟩ = false := (b2.frozen (p := ⟨w.heap.size + 1, 1, none⟩) (by first | (simp; done) | (simp; omega) | omega)).trans (by first | with_reducible assumption | (simp [go_sem]; done) | (simp [go_sem, *]; done))
              have z2_2 : w.heap.size + 1 + 1 < w2.heap.size := by omega
              have k2_2_0 : w2.cell? ⟨w.heap.size + 1 + 1, 0, none⟩ = some (.int .i64 (0)) := (b2.cell (p := ⟨w.heap.size + 1 + 1, 0, none⟩) (by first | (simp; done) | (simp; omega) | omega)).trans (by first | with_reducible assumption | (simp [go_sem]; done) | (simp [go_sem, *]; done))
              have g2_2_0 : w2.frozen? ⟨w.heap.size + 1 + 1, 0, none⟩ = false := (b2.frozen (p := ⟨w.heap.size + 1 + 1, 0, none⟩) (by first | (simp; done) | (simp; omega) | omega)).trans (by first | with_reducible assumption | (simp [go_sem]; done) | (simp [go_sem, *]; done))
              have k2_2_1 : w2.cell? ⟨w.heap.size + 1 + 1, 1, none⟩ = some (.int .i64 (0)) := (b2.cell (p := ⟨w.heap.size + 1 + 1, 1, none⟩) (by first | (simp; done) | (simp; omega) | omega)).trans (by first | with_reducible assumption | (simp [go_sem]; done) | (simp [go_sem, *]; done))
              have g2_2_1 : w2.frozen? ⟨w.heap.size + 1 + 1, 1, none⟩ = false := (b2.frozen (p := ⟨w.heap.size + 1 + 1, 1, none⟩) (by first | (simp; done) | (simp; omega) | omega)).trans (by first | with_reducible assumption | (simp [go_sem]; done) | (simp [go_sem, *]; done))
              have k2_2_2 : w2.cell? ⟨w.heap.size + 1 + 1, 2, none⟩ = some (.int .i64 (0)) := (b2.cell (p := ⟨w.heap.size + 1 + 1, 2, none⟩) (by first | (simp; done) | (simp; omega) | omega)).trans (by first | with_reducible assumption | (simp [go_sem]; done) | (simp [go_sem, *]; done))
              have g2_2_2 : w2.frozen? ⟨w.heap.size + 1 + 1, 2, none⟩ = false := (b2.frozen (p := ⟨w.heap.size + 1 + 1, 2, none⟩) (by first | (simp; done) | (simp; omega) | omega)).trans (by first | with_reducible assumption | (simp [go_sem]; done) | (simp [go_sem, *]; done))
              clear k1_0_0 g1_0_0 k1_0_1 g1_0_1 k1_1_0 g1_1_0 k1_1_1 g1_1_1 k1_2_0 g1_2_0 k1_2_1 g1_2_1 k1_2_2 g1_2_2
              go_wp2_with fail
              refine (K2.out _).mono ?_
              rintro e w3 ⟨rfl, b3⟩
              have s3 := b3.size
              try simp at s3
              have z3_0 : w.heap.size < w3.heap.size := by omega
              have k3_0_0 : w3.cell? ⟨w.heap.size, 0, none⟩ = some (.int .i64 (aX)) := (b3.cell (p := ⟨w.heap.size, 0, none⟩) (by first | (simp; done) | (simp; omega) | omega)).trans (by first | with_reducible assumption | (simp [go_sem]; done) | (simp [go_sem, *]; done))
              have g3_0_0 : w3.frozen? ⟨w.heap.size, 0, none⟩ = false := (b3.frozen (p := ⟨w.heap.size, 0, none⟩) (by first | (simp; done) | (simp; omega) | omega)).trans (by first | with_reducible assumption | (simp [go_sem]; done) | (simp [go_sem, *]; done))
              have k3_0_1 : w3.cell? ⟨w.heap.size, 1, none⟩ = some (.int .i64 (aY)) := (b3.cell (p := ⟨w.heap.size, 1, none⟩) (by first | (simp; done) | (simp; omega) | omega)).trans (by first | with_reducible assumption | (simp [go_sem]; done) | (simp [go_sem, *]; done))
              have g3_0_1 : w3.frozen? ⟨w.heap.size, 1, none⟩ = false := (b3.frozen (p := ⟨w.heap.size, 1, none⟩) (by first | (simp; done) | (simp; omega) | omega)).trans (by first | with_reducible assumption | (simp [go_sem]; done) | (simp [go_sem, *]; done))
              have z3_1 : w.heap.size + 1 < w3.heap.size := by omega
              have k3_1_0 : w3.cell? ⟨w.heap.size + 1, 0, none⟩ = some (.int .i64 (bX)) := (b3.cell (p := ⟨w.heap.size + 1, 0, none⟩) (by first | (simp; done) | (simp; omega) | omega)).trans (by first | with_reducible assumption | (simp [go_sem]; done) | (simp [go_sem, *]; done))
              have g3_1_0 : w3.frozen? ⟨w.heap.size + 1, 0, none⟩ = false := (b3.frozen (p := ⟨w.heap.size + 1, 0, none⟩) (by first | (simp; done) | (simp; omega) | omega)).trans (by first | with_reducible assumption | (simp [go_sem]; done) | (simp [go_sem, *]; done))
              have k3_1_1 : w3.cell? ⟨w.heap.size + 1, 1, none⟩ = some (.int .i64 (bY)) := (b3.cell (p := ⟨w.heap.size + 1, 1, none⟩) (by first | (simp; done) | (simp; omega) | omega)).trans (by first | with_reducible assumption | (simp [go_sem]; done) | (simp [go_sem, *]; done))
              have g3_1_1 : w3.frozen? ⟨w.heap.size + 1, 1, none⟩ = false := (b3.frozen (p := ⟨w.heap.size + 1, 1, none⟩) (by first | (simp; done) | (simp; omega) | omega)).trans (by first | with_reducible assumption | (simp [go_sem]; done) | (simp [go_sem, *]; done))
              have z3_2 : w.heap.size + 1 + 1 < w3.heap.size := by omega
              have k3_2_0 : w3.cell? ⟨w.heap.size + 1 + 1, 0, none⟩ = some (.int .i64 (0)) := (b3.cell (p := ⟨w.heap.size + 1 + 1, 0, none⟩) (by first | (simp; done) | (simp; omega) | omega)).trans (by first | with_reducible assumption | (simp [go_sem]; done) | (simp [go_sem, *]; done))
              have g3_2_0 : w3.frozen? ⟨w.heap.size + 1 + 1, 0, none⟩ = false := (b3.frozen (p := ⟨w.heap.size + 1 + 1, 0, none⟩) (by first | (simp; done) | (simp; omega) | omega)).trans (by first | with_reducible assumption | (simp [go_sem]; done) | (simp [go_sem, *]; done))
              have k3_2_1 : w3.cell? ⟨w.heap.size + 1 + 1, 1, none⟩ = some (.int .i64 (0)) := (b3.cell (p := ⟨w.heap.size + 1 + 1, 1, none⟩) (by first | (simp; done) | (simp; omega) | omega)).trans (by first | with_reducible assumption | (simp [go_sem]; done) | (simp [go_sem, *]; done))
              have g3_2_1 : w3.frozen? ⟨w.heap.size + 1 + 1, 1, none⟩ = false := (b3.frozen (p := ⟨w.heap.size + 1 + 1, 1, none⟩) (by first | (simp; done) | (simp; omega) | omega)).trans (by first | with_reducible assumption | (simp [go_sem]; done) | (simp [go_sem, *]; done))
              have k3_2_2 : w3.cell? ⟨w.heap.size + 1 + 1, 2, none⟩ = some (.int .i64 (0)) := (b3.cell (p := ⟨w.heap.size + 1 + 1, 2, none⟩) (by first | (simp; done) | (simp; omega) | omega)).trans (by first | with_reducible assumption | (simp [go_sem]; done) | (simp [go_sem, *]; done))
              have g3_2_2 : w3.frozen? ⟨w.heap.size + 1 + 1, 2, none⟩ = false := (b3.frozen (p := ⟨w.heap.size + 1 + 1, 2, none⟩) (by first | (simp; done) | (simp; omega) | omega)).trans (by first | with_reducible assumption | (simp [go_sem]; done) | (simp [go_sem, *]; done))
              have z3_3 : w2.heap.size < w3.heap.size := by omega
              have k3_3_0 : w3.cell? ⟨w2.heap.size, 0, none⟩ = some (.int .i64 (DX)) := (b3.cell (p := ⟨w2.heap.size, 0, none⟩) (by first | (simp; done) | (simp; omega) | omega)).trans (by first | with_reducible assumption | (simp [go_sem]; done) | (simp [go_sem, *]; done))
              have g3_3_0 : w3.frozen? ⟨w2.heap.size, 0, none⟩ = false := (b3.frozen (p := ⟨w2.heap.size, 0, none⟩) (by first | (simp; done) | (simp; omega) | omega)).trans (by first | with_reducible assumption | (simp [go_sem]; done) | (simp [go_sem, *]; done))
              have k3_3_1 : w3.cell? ⟨w2.heap.size, 1, none⟩ = some (.int .i64 (DY)) := (b3.cell (p := ⟨w2.heap.size, 1, none⟩) (by first | (simp; done) | (simp; omega) | omega)).trans (by first | with_reducible assumption | (simp [go_sem]; done) | (simp [go_sem, *]; done))
              have g3_3_1 : w3.frozen? ⟨w2.heap.size, 1, none⟩ = false := (b3.frozen (p := ⟨w2.heap.size, 1, none⟩) (by first | (simp; done) | (simp; omega) | omega)).trans (by first | with_reducible assumption | (simp [go_sem]; done) | (simp [go_sem, *]; done))
              clear k2_0_0 g2_0_0 k2_0_1 g2_0_1 k2_1_0 g2_1_0 k2_1_1 g2_1_1 k2_2_0 g2_2_0 k2_2_1 g2_2_1 k2_2_2 g2_2_2
              go_wp2
              all_goals (try (exfalso; omega))
              have H1 := Lib.hid (IntWalk.i64_in (-DX) (by omega))
              have H2 : Hid (IntKind.i64.wrap (DY.tdiv G) = LA) := Lib.hid (by rw [E3.out]; exact IntWalk.i64_in _ (by omega))
              have H3 : Hid (IntKind.i64.wrap ((-DX).tdiv G) = LB) := Lib.hid (by rw [E4.out]; exact IntWalk.i64_in _ (by omega))
              go_wp2
              have A3_0 : ∀ w', HldHi (w2.heap.size) w3 w' → w'.cell? ⟨w2.heap.size, 0, none⟩ = some (.int .i64 (DX)) := fun w' h => h.cell (by omega) (by first | omega | (simp; done) | (simp; omega)) (by first | with_reducible assumption | (simp [go_sem]; done) | (simp [go_sem, *]; done))
              have A3_1 : ∀ w', HldHi (w2.heap.size) w3 w' → w'.cell? ⟨w2.heap.size, 1, none⟩ = some (.int .i64 (DY)) := fun w' h => h.cell (by omega) (by first | omega | (simp; done) | (simp; omega)) (by first | with_reducible assumption | (simp [go_sem]; done) | (simp [go_sem, *]; done))
              go_region_held3 (fun w' => HldHi (w2.heap.size) w3 w') ((repeat (first | with_reducible assumption | with_reducible exact HldHi.start _ _ | with_reducible exact HldHi.refl _ _ | with_reducible refine HldHi.drew ?_ | with_reducible refine HldHi.alloc ?_ _ | with_reducible refine HldHi.set ?_ (by dsimp only; omega) _ | with_reducible refine HldHi.setN ?_ (by first | (simp; done) | (simp; omega)) _))) (fail)
              all_goals simp only [H1.out, H2.out, H3.out]
              all_goals go_wp2
              all_goals (refine bodyPost_ret (v := .tuple #[.agg #[.int .i64 LA, .int .i64 LB, .int .i64 (ltC aX aY bX bY)], .bool true]) (by simp [results, Try.results14, go_sem, EC.out, *]) rfl ⟨rfl, ?_⟩)
              all_goals (repeat (first | with_reducible exact Below.refl _ _ | with_reducible refine bl_alloc ?_ _ | with_reducible refine bl_drew ?_ | with_reducible refine bl_set ?_ (by first | (simp; done) | (simp; omega)) _ | with_reducible refine bl_call (by assumption) ?_))
          · have hne : ¬ (aX = bX ∧ aY = bY) := by omega
            have hk : ltOk aX aY bX bY = true := by simp [ltOk, hv, hne]
            have rA : LtA aX aY bX bY = ltA aX aY bX bY := by simp [LtA, hk]
            have rB : LtB aX aY bX bY = ltB aX aY bX bY := by simp [LtB, hk]
            have rC : LtC aX aY bX bY = ltC aX aY bX bY := by simp [LtC, hk]
            rw [rA, rB, rC, hk]
            clear rA rB rC hk
            obtain ⟨hpa, hpb⟩ : ptB aX aY = true ∧ ptB bX bY = true := by simpa [v2B] using hv
            obtain ⟨⟨_, _⟩, ⟨_, _⟩⟩ := ptB_true hpa
            obtain ⟨⟨_, _⟩, ⟨_, _⟩⟩ := ptB_true hpb
            obtain ⟨⟨q1a, q1b⟩, ⟨q2a, q2b⟩⟩ := lt_bd aX aY bX bY hv
            clear hpa hpb
            have hG : gcdI (bX - aX) (bY - aY) = gcdI (bY - aY) (aX - bX) := by
              have e : aX - bX = -(bX - aX) := by omega
              rw [e, gcdI_neg2]; unfold gcdI; rw [Int.gcd_comm]
            have gp := gcd_pos2 (bY - aY) (aX - bX) (by omega)
            have gu := gcdI_le (bY - aY) (aX - bX) 2000 (by omega) (by omega)
            have hn : ¬ (bY - aY < 0 ∨ (bY - aY = 0 ∧ aX - bX < 0)) := by omega
            obtain ⟨e3, e4, -⟩ := lt_pos aX aY bX bY hne hn
            have K1 : Hid (∀ W : World, Calls Try.prog 43 #[.agg #[.int .i64 bX, .int .i64 bY], .agg #[.int .i64 aX, .int .i64 aY]] W fun e w' => e = .returned (.agg #[.int .i64 (bX - aX), .int .i64 (bY - aY)]) ∧ Below W.heap.size W w') := Lib.hid fun W => by
              have h := impl_Point_minus (bX) (bY) (aX) (aY) W (by omega) (by omega) (by omega) (by omega)
              exact h
            have K2 : Hid (∀ W : World, Calls Try.prog 44 #[.int .i64 (bX - aX), .int .i64 (bY - aY)] W fun e w' => e = .returned (.int .i64 (gcdI (bY - aY) (aX - bX))) ∧ Below W.heap.size W w') := Lib.hid fun W => by
              have h := impl_divisor (bX - aX) (bY - aY) W (by omega) (by omega) (by omega) (by omega)
              rw [hG] at h
              exact h
            obtain ⟨m1l, m1u⟩ := mul_bd (ltA aX aY bX bY) aX 2000 1000 (by omega) (by omega) (by omega) (by omega)
            obtain ⟨m2l, m2u⟩ := mul_bd (ltB aX aY bX bY) aY 2000 1000 (by omega) (by omega) (by omega) (by omega)
            have hB : aX - bX = -(bX - aX) := by omega
            have eC : ltA aX aY bX bY * aX + ltB aX aY bX bY * aY = ltC aX aY bX bY := rfl
            generalize gcdI (bY - aY) (aX - bX) = G at *
            generalize ltA aX aY bX bY = LA at *
            generalize ltB aX aY bX bY = LB at *
            rw [hB] at e4
            have n1 : ¬ bY - aY < 0 := by omega
            have n2 : (bY - aY == 0) = false := by simp; omega
            have dxl : -2000 ≤ bX - aX := by omega
            have dxu : bX - aX ≤ 2000 := by omega
            have dyl : -2000 ≤ bY - aY := by omega
            have dyu : bY - aY ≤ 2000 := by omega
            clear c1 c2
            clear hne hn hB hG
            generalize bX - aX = DX at *
            generalize bY - aY = DY at *
            have E3 := Lib.hid e3
            have E4 := Lib.hid e4
            have EC := Lib.hid eC
            clear e3 e4 eC
            have gnz : ¬ G = 0 := by omega
            have gnz2 : ¬ -G = 0 := by omega
            obtain ⟨t1l, t1u⟩ := tdiv_bd DY G 2000 (by omega)
            obtain ⟨t2l, t2u⟩ := tdiv_bd (-DX) G 2000 (by omega)
            obtain ⟨t3l, t3u⟩ := tdiv_bd DY (-G) 2000 (by omega)
            obtain ⟨t4l, t4u⟩ := tdiv_bd (-DX) (-G) 2000 (by omega)
            have i1 : (aX == bX) = true := by simp [e1]
            have i2 : (aY == bY) = false := by simp [e2]
            clear e1 e2
            go_enter Try.func14, Try.ntmps14
            go_wp2_with fail
            refine (impl_allValid2 _ _ aX aY bX bY _ (by simp) ⟨by simp [go_sem], by simp [go_sem], by simp [go_sem], by simp [go_sem]⟩).mono ?_
            rintro e w1 ⟨rfl, b1⟩
            have s1 := b1.size
            try simp at s1
            have z1_0 : w.heap.size < w1.heap.size := by omega
            have k1_0_0 : w1.cell? ⟨w.heap.size, 0, none⟩ = some (.int .i64 (aX)) := (b1.cell (p := ⟨w.heap.size, 0, none⟩) (by first | (simp; done) | (simp; omega) | omega)).trans (by first | with_reducible assumption | (simp [go_sem]; done) | (simp [go_sem, *]; done))
            have g1_0_0 : w1.frozen? ⟨w.heap.size, 0, none⟩ = false := (b1.frozen (p := ⟨w.heap.size, 0, none⟩) (by first | (simp; done) | (simp; omega) | omega)).trans (by first | with_reducible assumption | (simp [go_sem]; done) | (simp [go_sem, *]; done))
            have k1_0_1 : w1.cell? ⟨w.heap.size, 1, none⟩ = some (.int .i64 (aY)) := (b1.cell (p := ⟨w.heap.size, 1, none⟩) (by first | (simp; done) | (simp; omega) | omega)).trans (by first | with_reducible assumption | (simp [go_sem]; done) | (simp [go_sem, *]; done))
            have g1_0_1 : w1.frozen? ⟨w.heap.size, 1, none⟩ = false := (b1.frozen (p := ⟨w.heap.size, 1, none⟩) (by first | (simp; done) | (simp; omega) | omega)).trans (by first | with_reducible assumption | (simp [go_sem]; done) | (simp [go_sem, *]; done))
            have z1_1 : w.heap.size + 1 < w1.heap.size := by omega
            have k1_1_0 : w1.cell? ⟨w.heap.size + 1, 0, none⟩ = some (.int .i64 (bX)) := (b1.cell (p := ⟨w.heap.size + 1, 0, none⟩) (by first | (simp; done) | (simp; omega) | omega)).trans (by first | with_reducible assumption | (simp [go_sem]; done) | (simp [go_sem, *]; done))
            have g1_1_0 : w1.frozen? ⟨w.heap.size + 1, 0, none⟩ = false := (b1.frozen (p := ⟨w.heap.size + 1, 0, none⟩) (by first | (simp; done) | (simp; omega) | omega)).trans (by first | with_reducible assumption | (simp [go_sem]; done) | (simp [go_sem, *]; done))
            have k1_1_1 : w1.cell? ⟨w.heap.size + 1, 1, none⟩ = some (.int .i64 (bY)) := (b1.cell (p := ⟨w.heap.size + 1, 1, none⟩) (by first | (simp; done) | (simp; omega) | omega)).trans (by first | with_reducible assumption | (simp [go_sem]; done) | (simp [go_sem, *]; done))
            have g1_1_1 : w1.frozen? ⟨w.heap.size + 1, 1, none⟩ = false := (b1.frozen (p := ⟨w.heap.size + 1, 1, none⟩) (by first | (simp; done) | (simp; omega) | omega)).trans (by first | with_reducible assumption | (simp [go_sem]; done) | (simp [go_sem, *]; done))
            have z1_2 : w.heap.size + 1 + 1 < w1.heap.size := by omega
            have k1_2_0 : w1.cell? ⟨w.heap.size + 1 + 1, 0, none⟩ = some (.int .i64 (0)) := (b1.cell (p := ⟨w.heap.size + 1 + 1, 0, none⟩) (by first | (simp; done) | (simp; omega) | omega)).trans (by first | with_reducible assumption | (simp [go_sem]; done) | (simp [go_sem, *]; done))
            have g1_2_0 : w1.frozen? ⟨w.heap.size + 1 + 1, 0, none⟩ = false := (b1.frozen (p := ⟨w.heap.size + 1 + 1, 0, none⟩) (by first | (simp; done) | (simp; omega) | omega)).trans (by first | with_reducible assumption | (simp [go_sem]; done) | (simp [go_sem, *]; done))
            have k1_2_1 : w1.cell? ⟨w.heap.size + 1 + 1, 1, none⟩ = some (.int .i64 (0)) := (b1.cell (p := ⟨w.heap.size + 1 + 1, 1, none⟩) (by first | (simp; done) | (simp; omega) | omega)).trans (by first | with_reducible assumption | (simp [go_sem]; done) | (simp [go_sem, *]; done))
            have g1_2_1 : w1.frozen? ⟨w.heap.size + 1 + 1, 1, none⟩ = false := (b1.frozen (p := ⟨w.heap.size + 1 + 1, 1, none⟩) (by first | (simp; done) | (simp; omega) | omega)).trans (by first | with_reducible assumption | (simp [go_sem]; done) | (simp [go_sem, *]; done))
            have k1_2_2 : w1.cell? ⟨w.heap.size + 1 + 1, 2, none⟩ = some (.int .i64 (0)) := (b1.cell (p := ⟨w.heap.size + 1 + 1, 2, none⟩) (by first | (simp; done) | (simp; omega) | omega)).trans (by first | with_reducible assumption | (simp [go_sem]; done) | (simp [go_sem, *]; done))
            have g1_2_2 : w1.frozen? ⟨w.heap.size + 1 + 1, 2, none⟩ = false := (b1.frozen (p := ⟨w.heap.size + 1 + 1, 2, none⟩) (by first | (simp; done) | (simp; omega) | omega)).trans (by first | with_reducible assumption | (simp [go_sem]; done) | (simp [go_sem, *]; done))
            go_wp2_with fail
            refine (K1.out _).mono ?_
            rintro e w2 ⟨rfl, b2⟩
            have s2 := b2.size
            try simp at s2
            have z2_0 : w.heap.size < w2.heap.size := by omega
            have k2_0_0 : w2.cell? ⟨w.heap.size, 0, none⟩ = some (.int .i64 (aX)) := (b2.cell (p := ⟨w.heap.size, 0, none⟩) (by first | (simp; done) | (simp; omega) | omega)).trans (by first | with_reducible assumption | (simp [go_sem]; done) | (simp [go_sem, *]; done))
            have g2_0_0 : w2.frozen? ⟨w.heap.size, 0, none⟩ = false := (b2.frozen (p := ⟨w.heap.size, 0, none⟩) (by first | (simp; done) | (simp; omega) | omega)).trans (by first | with_reducible assumption | (simp [go_sem]; done) | (simp [go_sem, *]; done))
            have k2_0_1 : w2.cell? ⟨w.heap.size, 1, none⟩ = some (.int .i64 (aY)) := (b2.cell (p := ⟨w.heap.size, 1, none⟩) (by first | (simp; done) | (simp; omega) | omega)).trans (by first | with_reducible assumption | (simp [go_sem]; done) | (simp [go_sem, *]; done))
            have g2_0_1 : w2.frozen? ⟨w.heap.size, 1, none⟩ = false := (b2.frozen (p := ⟨w.heap.size, 1, none⟩) (by first | (simp; done) | (simp; omega) | omega)).trans (by first | with_reducible assumption | (simp [go_sem]; done) | (simp [go_sem, *]; done))
            have z2_1 : w.heap.size + 1 < w2.heap.size := by omega
            have k2_1_0 : w2.cell? ⟨w.heap.size + 1, 0, none⟩ = some (.int .i64 (bX)) := (b2.cell (p := ⟨w.heap.size + 1, 0, none⟩) (by first | (simp; done) | (simp; omega) | omega)).trans (by first | with_reducible assumption | (simp [go_sem]; done) | (simp [go_sem, *]; done))
            have g2_1_0 : w2.frozen? ⟨w.heap.size + 1, 0, none⟩ = false := (b2.frozen (p := ⟨w.heap.size + 1, 0, none⟩) (by first | (simp; done) | (simp; omega) | omega)).trans (by first | with_reducible assumption | (simp [go_sem]; done) | (simp [go_sem, *]; done))
            have k2_1_1 : w2.cell? ⟨w.heap.size + 1, 1, none⟩ = some (.int .i64 (bY)) := (b2.cell (p := ⟨w.heap.size + 1, 1, none⟩) (by first | (simp; done) | (simp; omega) | omega)).trans (by first | with_reducible assumption | (simp [go_sem]; done) | (simp [go_sem, *]; done))
            have g2_1_1 : w2.frozen? ⟨w.heap.size + 1, 1, none⟩ = false := (b2.frozen (p := ⟨w.heap.size + 1, 1, none⟩) (by first | (simp; done) | (simp; omega) | omega)).trans (by first | with_reducible assumption | (simp [go_sem]; done) | (simp [go_sem, *]; done))
            have z2_2 : w.heap.size + 1 + 1 < w2.heap.size := by omega
            have k2_2_0 : w2.cell? ⟨w.heap.size + 1 + 1, 0, none⟩ = some (.int .i64 (0)) := (b2.cell (p := ⟨w.heap.size + 1 + 1, 0, none⟩) (by first | (simp; done) | (simp; omega) | omega)).trans (by first | with_reducible assumption | (simp [go_sem]; done) | (simp [go_sem, *]; done))
            have g2_2_0 : w2.frozen? ⟨w.heap.size + 1 + 1, 0, none⟩ = false := (b2.frozen (p := ⟨w.heap.size + 1 + 1, 0, none⟩) (by first | (simp; done) | (simp; omega) | omega)).trans (by first | with_reducible assumption | (simp [go_sem]; done) | (simp [go_sem, *]; done))
            have k2_2_1 : w2.cell? ⟨w.heap.size + 1 + 1, 1, none⟩ = some (.int .i64 (0)) := (b2.cell (p := ⟨w.heap.size + 1 + 1, 1, none⟩) (by first | (simp; done) | (simp; omega) | omega)).trans (by first | with_reducible assumption | (simp [go_sem]; done) | (simp [go_sem, *]; done))
            have g2_2_1 : w2.frozen? ⟨w.heap.size + 1 + 1, 1, none⟩ = false := (b2.frozen (p := ⟨w.heap.size + 1 + 1, 1, none⟩) (by first | (simp; done) | (simp; omega) | omega)).trans (by first | with_reducible assumption | (simp [go_sem]; done) | (simp [go_sem, *]; done))
            have k2_2_2 : w2.cell? ⟨w.heap.size + 1 + 1, 2, none⟩ = some (.int .i64 (0)) := (b2.cell (p := ⟨w.heap.size + 1 + 1, 2, none⟩) (by first | (simp; done) | (simp; omega) | omega)).trans (by first | with_reducible assumption | (simp [go_sem]; done) | (simp [go_sem, *]; done))
            have g2_2_2 : w2.frozen? ⟨w.heap.size + 1 + 1, 2, none⟩ = false := (b2.frozen (p := ⟨w.heap.size + 1 + 1, 2, none⟩) (by first | (simp; done) | (simp; omega) | omega)).trans (by first | with_reducible assumption | (simp [go_sem]; done) | (simp [go_sem, *]; done))
            clear k1_0_0 g1_0_0 k1_0_1 g1_0_1 k1_1_0 g1_1_0 k1_1_1 g1_1_1 k1_2_0 g1_2_0 k1_2_1 g1_2_1 k1_2_2 g1_2_2
            go_wp2_with fail
            refine (K2.out _).mono ?_
            rintro e w3 ⟨rfl, b3⟩
            have s3 := b3.size
            try simp at s3
            have z3_0 : w.heap.size < w3.heap.size := by omega
            have k3_0_0 : w3.cell? ⟨w.heap.size, 0, none⟩ = some (.int .i64 (aX)) := (b3.cell (p := ⟨w.heap.size, 0, none⟩) (by first | (simp; done) | (simp; omega) | omega)).trans (by first | with_reducible assumption | (simp [go_sem]; done) | (simp [go_sem, *]; done))
            have g3_0_0 : w3.frozen? ⟨w.heap.size, 0, none⟩ = false := (b3.frozen (p := ⟨w.heap.size, 0, none⟩) (by first | (simp; done) | (simp; omega) | omega)).trans (by first | with_reducible assumption | (simp [go_sem]; done) | (simp [go_sem, *]; done))
            have k3_0_1 : w3.cell? ⟨w.heap.size, 1, none⟩ = some (.int .i64 (aY)) := (b3.cell (p := ⟨w.heap.size, 1, none⟩) (by first | (simp; done) | (simp; omega) | omega)).trans (by first | with_reducible assumption | (simp [go_sem]; done) | (simp [go_sem, *]; done))
            have g3_0_1 : w3.frozen? ⟨w.heap.size, 1, none⟩ = false := (b3.frozen (p := ⟨w.heap.size, 1, none⟩) (by first | (simp; done) | (simp; omega) | omega)).trans (by first | with_reducible assumption | (simp [go_sem]; done) | (simp [go_sem, *]; done))
            have z3_1 : w.heap.size + 1 < w3.heap.size := by omega
            have k3_1_0 : w3.cell? ⟨w.heap.size + 1, 0, none⟩ = some (.int .i64 (bX)) := (b3.cell (p := ⟨w.heap.size + 1, 0, none⟩) (by first | (simp; done) | (simp; omega) | omega)).trans (by first | with_reducible assumption | (simp [go_sem]; done) | (simp [go_sem, *]; done))
            have g3_1_0 : w3.frozen? ⟨w.heap.size + 1, 0, none⟩ = false := (b3.frozen (p := ⟨w.heap.size + 1, 0, none⟩) (by first | (simp; done) | (simp; omega) | omega)).trans (by first | with_reducible assumption | (simp [go_sem]; done) | (simp [go_sem, *]; done))
            have k3_1_1 : w3.cell? ⟨w.heap.size + 1, 1, none⟩ = some (.int .i64 (bY)) := (b3.cell (p := ⟨w.heap.size + 1, 1, none⟩) (by first | (simp; done) | (simp; omega) | omega)).trans (by first | with_reducible assumption | (simp [go_sem]; done) | (simp [go_sem, *]; done))
            have g3_1_1 : w3.frozen? ⟨w.heap.size + 1, 1, none⟩ = false := (b3.frozen (p := ⟨w.heap.size + 1, 1, none⟩) (by first | (simp; done) | (simp; omega) | omega)).trans (by first | with_reducible assumption | (simp [go_sem]; done) | (simp [go_sem, *]; done))
            have z3_2 : w.heap.size + 1 + 1 < w3.heap.size := by omega
            have k3_2_0 : w3.cell? ⟨w.heap.size + 1 + 1, 0, none⟩ = some (.int .i64 (0)) := (b3.cell (p := ⟨w.heap.size + 1 + 1, 0, none⟩) (by first | (simp; done) | (simp; omega) | omega)).trans (by first | with_reducible assumption | (simp [go_sem]; done) | (simp [go_sem, *]; done))
            have g3_2_0 : w3.frozen? ⟨w.heap.size + 1 + 1, 0, none⟩ = false := (b3.frozen (p := ⟨w.heap.size + 1 + 1, 0, none⟩) (by first | (simp; done) | (simp; omega) | omega)).trans (by first | with_reducible assumption | (simp [go_sem]; done) | (simp [go_sem, *]; done))
            have k3_2_1 : w3.cell? ⟨w.heap.size + 1 + 1, 1, none⟩ = some (.int .i64 (0)) := (b3.cell (p := ⟨w.heap.size + 1 + 1, 1, none⟩) (by first | (simp; done) | (simp; omega) | omega)).trans (by first | with_reducible assumption | (simp [go_sem]; done) | (simp [go_sem, *]; done))
            have g3_2_1 : w3.frozen? ⟨w.heap.size + 1 + 1, 1, none⟩ = false := (b3.frozen (p := ⟨w.heap.size + 1 + 1, 1, none⟩) (by first | (simp; done) | (simp; omega) | omega)).trans (by first | with_reducible assumption | (simp [go_sem]; done) | (simp [go_sem, *]; done))
            have k3_2_2 : w3.cell? ⟨w.heap.size + 1 + 1, 2, none⟩ = some (.int .i64 (0)) := (b3.cell (p := ⟨w.heap.size + 1 + 1, 2, none⟩) (by first | (simp; done) | (simp; omega) | omega)).trans (by first | with_reducible assumption | (simp [go_sem]; done) | (simp [go_sem, *]; done))
            have g3_2_2 : w3.frozen? ⟨w.heap.size + 1 + 1, 2, none⟩ = false := (b3.frozen (p := ⟨w.heap.size + 1 + 1, 2, none⟩) (by first | (simp; done) | (simp; omega) | omega)).trans (by first | with_reducible assumption | (simp [go_sem]; done) | (simp [go_sem, *]; done))
            have z3_3 : w2.heap.size < w3.heap.size := by omega
            have k3_3_0 : w3.cell? ⟨w2.heap.size, 0, none⟩ = some (.int .i64 (DX)) := (b3.cell (p := ⟨w2.heap.size, 0, none⟩) (by first | (simp; done) | (simp; omega) | omega)).trans (by first | with_reducible assumption | (simp [go_sem]; done) | (simp [go_sem, *]; done))
            have g3_3_0 : w3.frozen? ⟨w2.heap.size, 0, none⟩ = false := (b3.frozen (p := ⟨w2.heap.size, 0, none⟩) (by first | (simp; done) | (simp; omega) | omega)).trans (by first | with_reducible assumption | (simp [go_sem]; done) | (simp [go_sem, *]; done))
            have k3_3_1 : w3.cell? ⟨w2.heap.size, 1, none⟩ = some (.int .i64 (DY)) := (b3.cell (p := ⟨w2.heap.size, 1, none⟩) (by first | (simp; done) | (simp; omega) | omega)).trans (by first | with_reducible assumption | (simp [go_sem]; done) | (simp [go_sem, *]; done))
            have g3_3_1 : w3.frozen? ⟨w2.heap.size, 1, none⟩ = false := (b3.frozen (p := ⟨w2.heap.size, 1, none⟩) (by first | (simp; done) | (simp; omega) | omega)).trans (by first | with_reducible assumption | (simp [go_sem]; done) | (simp [go_sem, *]; done))
            clear k2_0_0 g2_0_0 k2_0_1 g2_0_1 k2_1_0 g2_1_0 k2_1_1 g2_1_1 k2_2_0 g2_2_0 k2_2_1 g2_2_1 k2_2_2 g2_2_2
            go_wp2
            all_goals (try (exfalso; omega))
            have H1 := Lib.hid (IntWalk.i64_in (-DX) (by omega))
            have H2 : Hid (IntKind.i64.wrap (DY.tdiv G) = LA) := Lib.hid (by rw [E3.out]; exact IntWalk.i64_in _ (by omega))
            have H3 : Hid (IntKind.i64.wrap ((-DX).tdiv G) = LB) := Lib.hid (by rw [E4.out]; exact IntWalk.i64_in _ (by omega))
            go_wp2
            have A3_0 : ∀ w', HldHi (w2.heap.size) w3 w' → w'.cell? ⟨w2.heap.size, 0, none⟩ = some (.int .i64 (DX)) := fun w' h => h.cell (by omega) (by first | omega | (simp; done) | (simp; omega)) (by first | with_reducible assumption | (simp [go_sem]; done) | (simp [go_sem, *]; done))
            have A3_1 : ∀ w', HldHi (w2.heap.size) w3 w' → w'.cell? ⟨w2.heap.size, 1, none⟩ = some (.int .i64 (DY)) := fun w' h => h.cell (by omega) (by first | omega | (simp; done) | (simp; omega)) (by first | with_reducible assumption | (simp [go_sem]; done) | (simp [go_sem, *]; done))
            go_region_held3 (fun w' => HldHi (w2.heap.size) w3 w') ((repeat (first | with_reducible assumption | with_reducible exact HldHi.start _ _ | with_reducible exact HldHi.refl _ _ | with_reducible refine HldHi.drew ?_ | with_reducible refine HldHi.alloc ?_ _ | with_reducible refine HldHi.set ?_ (by dsimp only; omega) _ | with_reducible refine HldHi.setN ?_ (by first | (simp; done) | (simp; omega)) _))) (fail)
            all_goals simp only [H1.out, H2.out, H3.out]
            all_goals go_wp2
            all_goals (refine bodyPost_ret (v := .tuple #[.agg #[.int .i64 LA, .int .i64 LB, .int .i64 (ltC aX aY bX bY)], .bool true]) (by simp [results, Try.results14, go_sem, EC.out, *]) rfl ⟨rfl, ?_⟩)
            all_goals (repeat (first | with_reducible exact Below.refl _ _ | with_reducible refine bl_alloc ?_ _ | with_reducible refine bl_drew ?_ | with_reducible refine bl_set ?_ (by first | (simp; done) | (simp; omega)) _ | with_reducible refine bl_call (by assumption) ?_))
    · by_cases c1 : bY - aY < 0
      · have hne : ¬ (aX = bX ∧ aY = bY) := by omega
        have hk : ltOk aX aY bX bY = true := by simp [ltOk, hv, hne]
        have rA : LtA aX aY bX bY = ltA aX aY bX bY := by simp [LtA, hk]
        have rB : LtB aX aY bX bY = ltB aX aY bX bY := by simp [LtB, hk]
        have rC : LtC aX aY bX bY = ltC aX aY bX bY := by simp [LtC, hk]
        rw [rA, rB, rC, hk]
        clear rA rB rC hk
        obtain ⟨hpa, hpb⟩ : ptB aX aY = true ∧ ptB bX bY = true := by simpa [v2B] using hv
        obtain ⟨⟨_, _⟩, ⟨_, _⟩⟩ := ptB_true hpa
        obtain ⟨⟨_, _⟩, ⟨_, _⟩⟩ := ptB_true hpb
        obtain ⟨⟨q1a, q1b⟩, ⟨q2a, q2b⟩⟩ := lt_bd aX aY bX bY hv
        clear hpa hpb
        have hG : gcdI (bX - aX) (bY - aY) = gcdI (bY - aY) (aX - bX) := by
          have e : aX - bX = -(bX - aX) := by omega
          rw [e, gcdI_neg2]; unfold gcdI; rw [Int.gcd_comm]
        have gp := gcd_pos2 (bY - aY) (aX - bX) (by omega)
        have gu := gcdI_le (bY - aY) (aX - bX) 2000 (by omega) (by omega)
        have hn : bY - aY < 0 ∨ (bY - aY = 0 ∧ aX - bX < 0) := by omega
        obtain ⟨-, -, -, e3, e4⟩ := lt_neg aX aY bX bY hne hn
        have K1 : Hid (∀ W : World, Calls Try.prog 43 #[.agg #[.int .i64 bX, .int .i64 bY], .agg #[.int .i64 aX, .int .i64 aY]] W fun e w' => e = .returned (.agg #[.int .i64 (bX - aX), .int .i64 (bY - aY)]) ∧ Below W.heap.size W w') := Lib.hid fun W => by
          have h := impl_Point_minus (bX) (bY) (aX) (aY) W (by omega) (by omega) (by omega) (by omega)
          exact h
        have K2 : Hid (∀ W : World, Calls Try.prog 44 #[.int .i64 (bX - aX), .int .i64 (bY - aY)] W fun e w' => e = .returned (.int .i64 (gcdI (bY - aY) (aX - bX))) ∧ Below W.heap.size W w') := Lib.hid fun W => by
          have h := impl_divisor (bX - aX) (bY - aY) W (by omega) (by omega) (by omega) (by omega)
          rw [hG] at h
          exact h
        obtain ⟨m1l, m1u⟩ := mul_bd (ltA aX aY bX bY) aX 2000 1000 (by omega) (by omega) (by omega) (by omega)
        obtain ⟨m2l, m2u⟩ := mul_bd (ltB aX aY bX bY) aY 2000 1000 (by omega) (by omega) (by omega) (by omega)
        have hB : aX - bX = -(bX - aX) := by omega
        have eC : ltA aX aY bX bY * aX + ltB aX aY bX bY * aY = ltC aX aY bX bY := rfl
        generalize gcdI (bY - aY) (aX - bX) = G at *
        generalize ltA aX aY bX bY = LA at *
        generalize ltB aX aY bX bY = LB at *
        rw [hB] at e4
        have n1 : bY - aY < 0 := by omega
        have dxl : -2000 ≤ bX - aX := by omega
        have dxu : bX - aX ≤ 2000 := by omega
        have dyl : -2000 ≤ bY - aY := by omega
        have dyu : bY - aY ≤ 2000 := by omega
        clear c1
        clear hne hn hB hG
        generalize bX - aX = DX at *
        generalize bY - aY = DY at *
        have E3 := Lib.hid e3
        have E4 := Lib.hid e4
        have EC := Lib.hid eC
        clear e3 e4 eC
        have gnz : ¬ G = 0 := by omega
        have gnz2 : ¬ -G = 0 := by omega
        obtain ⟨t1l, t1u⟩ := tdiv_bd DY G 2000 (by omega)
        obtain ⟨t2l, t2u⟩ := tdiv_bd (-DX) G 2000 (by omega)
        obtain ⟨t3l, t3u⟩ := tdiv_bd DY (-G) 2000 (by omega)
        obtain ⟨t4l, t4u⟩ := tdiv_bd (-DX) (-G) 2000 (by omega)
        have i1 : (aX == bX) = false := by simp [e1]
        clear e1
        go_enter Try.func14, Try.ntmps14
        go_wp2_with fail
        refine (impl_allValid2 _ _ aX aY bX bY _ (by simp) ⟨by simp [go_sem], by simp [go_sem], by simp [go_sem], by simp [go_sem]⟩).mono ?_
        rintro e w1 ⟨rfl, b1⟩
        have s1 := b1.size
        try simp at s1
        have z1_0 : w.heap.size < w1.heap.size := by omega
        have k1_0_0 : w1.cell? ⟨w.heap.size, 0, none⟩ = some (.int .i64 (aX)) := (b1.cell (p := ⟨w.heap.size, 0, none⟩) (by first | (simp; done) | (simp; omega) | omega)).trans (by first | with_reducible assumption | (simp [go_sem]; done) | (simp [go_sem, *]; done))
        have g1_0_0 : w1.frozen? ⟨w.heap.size, 0, none⟩ = false := (b1.frozen (p := ⟨w.heap.size, 0, none⟩) (by first | (simp; done) | (simp; omega) | omega)).trans (by first | with_reducible assumption | (simp [go_sem]; done) | (simp [go_sem, *]; done))
        have k1_0_1 : w1.cell? ⟨w.heap.size, 1, none⟩ = some (.int .i64 (aY)) := (b1.cell (p := ⟨w.heap.size, 1, none⟩) (by first | (simp; done) | (simp; omega) | omega)).trans (by first | with_reducible assumption | (simp [go_sem]; done) | (simp [go_sem, *]; done))
        have g1_0_1 : w1.frozen? ⟨w.heap.size, 1, none⟩ = false := (b1.frozen (p := ⟨w.heap.size, 1, none⟩) (by first | (simp; done) | (simp; omega) | omega)).trans (by first | with_reducible assumption | (simp [go_sem]; done) | (simp [go_sem, *]; done))
        have z1_1 : w.heap.size + 1 < w1.heap.size := by omega
        have k1_1_0 : w1.cell? ⟨w.heap.size + 1, 0, none⟩ = some (.int .i64 (bX)) := (b1.cell (p := ⟨w.heap.size + 1, 0, none⟩) (by first | (simp; done) | (simp; omega) | omega)).trans (by first | with_reducible assumption | (simp [go_sem]; done) | (simp [go_sem, *]; done))
        have g1_1_0 : w1.frozen? ⟨w.heap.size + 1, 0, none⟩ = false := (b1.frozen (p := ⟨w.heap.size + 1, 0, none⟩) (by first | (simp; done) | (simp; omega) | omega)).trans (by first | with_reducible assumption | (simp [go_sem]; done) | (simp [go_sem, *]; done))
        have k1_1_1 : w1.cell? ⟨w.heap.size + 1, 1, none⟩ = some (.int .i64 (bY)) := (b1.cell (p := ⟨w.heap.size + 1, 1, none⟩) (by first | (simp; done) | (simp; omega) | omega)).trans (by first | with_reducible assumption | (simp [go_sem]; done) | (simp [go_sem, *]; done))
        have g1_1_1 : w1.frozen? ⟨w.heap.size + 1, 1, none⟩ = false := (b1.frozen (p := ⟨w.heap.size + 1, 1, none⟩) (by first | (simp; done) | (simp; omega) | omega)).trans (by first | with_reducible assumption | (simp [go_sem]; done) | (simp [go_sem, *]; done))
        have z1_2 : w.heap.size + 1 + 1 < w1.heap.size := by omega
        have k1_2_0 : w1.cell? ⟨w.heap.size + 1 + 1, 0, none⟩ = some (.int .i64 (0)) := (b1.cell (p := ⟨w.heap.size + 1 + 1, 0, none⟩) (by first | (simp; done) | (simp; omega) | omega)).trans (by first | with_reducible assumption | (simp [go_sem]; done) | (simp [go_sem, *]; done))
        have g1_2_0 : w1.frozen? ⟨w.heap.size + 1 + 1, 0, none⟩ = false := (b1.frozen (p := ⟨w.heap.size + 1 + 1, 0, none⟩) (by first | (simp; done) | (simp; omega) | omega)).trans (by first | with_reducible assumption | (simp [go_sem]; done) | (simp [go_sem, *]; done))
        have k1_2_1 : w1.cell? ⟨w.heap.size + 1 + 1, 1, none⟩ = some (.int .i64 (0)) := (b1.cell (p := ⟨w.heap.size + 1 + 1, 1, none⟩) (by first | (simp; done) | (simp; omega) | omega)).trans (by first | with_reducible assumption | (simp [go_sem]; done) | (simp [go_sem, *]; done))
        have g1_2_1 : w1.frozen? ⟨w.heap.size + 1 + 1, 1, none⟩ = false := (b1.frozen (p := ⟨w.heap.size + 1 + 1, 1, none⟩) (by first | (simp; done) | (simp; omega) | omega)).trans (by first | with_reducible assumption | (simp [go_sem]; done) | (simp [go_sem, *]; done))
        have k1_2_2 : w1.cell? ⟨w.heap.size + 1 + 1, 2, none⟩ = some (.int .i64 (0)) := (b1.cell (p := ⟨w.heap.size + 1 + 1, 2, none⟩) (by first | (simp; done) | (simp; omega) | omega)).trans (by first | with_reducible assumption | (simp [go_sem]; done) | (simp [go_sem, *]; done))
        have g1_2_2 : w1.frozen? ⟨w.heap.size + 1 + 1, 2, none⟩ = false := (b1.frozen (p := ⟨w.heap.size + 1 + 1, 2, none⟩) (by first | (simp; done) | (simp; omega) | omega)).trans (by first | with_reducible assumption | (simp [go_sem]; done) | (simp [go_sem, *]; done))
        go_wp2_with fail
        refine (K1.out _).mono ?_
        rintro e w2 ⟨rfl, b2⟩
        have s2 := b2.size
        try simp at s2
        have z2_0 : w.heap.size < w2.heap.size := by omega
        have k2_0_0 : w2.cell? ⟨w.heap.size, 0, none⟩ = some (.int .i64 (aX)) := (b2.cell (p := ⟨w.heap.size, 0, none⟩) (by first | (simp; done) | (simp; omega) | omega)).trans (by first | with_reducible assumption | (simp [go_sem]; done) | (simp [go_sem, *]; done))
        have g2_0_0 : w2.frozen? ⟨w.heap.size, 0, none⟩ = false := (b2.frozen (p := ⟨w.heap.size, 0, none⟩) (by first | (simp; done) | (simp; omega) | omega)).trans (by first | with_reducible assumption | (simp [go_sem]; done) | (simp [go_sem, *]; done))
        have k2_0_1 : w2.cell? ⟨w.heap.size, 1, none⟩ = some (.int .i64 (aY)) := (b2.cell (p := ⟨w.heap.size, 1, none⟩) (by first | (simp; done) | (simp; omega) | omega)).trans (by first | with_reducible assumption | (simp [go_sem]; done) | (simp [go_sem, *]; done))
        have g2_0_1 : w2.frozen? ⟨w.heap.size, 1, none⟩ = false := (b2.frozen (p := ⟨w.heap.size, 1, none⟩) (by first | (simp; done) | (simp; omega) | omega)).trans (by first | with_reducible assumption | (simp [go_sem]; done) | (simp [go_sem, *]; done))
        have z2_1 : w.heap.size + 1 < w2.heap.size := by omega
        have k2_1_0 : w2.cell? ⟨w.heap.size + 1, 0, none⟩ = some (.int .i64 (bX)) := (b2.cell (p := ⟨w.heap.size + 1, 0, none⟩) (by first | (simp; done) | (simp; omega) | omega)).trans (by first | with_reducible assumption | (simp [go_sem]; done) | (simp [go_sem, *]; done))
        have g2_1_0 : w2.frozen? ⟨w.heap.size + 1, 0, none⟩ = false := (b2.frozen (p := ⟨w.heap.size + 1, 0, none⟩) (by first | (simp; done) | (simp; omega) | omega)).trans (by first | with_reducible assumption | (simp [go_sem]; done) | (simp [go_sem, *]; done))
        have k2_1_1 : w2.cell? ⟨w.heap.size + 1, 1, none⟩ = some (.int .i64 (bY)) := (b2.cell (p := ⟨w.heap.size + 1, 1, none⟩) (by first | (simp; done) | (simp; omega) | omega)).trans (by first | with_reducible assumption | (simp [go_sem]; done) | (simp [go_sem, *]; done))
        have g2_1_1 : w2.frozen? ⟨w.heap.size + 1, 1, none⟩ = false := (b2.frozen (p := ⟨w.heap.size + 1, 1, none⟩) (by first | (simp; done) | (simp; omega) | omega)).trans (by first | with_reducible assumption | (simp [go_sem]; done) | (simp [go_sem, *]; done))
        have z2_2 : w.heap.size + 1 + 1 < w2.heap.size := by omega
        have k2_2_0 : w2.cell? ⟨w.heap.size + 1 + 1, 0, none⟩ = some (.int .i64 (0)) := (b2.cell (p := ⟨w.heap.size + 1 + 1, 0, none⟩) (by first | (simp; done) | (simp; omega) | omega)).trans (by first | with_reducible assumption | (simp [go_sem]; done) | (simp [go_sem, *]; done))
        have g2_2_0 : w2.frozen? ⟨w.heap.size + 1 + 1, 0, none⟩ = false := (b2.frozen (p := ⟨w.heap.size + 1 + 1, 0, none⟩) (by first | (simp; done) | (simp; omega) | omega)).trans (by first | with_reducible assumption | (simp [go_sem]; done) | (simp [go_sem, *]; done))
        have k2_2_1 : w2.cell? ⟨w.heap.size + 1 + 1, 1, none⟩ = some (.int .i64 (0)) := (b2.cell (p := ⟨w.heap.size + 1 + 1, 1, none⟩) (by first | (simp; done) | (simp; omega) | omega)).trans (by first | with_reducible assumption | (simp [go_sem]; done) | (simp [go_sem, *]; done))
        have g2_2_1 : w2.frozen? ⟨w.heap.size + 1 + 1, 1, none⟩ = false := (b2.frozen (p := ⟨w.heap.size + 1 + 1, 1, none⟩) (by first | (simp; done) | (simp; omega) | omega)).trans (by first | with_reducible assumption | (simp [go_sem]; done) | (simp [go_sem, *]; done))
        have k2_2_2 : w2.cell? ⟨w.heap.size + 1 + 1, 2, none⟩ = some (.int .i64 (0)) := (b2.cell (p := ⟨w.heap.size + 1 + 1, 2, none⟩) (by first | (simp; done) | (simp; omega) | omega)).trans (by first | with_reducible assumption | (simp [go_sem]; done) | (simp [go_sem, *]; done))
        have g2_2_2 : w2.frozen? ⟨w.heap.size + 1 + 1, 2, none⟩ = false := (b2.frozen (p := ⟨w.heap.size + 1 + 1, 2, none⟩) (by first | (simp; done) | (simp; omega) | omega)).trans (by first | with_reducible assumption | (simp [go_sem]; done) | (simp [go_sem, *]; done))
        clear k1_0_0 g1_0_0 k1_0_1 g1_0_1 k1_1_0 g1_1_0 k1_1_1 g1_1_1 k1_2_0 g1_2_0 k1_2_1 g1_2_1 k1_2_2 g1_2_2
        go_wp2_with fail
        refine (K2.out _).mono ?_
        rintro e w3 ⟨rfl, b3⟩
        have s3 := b3.size
        try simp at s3
        have z3_0 : w.heap.size < w3.heap.size := by omega
        have k3_0_0 : w3.cell? ⟨w.heap.size, 0, none⟩ = some (.int .i64 (aX)) := (b3.cell (p := ⟨w.heap.size, 0, none⟩) (by first | (simp; done) | (simp; omega) | omega)).trans (by first | with_reducible assumption | (simp [go_sem]; done) | (simp [go_sem, *]; done))
        have g3_0_0 : w3.frozen? ⟨w.heap.size, 0, none⟩ = false := (b3.frozen (p := ⟨w.heap.size, 0, none⟩) (by first | (simp; done) | (simp; omega) | omega)).trans (by first | with_reducible assumption | (simp [go_sem]; done) | (simp [go_sem, *]; done))
        have k3_0_1 : w3.cell? ⟨w.heap.size, 1, none⟩ = some (.int .i64 (aY)) := (b3.cell (p := ⟨w.heap.size, 1, none⟩) (by first | (simp; done) | (simp; omega) | omega)).trans (by first | with_reducible assumption | (simp [go_sem]; done) | (simp [go_sem, *]; done))
        have g3_0_1 : w3.frozen? ⟨w.heap.size, 1, none⟩ = false := (b3.frozen (p := ⟨w.heap.size, 1, none⟩) (by first | (simp; done) | (simp; omega) | omega)).trans (by first | with_reducible assumption | (simp [go_sem]; done) | (simp [go_sem, *]; done))
        have z3_1 : w.heap.size + 1 < w3.heap.size := by omega
        have k3_1_0 : w3.cell? ⟨w.heap.size + 1, 0, none⟩ = some (.int .i64 (bX)) := (b3.cell (p := ⟨w.heap.size + 1, 0, none⟩) (by first | (simp; done) | (simp; omega) | omega)).trans (by first | with_reducible assumption | (simp [go_sem]; done) | (simp [go_sem, *]; done))
        have g3_1_0 : w3.frozen? ⟨w.heap.size + 1, 0, none⟩ = false := (b3.frozen (p := ⟨w.heap.size + 1, 0, none⟩) (by first | (simp; done) | (simp; omega) | omega)).trans (by first | with_reducible assumption | (simp [go_sem]; done) | (simp [go_sem, *]; done))
        have k3_1_1 : w3.cell? ⟨w.heap.size + 1, 1, none⟩ = some (.int .i64 (bY)) := (b3.cell (p := ⟨w.heap.size + 1, 1, none⟩) (by first | (simp; done) | (simp; omega) | omega)).trans (by first | with_reducible assumption | (simp [go_sem]; done) | (simp [go_sem, *]; done))
        have g3_1_1 : w3.frozen? ⟨w.heap.size + 1, 1, none⟩ = false := (b3.frozen (p := ⟨w.heap.size + 1, 1, none⟩) (by first | (simp; done) | (simp; omega) | omega)).trans (by first | with_reducible assumption | (simp [go_sem]; done) | (simp [go_sem, *]; done))
        have z3_2 : w.heap.size + 1 + 1 < w3.heap.size := by omega
        have k3_2_0 : w3.cell? ⟨w.heap.size + 1 + 1, 0, none⟩ = some (.int .i64 (0)) := (b3.cell (p := ⟨w.heap.size + 1 + 1, 0, none⟩) (by first | (simp; done) | (simp; omega) | omega)).trans (by first | with_reducible assumption | (simp [go_sem]; done) | (simp [go_sem, *]; done))
        have g3_2_0 : w3.frozen? ⟨w.heap.size + 1 + 1, 0, none⟩ = false := (b3.frozen (p := ⟨w.heap.size + 1 + 1, 0, none⟩) (by first | (simp; done) | (simp; omega) | omega)).trans (by first | with_reducible assumption | (simp [go_sem]; done) | (simp [go_sem, *]; done))
        have k3_2_1 : w3.cell? ⟨w.heap.size + 1 + 1, 1, none⟩ = some (.int .i64 (0)) := (b3.cell (p := ⟨w.heap.size + 1 + 1, 1, none⟩) (by first | (simp; done) | (simp; omega) | omega)).trans (by first | with_reducible assumption | (simp [go_sem]; done) | (simp [go_sem, *]; done))
        have g3_2_1 : w3.frozen? ⟨w.heap.size + 1 + 1, 1, none⟩ = false := (b3.frozen (p := ⟨w.heap.size + 1 + 1, 1, none⟩) (by first | (simp; done) | (simp; omega) | omega)).trans (by first | with_reducible assumption | (simp [go_sem]; done) | (simp [go_sem, *]; done))
        have k3_2_2 : w3.cell? ⟨w.heap.size + 1 + 1, 2, none⟩ = some (.int .i64 (0)) := (b3.cell (p := ⟨w.heap.size + 1 + 1, 2, none⟩) (by first | (simp; done) | (simp; omega) | omega)).trans (by first | with_reducible assumption | (simp [go_sem]; done) | (simp [go_sem, *]; done))
        have g3_2_2 : w3.frozen? ⟨w.heap.size + 1 + 1, 2, none⟩ = false := (b3.frozen (p := ⟨w.heap.size + 1 + 1, 2, none⟩) (by first | (simp; done) | (simp; omega) | omega)).trans (by first | with_reducible assumption | (simp [go_sem]; done) | (simp [go_sem, *]; done))
        have z3_3 : w2.heap.size < w3.heap.size := by omega
        have k3_3_0 : w3.cell? ⟨w2.heap.size, 0, none⟩ = some (.int .i64 (DX)) := (b3.cell (p := ⟨w2.heap.size, 0, none⟩) (by first | (simp; done) | (simp; omega) | omega)).trans (by first | with_reducible assumption | (simp [go_sem]; done) | (simp [go_sem, *]; done))
        have g3_3_0 : w3.frozen? ⟨w2.heap.size, 0, none⟩ = false := (b3.frozen (p := ⟨w2.heap.size, 0, none⟩) (by first | (simp; done) | (simp; omega) | omega)).trans (by first | with_reducible assumption | (simp [go_sem]; done) | (simp [go_sem, *]; done))
        have k3_3_1 : w3.cell? ⟨w2.heap.size, 1, none⟩ = some (.int .i64 (DY)) := (b3.cell (p := ⟨w2.heap.size, 1, none⟩) (by first | (simp; done) | (simp; omega) | omega)).trans (by first | with_reducible assumption | (simp [go_sem]; done) | (simp [go_sem, *]; done))
        have g3_3_1 : w3.frozen? ⟨w2.heap.size, 1, none⟩ = false := (b3.frozen (p := ⟨w2.heap.size, 1, none⟩) (by first | (simp; done) | (simp; omega) | omega)).trans (by first | with_reducible assumption | (simp [go_sem]; done) | (simp [go_sem, *]; done))
        clear k2_0_0 g2_0_0 k2_0_1 g2_0_1 k2_1_0 g2_1_0 k2_1_1 g2_1_1 k2_2_0 g2_2_0 k2_2_1 g2_2_1 k2_2_2 g2_2_2
        go_wp2
        all_goals (try (exfalso; omega))
        have H1 := Lib.hid (IntWalk.i64_in (-DX) (by omega))
        have H2 : Hid (IntKind.i64.wrap (-DY.tdiv G) = LA) := Lib.hid (by rw [← Int.tdiv_neg, E3.out]; exact IntWalk.i64_in _ (by omega))
        have H3 : Hid (IntKind.i64.wrap (-(-DX).tdiv G) = LB) := Lib.hid (by rw [← Int.tdiv_neg, E4.out]; exact IntWalk.i64_in _ (by omega))
        go_wp2
        have A3_0 : ∀ w', HldHi (w2.heap.size) w3 w' → w'.cell? ⟨w2.heap.size, 0, none⟩ = some (.int .i64 (DX)) := fun w' h => h.cell (by omega) (by first | omega | (simp; done) | (simp; omega)) (by first | with_reducible assumption | (simp [go_sem]; done) | (simp [go_sem, *]; done))
        have A3_1 : ∀ w', HldHi (w2.heap.size) w3 w' → w'.cell? ⟨w2.heap.size, 1, none⟩ = some (.int .i64 (DY)) := fun w' h => h.cell (by omega) (by first | omega | (simp; done) | (simp; omega)) (by first | with_reducible assumption | (simp [go_sem]; done) | (simp [go_sem, *]; done))
        go_region_held3 (fun w' => HldHi (w2.heap.size) w3 w') ((repeat (first | with_reducible assumption | with_reducible exact HldHi.start _ _ | with_reducible exact HldHi.refl _ _ | with_reducible refine HldHi.drew ?_ | with_reducible refine HldHi.alloc ?_ _ | with_reducible refine HldHi.set ?_ (by dsimp only; omega) _ | with_reducible refine HldHi.setN ?_ (by first | (simp; done) | (simp; omega)) _))) (fail)
        all_goals simp only [H1.out, H2.out, H3.out]
        all_goals go_wp2
        all_goals (refine bodyPost_ret (v := .tuple #[.agg #[.int .i64 LA, .int .i64 LB, .int .i64 (ltC aX aY bX bY)], .bool true]) (by simp [results, Try.results14, go_sem, EC.out, *]) rfl ⟨rfl, ?_⟩)
        all_goals (repeat (first | with_reducible exact Below.refl _ _ | with_reducible refine bl_alloc ?_ _ | with_reducible refine bl_drew ?_ | with_reducible refine bl_set ?_ (by first | (simp; done) | (simp; omega)) _ | with_reducible refine bl_call (by assumption) ?_))
      · by_cases c2 : bY - aY = 0
        · by_cases c3 : aX - bX < 0
          · have hne : ¬ (aX = bX ∧ aY = bY) := by omega
            have hk : ltOk aX aY bX bY = true := by simp [ltOk, hv, hne]
            have rA : LtA aX aY bX bY = ltA aX aY bX bY := by simp [LtA, hk]
            have rB : LtB aX aY bX bY = ltB aX aY bX bY := by simp [LtB, hk]
            have rC : LtC aX aY bX bY = ltC aX aY bX bY := by simp [LtC, hk]
            rw [rA, rB, rC, hk]
            clear rA rB rC hk
            obtain ⟨hpa, hpb⟩ : ptB aX aY = true ∧ ptB bX bY = true := by simpa [v2B] using hv
            obtain ⟨⟨_, _⟩, ⟨_, _⟩⟩ := ptB_true hpa
            obtain ⟨⟨_, _⟩, ⟨_, _⟩⟩ := ptB_true hpb
            obtain ⟨⟨q1a, q1b⟩, ⟨q2a, q2b⟩⟩ := lt_bd aX aY bX bY hv
            clear hpa hpb
            have hG : gcdI (bX - aX) (bY - aY) = gcdI (bY - aY) (aX - bX) := by
              have e : aX - bX = -(bX - aX) := by omega
              rw [e, gcdI_neg2]; unfold gcdI; rw [Int.gcd_comm]
            have gp := gcd_pos2 (bY - aY) (aX - bX) (by omega)
            have gu := gcdI_le (bY - aY) (aX - bX) 2000 (by omega) (by omega)
            have hn : bY - aY < 0 ∨ (bY - aY = 0 ∧ aX - bX < 0) := by omega
            obtain ⟨-, -, -, e3, e4⟩ := lt_neg aX aY bX bY hne hn
            have K1 : Hid (∀ W : World, Calls Try.prog 43 #[.agg #[.int .i64 bX, .int .i64 bY], .agg #[.int .i64 aX, .int .i64 aY]] W fun e w' => e = .returned (.agg #[.int .i64 (bX - aX), .int .i64 (bY - aY)]) ∧ Below W.heap.size W w') := Lib.hid fun W => by
              have h := impl_Point_minus (bX) (bY) (aX) (aY) W (by omega) (by omega) (by omega) (by omega)
              exact h
            have K2 : Hid (∀ W : World, Calls Try.prog 44 #[.int .i64 (bX - aX), .int .i64 (bY - aY)] W fun e w' => e = .returned (.int .i64 (gcdI (bY - aY) (aX - bX))) ∧ Below W.heap.size W w') := Lib.hid fun W => by
              have h := impl_divisor (bX - aX) (bY - aY) W (by omega) (by omega) (by omega) (by omega)
              rw [hG] at h
              exact h
            obtain ⟨m1l, m1u⟩ := mul_bd (ltA aX aY bX bY) aX 2000 1000 (by omega) (by omega) (by omega) (by omega)
            obtain ⟨m2l, m2u⟩ := mul_bd (ltB aX aY bX bY) aY 2000 1000 (by omega) (by omega) (by omega) (by omega)
            have hB : aX - bX = -(bX - aX) := by omega
            have eC : ltA aX aY bX bY * aX + ltB aX aY bX bY * aY = ltC aX aY bX bY := rfl
            generalize gcdI (bY - aY) (aX - bX) = G at *
            generalize ltA aX aY bX bY = LA at *
            generalize ltB aX aY bX bY = LB at *
            rw [hB] at e4
            have n1 : ¬ bY - aY < 0 := by omega
            have n2 : (bY - aY == 0) = true := by simp; omega
            have n3 : 0 < bX - aX := by omega
            have dxl : -2000 ≤ bX - aX := by omega
            have dxu : bX - aX ≤ 2000 := by omega
            have dyl : -2000 ≤ bY - aY := by omega
            have dyu : bY - aY ≤ 2000 := by omega
            clear c1 c2 c3
            clear hne hn hB hG
            generalize bX - aX = DX at *
            generalize bY - aY = DY at *
            have E3 := Lib.hid e3
            have E4 := Lib.hid e4
            have EC := Lib.hid eC
            clear e3 e4 eC
            have gnz : ¬ G = 0 := by omega
            have gnz2 : ¬ -G = 0 := by omega
            obtain ⟨t1l, t1u⟩ := tdiv_bd DY G 2000 (by omega)
            obtain ⟨t2l, t2u⟩ := tdiv_bd (-DX) G 2000 (by omega)
            obtain ⟨t3l, t3u⟩ := tdiv_bd DY (-G) 2000 (by omega)
            obtain ⟨t4l, t4u⟩ := tdiv_bd (-DX) (-G) 2000 (by omega)
            have i1 : (aX == bX) = false := by simp [e1]
            clear e1
            go_enter Try.func14, Try.ntmps14
            go_wp2_with fail
            refine (impl_allValid2 _ _ aX aY bX bY _ (by simp) ⟨by simp [go_sem], by simp [go_sem], by simp [go_sem], by simp [go_sem]⟩).mono ?_
            rintro e w1 ⟨rfl, b1⟩
            have s1 := b1.size
            try simp at s1
            have z1_0 : w.heap.size < w1.heap.size := by omega
            have k1_0_0 : w1.cell? ⟨w.heap.size, 0, none⟩ = some (.int .i64 (aX)) := (b1.cell (p := ⟨w.heap.size, 0, none⟩) (by first | (simp; done) | (simp; omega) | omega)).trans (by first | with_reducible assumption | (simp [go_sem]; done) | (simp [go_sem, *]; done))
            have g1_0_0 : w1.frozen? ⟨w.heap.size, 0, none⟩ = false := (b1.frozen (p := ⟨w.heap.size, 0, none⟩) (by first | (simp; done) | (simp; omega) | omega)).trans (by first | with_reducible assumption | (simp [go_sem]; done) | (simp [go_sem, *]; done))
            have k1_0_1 : w1.cell? ⟨w.heap.size, 1, none⟩ = some (.int .i64 (aY)) := (b1.cell (p := ⟨w.heap.size, 1, none⟩) (by first | (simp; done) | (simp; omega) | omega)).trans (by first | with_reducible assumption | (simp [go_sem]; done) | (simp [go_sem, *]; done))
            have g1_0_1 : w1.frozen? ⟨w.heap.size, 1, none⟩ = false := (b1.frozen (p := ⟨w.heap.size, 1, none⟩) (by first | (simp; done) | (simp; omega) | omega)).trans (by first | with_reducible assumption | (simp [go_sem]; done) | (simp [go_sem, *]; done))
            have z1_1 : w.heap.size + 1 < w1.heap.size := by omega
            have k1_1_0 : w1.cell? ⟨w.heap.size + 1, 0, none⟩ = some (.int .i64 (bX)) := (b1.cell (p := ⟨w.heap.size + 1, 0, none⟩) (by first | (simp; done) | (simp; omega) | omega)).trans (by first | with_reducible assumption | (simp [go_sem]; done) | (simp [go_sem, *]; done))
            have g1_1_0 : w1.frozen? ⟨w.heap.size + 1, 0, none⟩ = false := (b1.frozen (p := ⟨w.heap.size + 1, 0, none⟩) (by first | (simp; done) | (simp; omega) | omega)).trans (by first | with_reducible assumption | (simp [go_sem]; done) | (simp [go_sem, *]; done))
            have k1_1_1 : w1.cell? ⟨w.heap.size + 1, 1, none⟩ = some (.int .i64 (bY)) := (b1.cell (p := ⟨w.heap.size + 1, 1, none⟩) (by first | (simp; done) | (simp; omega) | omega)).trans (by first | with_reducible assumption | (simp [go_sem]; done) | (simp [go_sem, *]; done))
            have g1_1_1 : w1.frozen? ⟨w.heap.size + 1, 1, none⟩ = false := (b1.frozen (p := ⟨w.heap.size + 1, 1, none⟩) (by first | (simp; done) | (simp; omega) | omega)).trans (by first | with_reducible assumption | (simp [go_sem]; done) | (simp [go_sem, *]; done))
            have z1_2 : w.heap.size + 1 + 1 < w1.heap.size := by omega
            have k1_2_0 : w1.cell? ⟨w.heap.size + 1 + 1, 0, none⟩ = some (.int .i64 (0)) := (b1.cell (p := ⟨w.heap.size + 1 + 1, 0, none⟩) (by first | (simp; done) | (simp; omega) | omega)).trans (by first | with_reducible assumption | (simp [go_sem]; done) | (simp [go_sem, *]; done))
            have g1_2_0 : w1.frozen? ⟨w.heap.size + 1 + 1, 0, none⟩ = false := (b1.frozen (p := ⟨w.heap.size + 1 + 1, 0, none⟩) (by first | (simp; done) | (simp; omega) | omega)).trans (by first | with_reducible assumption | (simp [go_sem]; done) | (simp [go_sem, *]; done))
            have k1_2_1 : w1.cell? ⟨w.heap.size + 1 + 1, 1, none⟩ = some (.int .i64 (0)) := (b1.cell (p := ⟨w.heap.size + 1 + 1, 1, none⟩) (by first | (simp; done) | (simp; omega) | omega)).trans (by first | with_reducible assumption | (simp [go_sem]; done) | (simp [go_sem, *]; done))
            have g1_2_1 : w1.frozen? ⟨w.heap.size + 1 + 1, 1, none⟩ = false := (b1.frozen (p := ⟨w.heap.size + 1 + 1, 1, none⟩) (by first | (simp; done) | (simp; omega) | omega)).trans (by first | with_reducible assumption | (simp [go_sem]; done) | (simp [go_sem, *]; done))
            have k1_2_2 : w1.cell? ⟨w.heap.size + 1 + 1, 2, none⟩ = some (.int .i64 (0)) := (b1.cell (p := ⟨w.heap.size + 1 + 1, 2, none⟩) (by first | (simp; done) | (simp; omega) | omega)).trans (by first | with_reducible assumption | (simp [go_sem]; done) | (simp [go_sem, *]; done))
            have g1_2_2 : w1.frozen? ⟨w.heap.size + 1 + 1, 2, none⟩ = false := (b1.frozen (p := ⟨w.heap.size + 1 + 1, 2, none⟩) (by first | (simp; done) | (simp; omega) | omega)).trans (by first | with_reducible assumption | (simp [go_sem]; done) | (simp [go_sem, *]; done))
            go_wp2_with fail
            refine (K1.out _).mono ?_
            rintro e w2 ⟨rfl, b2⟩
            have s2 := b2.size
            try simp at s2
            have z2_0 : w.heap.size < w2.heap.size := by omega
            have k2_0_0 : w2.cell? ⟨w.heap.size, 0, none⟩ = some (.int .i64 (aX)) := (b2.cell (p := ⟨w.heap.size, 0, none⟩) (by first | (simp; done) | (simp; omega) | omega)).trans (by first | with_reducible assumption | (simp [go_sem]; done) | (simp [go_sem, *]; done))
            have g2_0_0 : w2.frozen? ⟨w.heap.size, 0, none⟩ = false := (b2.frozen (p := ⟨w.heap.size, 0, none⟩) (by first | (simp; done) | (simp; omega) | omega)).trans (by first | with_reducible assumption | (simp [go_sem]; done) | (simp [go_sem, *]; done))
            have k2_0_1 : w2.cell? ⟨w.heap.size, 1, none⟩ = some (.int .i64 (aY)) := (b2.cell (p := ⟨w.heap.size, 1, none⟩) (by first | (simp; done) | (simp; omega) | omega)).trans (by first | with_reducible assumption | (simp [go_sem]; done) | (simp [go_sem, *]; done))
            have g2_0_1 : w2.frozen? ⟨w.heap.size, 1, none⟩ = false := (b2.frozen (p := ⟨w.heap.size, 1, none⟩) (by first | (simp; done) | (simp; omega) | omega)).trans (by first | with_reducible assumption | (simp [go_sem]; done) | (simp [go_sem, *]; done))
            have z2_1 : w.heap.size + 1 < w2.heap.size := by omega
            have k2_1_0 : w2.cell? ⟨w.heap.size + 1, 0, none⟩ = some (.int .i64 (bX)) := (b2.cell (p := ⟨w.heap.size + 1, 0, none⟩) (by first | (simp; done) | (simp; omega) | omega)).trans (by first | with_reducible assumption | (simp [go_sem]; done) | (simp [go_sem, *]; done))
            have g2_1_0 : w2.frozen? ⟨w.heap.size + 1, 0, none⟩ = false := (b2.frozen (p := ⟨w.heap.size + 1, 0, none⟩) (by first | (simp; done) | (simp; omega) | omega)).trans (by first | with_reducible assumption | (simp [go_sem]; done) | (simp [go_sem, *]; done))
            have k2_1_1 : w2.cell? ⟨w.heap.size + 1, 1, none⟩ = some (.int .i64 (bY)) := (b2.cell (p := ⟨w.heap.size + 1, 1, none⟩) (by first | (simp; done) | (simp; omega) | omega)).trans (by first | with_reducible assumption | (simp [go_sem]; done) | (simp [go_sem, *]; done))
            have g2_1_1 : w2.frozen? ⟨w.heap.size + 1, 1, none⟩ = false := (b2.frozen (p := ⟨w.heap.size + 1, 1, none⟩) (by first | (simp; done) | (simp; omega) | omega)).trans (by first | with_reducible assumption | (simp [go_sem]; done) | (simp [go_sem, *]; done))
            have z2_2 : w.heap.size + 1 + 1 < w2.heap.size := by omega
            have k2_2_0 : w2.cell? ⟨w.heap.size + 1 + 1, 0, none⟩ = some (.int .i64 (0)) := (b2.cell (p := ⟨w.heap.size + 1 + 1, 0, none⟩) (by first | (simp; done) | (simp; omega) | omega)).trans (by first | with_reducible assumption | (simp [go_sem]; done) | (simp [go_sem, *]; done))
            have g2_2_0 : w2.frozen? ⟨w.heap.size + 1 + 1, 0, none⟩ = false := (b2.frozen (p := ⟨w.heap.size + 1 + 1, 0, none⟩) (by first | (simp; done) | (simp; omega) | omega)).trans (by first | with_reducible assumption | (simp [go_sem]; done) | (simp [go_sem, *]; done))
            have k2_2_1 : w2.cell? ⟨w.heap.size + 1 + 1, 1, none⟩ = some (.int .i64 (0)) := (b2.cell (p := ⟨w.heap.size + 1 + 1, 1, none⟩) (by first | (simp; done) | (simp; omega) | omega)).trans (by first | with_reducible assumption | (simp [go_sem]; done) | (simp [go_sem, *]; done))
            have g2_2_1 : w2.frozen? ⟨w.heap.size + 1 + 1, 1, none⟩ = false := (b2.frozen (p := ⟨w.heap.size + 1 + 1, 1, none⟩) (by first | (simp; done) | (simp; omega) | omega)).trans (by first | with_reducible assumption | (simp [go_sem]; done) | (simp [go_sem, *]; done))
            have k2_2_2 : w2.cell? ⟨w.heap.size + 1 + 1, 2, none⟩ = some (.int .i64 (0)) := (b2.cell (p := ⟨w.heap.size + 1 + 1, 2, none⟩) (by first | (simp; done) | (simp; omega) | omega)).trans (by first | with_reducible assumption | (simp [go_sem]; done) | (simp [go_sem, *]; done))
            have g2_2_2 : w2.frozen? ⟨w.heap.size + 1 + 1, 2, none⟩ = false := (b2.frozen (p := ⟨w.heap.size + 1 + 1, 2, none⟩) (by first | (simp; done) | (simp; omega) | omega)).trans (by first | with_reducible assumption | (simp [go_sem]; done) | (simp [go_sem, *]; done))
            clear k1_0_0 g1_0_0 k1_0_1 g1_0_1 k1_1_0 g1_1_0 k1_1_1 g1_1_1 k1_2_0 g1_2_0 k1_2_1 g1_2_1 k1_2_2 g1_2_2
            go_wp2_with fail
            refine (K2.out _).mono ?_
            rintro e w3 ⟨rfl, b3⟩
            have s3 := b3.size
            try simp at s3
            have z3_0 : w.heap.size < w3.heap.size := by omega
            have k3_0_0 : w3.cell? ⟨w.heap.size, 0, none⟩ = some (.int .i64 (aX)) := (b3.cell (p := ⟨w.heap.size, 0, none⟩) (by first | (simp; done) | (simp; omega) | omega)).trans (by first | with_reducible assumption | (simp [go_sem]; done) | (simp [go_sem, *]; done))
            have g3_0_0 : w3.frozen? ⟨w.heap.size, 0, none⟩ = false := (b3.frozen (p := ⟨w.heap.size, 0, none⟩) (by first | (simp; done) | (simp; omega) | omega)).trans (by first | with_reducible assumption | (simp [go_sem]; done) | (simp [go_sem, *]; done))
            have k3_0_1 : w3.cell? ⟨w.heap.size, 1, none⟩ = some (.int .i64 (aY)) := (b3.cell (p := ⟨w.heap.size, 1, none⟩) (by first | (simp; done) | (simp; omega) | omega)).trans (by first | with_reducible assumption | (simp [go_sem]; done) | (simp [go_sem, *]; done))
            have g3_0_1 : w3.frozen? ⟨w.heap.size, 1, none⟩ = false := (b3.frozen (p := ⟨w.heap.size, 1, none⟩) (by first | (simp; done) | (simp; omega) | omega)).trans (by first | with_reducible assumption | (simp [go_sem]; done) | (simp [go_sem, *]; done))
            have z3_1 : w.heap.size + 1 < w3.heap.size := by omega
            have k3_1_0 : w3.cell? ⟨w.heap.size + 1, 0, none⟩ = some (.int .i64 (bX)) := (b3.cell (p := ⟨w.heap.size + 1, 0, none⟩) (by first | (simp; done) | (simp; omega) | omega)).trans (by first | with_reducible assumption | (simp [go_sem]; done) | (simp [go_sem, *]; done))
            have g3_1_0 : w3.frozen? ⟨w.heap.size + 1, 0, none⟩ = false := (b3.frozen (p := ⟨w.heap.size + 1, 0, none⟩) (by first | (simp; done) | (simp; omega) | omega)).trans (by first | with_reducible assumption | (simp [go_sem]; done) | (simp [go_sem, *]; done))
            have k3_1_1 : w3.cell? ⟨w.heap.size + 1, 1, none⟩ = some (.int .i64 (bY)) := (b3.cell (p := ⟨w.heap.size + 1, 1, none⟩) (by first | (simp; done) | (simp; omega) | omega)).trans (by first | with_reducible assumption | (simp [go_sem]; done) | (simp [go_sem, *]; done))
            have g3_1_1 : w3.frozen? ⟨w.heap.size + 1, 1, none⟩ = false := (b3.frozen (p := ⟨w.heap.size + 1, 1, none⟩) (by first | (simp; done) | (simp; omega) | omega)).trans (by first | with_reducible assumption | (simp [go_sem]; done) | (simp [go_sem, *]; done))
            have z3_2 : w.heap.size + 1 + 1 < w3.heap.size := by omega
            have k3_2_0 : w3.cell? ⟨w.heap.size + 1 + 1, 0, none⟩ = some (.int .i64 (0)) := (b3.cell (p := ⟨w.heap.size + 1 + 1, 0, none⟩) (by first | (simp; done) | (simp; omega) | omega)).trans (by first | with_reducible assumption | (simp [go_sem]; done) | (simp [go_sem, *]; done))
            have g3_2_0 : w3.frozen? ⟨w.heap.size + 1 + 1, 0, none⟩ = false := (b3.frozen (p := ⟨w.heap.size + 1 + 1, 0, none⟩) (by first | (simp; done) | (simp; omega) | omega)).trans (by first | with_reducible assumption | (simp [go_sem]; done) | (simp [go_sem, *]; done))
            have k3_2_1 : w3.cell? ⟨w.heap.size + 1 + 1, 1, none⟩ = some (.int .i64 (0)) := (b3.cell (p := ⟨w.heap.size + 1 + 1, 1, none⟩) (by first | (simp; done) | (simp; omega) | omega)).trans (by first | with_reducible assumption | (simp [go_sem]; done) | (simp [go_sem, *]; done))
            have g3_2_1 : w3.frozen? ⟨w.heap.size + 1 + 1, 1, none⟩ = false := (b3.frozen (p := ⟨w.heap.size + 1 + 1, 1, none⟩) (by first | (simp; done) | (simp; omega) | omega)).trans (by first | with_reducible assumption | (simp [go_sem]; done) | (simp [go_sem, *]; done))
            have k3_2_2 : w3.cell? ⟨w.heap.size + 1 + 1, 2, none⟩ = some (.int .i64 (0)) := (b3.cell (p := ⟨w.heap.size + 1 + 1, 2, none⟩) (by first | (simp; done) | (simp; omega) | omega)).trans (by first | with_reducible assumption | (simp [go_sem]; done) | (simp [go_sem, *]; done))
            have g3_2_2 : w3.frozen? ⟨w.heap.size + 1 + 1, 2, none⟩ = false := (b3.frozen (p := ⟨w.heap.size + 1 + 1, 2, none⟩) (by first | (simp; done) | (simp; omega) | omega)).trans (by first | with_reducible assumption | (simp [go_sem]; done) | (simp [go_sem, *]; done))
            have z3_3 : w2.heap.size < w3.heap.size := by omega
            have k3_3_0 : w3.cell? ⟨w2.heap.size, 0, none⟩ = some (.int .i64 (DX)) := (b3.cell (p := ⟨w2.heap.size, 0, none⟩) (by first | (simp; done) | (simp; omega) | omega)).trans (by first | with_reducible assumption | (simp [go_sem]; done) | (simp [go_sem, *]; done))
            have g3_3_0 : w3.frozen? ⟨w2.heap.size, 0, none⟩ = false := (b3.frozen (p := ⟨w2.heap.size, 0, none⟩) (by first | (simp; done) | (simp; omega) | omega)).trans (by first | with_reducible assumption | (simp [go_sem]; done) | (simp [go_sem, *]; done))
            have k3_3_1 : w3.cell? ⟨w2.heap.size, 1, none⟩ = some (.int .i64 (DY)) := (b3.cell (p := ⟨w2.heap.size, 1, none⟩) (by first | (simp; done) | (simp; omega) | omega)).trans (by first | with_reducible assumption | (simp [go_sem]; done) | (simp [go_sem, *]; done))
            have g3_3_1 : w3.frozen? ⟨w2.heap.size, 1, none⟩ = false := (b3.frozen (p := ⟨w2.heap.size, 1, none⟩) (by first | (simp; done) | (simp; omega) | omega)).trans (by first | with_reducible assumption | (simp [go_sem]; done) | (simp [go_sem, *]; done))
            clear k2_0_0 g2_0_0 k2_0_1 g2_0_1 k2_1_0 g2_1_0 k2_1_1 g2_1_1 k2_2_0 g2_2_0 k2_2_1 g2_2_1 k2_2_2 g2_2_2
            go_wp2
            all_goals (try (exfalso; omega))
            have H1 := Lib.hid (IntWalk.i64_in (-DX) (by omega))
            have H2 : Hid (IntKind.i64.wrap (-DY.tdiv G) = LA) := Lib.hid (by rw [← Int.tdiv_neg, E3.out]; exact IntWalk.i64_in _ (by omega))
            have H3 : Hid (IntKind.i64.wrap (-(-DX).tdiv G) = LB) := Lib.hid (by rw [← Int.tdiv_neg, E4.out]; exact IntWalk.i64_in _ (by omega))
            go_wp2
            have A3_0 : ∀ w', HldHi (w2.heap.size) w3 w' → w'.cell? ⟨w2.heap.size, 0, none⟩ = some (.int .i64 (DX)) := fun w' h => h.cell (by omega) (by first | omega | (simp; done) | (simp; omega)) (by first | with_reducible assumption | (simp [go_sem]; done) | (simp [go_sem, *]; done))
            have A3_1 : ∀ w', HldHi (w2.heap.size) w3 w' → w'.cell? ⟨w2.heap.size, 1, none⟩ = some (.int .i64 (DY)) := fun w' h => h.cell (by omega) (by first | omega | (simp; done) | (simp; omega)) (by first | with_reducible assumption | (simp [go_sem]; done) | (simp [go_sem, *]; done))
            go_region_held3 (fun w' => HldHi (w2.heap.size) w3 w') ((repeat (first | with_reducible assumption | with_reducible exact HldHi.start _ _ | with_reducible exact HldHi.refl _ _ | with_reducible refine HldHi.drew ?_ | with_reducible refine HldHi.alloc ?_ _ | with_reducible refine HldHi.set ?_ (by dsimp only; omega) _ | with_reducible refine HldHi.setN ?_ (by first | (simp; done) | (simp; omega)) _))) (fail)
            all_goals simp only [H1.out, H2.out, H3.out]
            all_goals go_wp2
            all_goals (refine bodyPost_ret (v := .tuple #[.agg #[.int .i64 LA, .int .i64 LB, .int .i64 (ltC aX aY bX bY)], .bool true]) (by simp [results, Try.results14, go_sem, EC.out, *]) rfl ⟨rfl, ?_⟩)
            all_goals (repeat (first | with_reducible exact Below.refl _ _ | with_reducible refine bl_alloc ?_ _ | with_reducible refine bl_drew ?_ | with_reducible refine bl_set ?_ (by first | (simp; done) | (simp; omega)) _ | with_reducible refine bl_call (by assumption) ?_))
          · have hne : ¬ (aX = bX ∧ aY = bY) := by omega
            have hk : ltOk aX aY bX bY = true := by simp [ltOk, hv, hne]
            have rA : LtA aX aY bX bY = ltA aX aY bX bY := by simp [LtA, hk]
            have rB : LtB aX aY bX bY = ltB aX aY bX bY := by simp [LtB, hk]
            have rC : LtC aX aY bX bY = ltC aX aY bX bY := by simp [LtC, hk]
            rw [rA, rB, rC, hk]
            clear rA rB rC hk
            obtain ⟨hpa, hpb⟩ : ptB aX aY = true ∧ ptB bX bY = true := by simpa [v2B] using hv
            obtain ⟨⟨_, _⟩, ⟨_, _⟩⟩ := ptB_true hpa
            obtain ⟨⟨_, _⟩, ⟨_, _⟩⟩ := ptB_true hpb
            obtain ⟨⟨q1a, q1b⟩, ⟨q2a, q2b⟩⟩ := lt_bd aX aY bX bY hv
            clear hpa hpb
            have hG : gcdI (bX - aX) (bY - aY) = gcdI (bY - aY) (aX - bX) := by
              have e : aX - bX = -(bX - aX) := by omega
              rw [e, gcdI_neg2]; unfold gcdI; rw [Int.gcd_comm]
            have gp := gcd_pos2 (bY - aY) (aX - bX) (by omega)
            have gu := gcdI_le (bY - aY) (aX - bX) 2000 (by omega) (by omega)
            have hn : ¬ (bY - aY < 0 ∨ (bY - aY = 0 ∧ aX - bX < 0)) := by omega
            obtain ⟨e3, e4, -⟩ := lt_pos aX aY bX bY hne hn
            have K1 : Hid (∀ W : World, Calls Try.prog 43 #[.agg #[.int .i64 bX, .int .i64 bY], .agg #[.int .i64 aX, .int .i64 aY]] W fun e w' => e = .returned (.agg #[.int .i64 (bX - aX), .int .i64 (bY - aY)]) ∧ Below W.heap.size W w') := Lib.hid fun W => by
              have h := impl_Point_minus (bX) (bY) (aX) (aY) W (by omega) (by omega) (by omega) (by omega)
              exact h
            have K2 : Hid (∀ W : World, Calls Try.prog 44 #[.int .i64 (bX - aX), .int .i64 (bY - aY)] W fun e w' => e = .returned (.int .i64 (gcdI (bY - aY) (aX - bX))) ∧ Below W.heap.size W w') := Lib.hid fun W => by
              have h := impl_divisor (bX - aX) (bY - aY) W (by omega) (by omega) (by omega) (by omega)
              rw [hG] at h
              exact h
            obtain ⟨m1l, m1u⟩ := mul_bd (ltA aX aY bX bY) aX 2000 1000 (by omega) (by omega) (by omega) (by omega)
            obtain ⟨m2l, m2u⟩ := mul_bd (ltB aX aY bX bY) aY 2000 1000 (by omega) (by omega) (by omega) (by omega)
            have hB : aX - bX = -(bX - aX) := by omega
            have eC : ltA aX aY bX bY * aX + ltB aX aY bX bY * aY = ltC aX aY bX bY := rfl
            generalize gcdI (bY - aY) (aX - bX) = G at *
            generalize ltA aX aY bX bY = LA at *
            generalize ltB aX aY bX bY = LB at *
            rw [hB] at e4
            have n1 : ¬ bY - aY < 0 := by omega
            have n2 : (bY - aY == 0) = true := by simp; omega
            have n3 : ¬ 0 < bX - aX := by omega
            have dxl : -2000 ≤ bX - aX := by omega
            have dxu : bX - aX ≤ 2000 := by omega
            have dyl : -2000 ≤ bY - aY := by omega
            have dyu : bY - aY ≤ 2000 := by omega
            clear c1 c2 c3
            clear hne hn hB hG
            generalize bX - aX = DX at *
            generalize bY - aY = DY at *
            have E3 := Lib.hid e3
            have E4 := Lib.hid e4
            have EC := Lib.hid eC
            clear e3 e4 eC
            have gnz : ¬ G = 0 := by omega
            have gnz2 : ¬ -G = 0 := by omega
            obtain ⟨t1l, t1u⟩ := tdiv_bd DY G 2000 (by omega)
            obtain ⟨t2l, t2u⟩ := tdiv_bd (-DX) G 2000 (by omega)
            obtain ⟨t3l, t3u⟩ := tdiv_bd DY (-G) 2000 (by omega)
            obtain ⟨t4l, t4u⟩ := tdiv_bd (-DX) (-G) 2000 (by omega)
            have i1 : (aX == bX) = false := by simp [e1]
            clear e1
            go_enter Try.func14, Try.ntmps14
            go_wp2_with fail
            refine (impl_allValid2 _ _ aX aY bX bY _ (by simp) ⟨by simp [go_sem], by simp [go_sem], by simp [go_sem], by simp [go_sem]⟩).mono ?_
            rintro e w1 ⟨rfl, b1⟩
            have s1 := b1.size
            try simp at s1
            have z1_0 : w.heap.size < w1.heap.size := by omega
            have k1_0_0 : w1.cell? ⟨w.heap.size, 0, none⟩ = some (.int .i64 (aX)) := (b1.cell (p := ⟨w.heap.size, 0, none⟩) (by first | (simp; done) | (simp; omega) | omega)).trans (by first | with_reducible assumption | (simp [go_sem]; done) | (simp [go_sem, *]; done))
            have g1_0_0 : w1.frozen? ⟨w.heap.size, 0, none⟩ = false := (b1.frozen (p := ⟨w.heap.size, 0, none⟩) (by first | (simp; done) | (simp; omega) | omega)).trans (by first | with_reducible assumption | (simp [go_sem]; done) | (simp [go_sem, *]; done))
            have k1_0_1 : w1.cell? ⟨w.heap.size, 1, none⟩ = some (.int .i64 (aY)) := (b1.cell (p := ⟨w.heap.size, 1, none⟩) (by first | (simp; done) | (simp; omega) | omega)).trans (by first | with_reducible assumption | (simp [go_sem]; done) | (simp [go_sem, *]; done))
            have g1_0_1 : w1.frozen? ⟨w.heap.size, 1, none⟩ = false := (b1.frozen (p := ⟨w.heap.size, 1, none⟩) (by first | (simp; done) | (simp; omega) | omega)).trans (by first | with_reducible assumption | (simp [go_sem]; done) | (simp [go_sem, *]; done))
            have z1_1 : w.heap.size + 1 < w1.heap.size := by omega
            have k1_1_0 : w1.cell? ⟨w.heap.size + 1, 0, none⟩ = some (.int .i64 (bX)) := (b1.cell (p := ⟨w.heap.size + 1, 0, none⟩) (by first | (simp; done) | (simp; omega) | omega)).trans (by first | with_reducible assumption | (simp [go_sem]; done) | (simp [go_sem, *]; done))
            have g1_1_0 : w1.frozen? ⟨w.heap.size + 1, 0, none⟩ = false := (b1.frozen (p := ⟨w.heap.size + 1, 0, none⟩) (by first | (simp; done) | (simp; omega) | omega)).trans (by first | with_reducible assumption | (simp [go_sem]; done) | (simp [go_sem, *]; done))
            have k1_1_1 : w1.cell? ⟨w.heap.size + 1, 1, none⟩ = some (.int .i64 (bY)) := (b1.cell (p := ⟨w.heap.size + 1, 1, none⟩) (by first | (simp; done) | (simp; omega) | omega)).trans (by first | with_reducible assumption | (simp [go_sem]; done) | (simp [go_sem, *]; done))
            have g1_1_1 : w1.frozen? ⟨w.heap.size + 1, 1, none⟩ = false := (b1.frozen (p := ⟨w.heap.size + 1, 1, none⟩) (by first | (simp; done) | (simp; omega) | omega)).trans (by first | with_reducible assumption | (simp [go_sem]; done) | (simp [go_sem, *]; done))
            have z1_2 : w.heap.size + 1 + 1 < w1.heap.size := by omega
            have k1_2_0 : w1.cell? ⟨w.heap.size + 1 + 1, 0, none⟩ = some (.int .i64 (0)) := (b1.cell (p := ⟨w.heap.size + 1 + 1, 0, none⟩) (by first | (simp; done) | (simp; omega) | omega)).trans (by first | with_reducible assumption | (simp [go_sem]; done) | (simp [go_sem, *]; done))
            have g1_2_0 : w1.frozen? ⟨w.heap.size + 1 + 1, 0, none⟩ = false := (b1.frozen (p := ⟨w.heap.size + 1 + 1, 0, none⟩) (by first | (simp; done) | (simp; omega) | omega)).trans (by first | with_reducible assumption | (simp [go_sem]; done) | (simp [go_sem, *]; done))
            have k1_2_1 : w1.cell? ⟨w.heap.size + 1 + 1, 1, none⟩ = some (.int .i64 (0)) := (b1.cell (p := ⟨w.heap.size + 1 + 1, 1, none⟩) (by first | (simp; done) | (simp; omega) | omega)).trans (by first | with_reducible assumption | (simp [go_sem]; done) | (simp [go_sem, *]; done))
            have g1_2_1 : w1.frozen? ⟨w.heap.size + 1 + 1, 1, none⟩ = false := (b1.frozen (p := ⟨w.heap.size + 1 + 1, 1, none⟩) (by first | (simp; done) | (simp; omega) | omega)).trans (by first | with_reducible assumption | (simp [go_sem]; done) | (simp [go_sem, *]; done))
            have k1_2_2 : w1.cell? ⟨w.heap.size + 1 + 1, 2, none⟩ = some (.int .i64 (0)) := (b1.cell (p := ⟨w.heap.size + 1 + 1, 2, none⟩) (by first | (simp; done) | (simp; omega) | omega)).trans (by first | with_reducible assumption | (simp [go_sem]; done) | (simp [go_sem, *]; done))
            have g1_2_2 : w1.frozen? ⟨w.heap.size + 1 + 1, 2, none⟩ = false := (b1.frozen (p := ⟨w.heap.size + 1 + 1, 2, none⟩) (by first | (simp; done) | (simp; omega) | omega)).trans (by first | with_reducible assumption | (simp [go_sem]; done) | (simp [go_sem, *]; done))
            go_wp2_with fail
            refine (K1.out _).mono ?_
            rintro e w2 ⟨rfl, b2⟩
            have s2 := b2.size
            try simp at s2
            have z2_0 : w.heap.size < w2.heap.size := by omega
            have k2_0_0 : w2.cell? ⟨w.heap.size, 0, none⟩ = some (.int .i64 (aX)) := (b2.cell (p := ⟨w.heap.size, 0, none⟩) (by first | (simp; done) | (simp; omega) | omega)).trans (by first | with_reducible assumption | (simp [go_sem]; done) | (simp [go_sem, *]; done))
            have g2_0_0 : w2.frozen? ⟨w.heap.size, 0, none⟩ = false := (b2.frozen (p := ⟨w.heap.size, 0, none⟩) (by first | (simp; done) | (simp; omega) | omega)).trans (by first | with_reducible assumption | (simp [go_sem]; done) | (simp [go_sem, *]; done))
            have k2_0_1 : w2.cell? ⟨w.heap.size, 1, none⟩ = some (.int .i64 (aY)) := (b2.cell (p := ⟨w.heap.size, 1, none⟩) (by first | (simp; done) | (simp; omega) | omega)).trans (by first | with_reducible assumption | (simp [go_sem]; done) | (simp [go_sem, *]; done))
            have g2_0_1 : w2.frozen? ⟨w.heap.size, 1, none⟩ = false := (b2.frozen (p := ⟨w.heap.size, 1, none⟩) (by first | (simp; done) | (simp; omega) | omega)).trans (by first | with_reducible assumption | (simp [go_sem]; done) | (simp [go_sem, *]; done))
            have z2_1 : w.heap.size + 1 < w2.heap.size := by omega
            have k2_1_0 : w2.cell? ⟨w.heap.size + 1, 0, none⟩ = some (.int .i64 (bX)) := (b2.cell (p := ⟨w.heap.size + 1, 0, none⟩) (by first | (simp; done) | (simp; omega) | omega)).trans (by first | with_reducible assumption | (simp [go_sem]; done) | (simp [go_sem, *]; done))
            have g2_1_0 : w2.frozen? ⟨w.heap.size + 1, 0, none⟩ = false := (b2.frozen (p := ⟨w.heap.size + 1, 0, none⟩) (by first | (simp; done) | (simp; omega) | omega)).trans (by first | with_reducible assumption | (simp [go_sem]; done) | (simp [go_sem, *]; done))
            have k2_1_1 : w2.cell? ⟨w.heap.size + 1, 1, none⟩ = some (.int .i64 (bY)) := (b2.cell (p := ⟨w.heap.size + 1, 1, none⟩) (by first | (simp; done) | (simp; omega) | omega)).trans (by first | with_reducible assumption | (simp [go_sem]; done) | (simp [go_sem, *]; done))
            have g2_1_1 : w2.frozen? ⟨w.heap.size + 1, 1, none⟩ = false := (b2.frozen (p := ⟨w.heap.size + 1, 1, none⟩) (by first | (simp; done) | (simp; omega) | omega)).trans (by first | with_reducible assumption | (simp [go_sem]; done) | (simp [go_sem, *]; done))
            have z2_2 : w.heap.size + 1 + 1 < w2.heap.size := by omega
            have k2_2_0 : w2.cell? ⟨w.heap.size + 1 + 1, 0, none⟩ = some (.int .i64 (0)) := (b2.cell (p := ⟨w.heap.size + 1 + 1, 0, none⟩) (by first | (simp; done) | (simp; omega) | omega)).trans (by first | with_reducible assumption | (simp [go_sem]; done) | (simp [go_sem, *]; done))
            have g2_2_0 : w2.frozen? ⟨w.heap.size + 1 + 1, 0, none⟩ = false := (b2.frozen (p := ⟨w.heap.size + 1 + 1, 0, none⟩) (by first | (simp; done) | (simp; omega) | omega)).trans (by first | with_reducible assumption | (simp [go_sem]; done) | (simp [go_sem, *]; done))
            have k2_2_1 : w2.cell? ⟨w.heap.size + 1 + 1, 1, none⟩ = some (.int .i64 (0)) := (b2.cell (p := ⟨w.heap.size + 1 + 1, 1, none⟩) (by first | (simp; done) | (simp; omega) | omega)).trans (by first | with_reducible assumption | (simp [go_sem]; done) | (simp [go_sem, *]; done))
            have g2_2_1 : w2.frozen? ⟨w.heap.size + 1 + 1, 1, none⟩ = false := (b2.frozen (p := ⟨w.heap.size + 1 + 1, 1, none⟩) (by first | (simp; done) | (simp; omega) | omega)).trans (by first | with_reducible assumption | (simp [go_sem]; done) | (simp [go_sem, *]; done))
            have k2_2_2 : w2.cell? ⟨w.heap.size + 1 + 1, 2, none⟩ = some (.int .i64 (0)) := (b2.cell (p := ⟨w.heap.size + 1 + 1, 2, none⟩) (by first | (simp; done) | (simp; omega) | omega)).trans (by first | with_reducible assumption | (simp [go_sem]; done) | (simp [go_sem, *]; done))
            have g2_2_2 : w2.frozen? ⟨w.heap.size + 1 + 1, 2, none⟩ = false := (b2.frozen (p := ⟨w.heap.size + 1 + 1, 2, none⟩) (by first | (simp; done) | (simp; omega) | omega)).trans (by first | with_reducible assumption | (simp [go_sem]; done) | (simp [go_sem, *]; done))
            clear k1_0_0 g1_0_0 k1_0_1 g1_0_1 k1_1_0 g1_1_0 k1_1_1 g1_1_1 k1_2_0 g1_2_0 k1_2_1 g1_2_1 k1_2_2 g1_2_2
            go_wp2_with fail
            refine (K2.out _).mono ?_
            rintro e w3 ⟨rfl, b3⟩
            have s3 := b3.size
            try simp at s3
            have z3_0 : w.heap.size < w3.heap.size := by omega
            have k3_0_0 : w3.cell? ⟨w.heap.size, 0, none⟩ = some (.int .i64 (aX)) := (b3.cell (p := ⟨w.heap.size, 0, none⟩) (by first | (simp; done) | (simp; omega) | omega)).trans (by first | with_reducible assumption | (simp [go_sem]; done) | (simp [go_sem, *]; done))
            have g3_0_0 : w3.frozen? ⟨w.heap.size, 0, none⟩ = false := (b3.frozen (p := ⟨w.heap.size, 0, none⟩) (by first | (simp; done) | (simp; omega) | omega)).trans (by first | with_reducible assumption | (simp [go_sem]; done) | (simp [go_sem, *]; done))
            have k3_0_1 : w3.cell? ⟨w.heap.size, 1, none⟩ = some (.int .i64 (aY)) := (b3.cell (p := ⟨w.heap.size, 1, none⟩) (by first | (simp; done) | (simp; omega) | omega)).trans (by first | with_reducible assumption | (simp [go_sem]; done) | (simp [go_sem, *]; done))
            have g3_0_1 : w3.frozen? ⟨w.heap.size, 1, none⟩ = false := (b3.frozen (p := ⟨w.heap.size, 1, none⟩) (by first | (simp; done) | (simp; omega) | omega)).trans (by first | with_reducible assumption | (simp [go_sem]; done) | (simp [go_sem, *]; done))
            have z3_1 : w.heap.size + 1 < w3.heap.size := by omega
            have k3_1_0 : w3.cell? ⟨w.heap.size + 1, 0, none⟩ = some (.int .i64 (bX)) := (b3.cell (p := ⟨w.heap.size + 1, 0, none⟩) (by first | (simp; done) | (simp; omega) | omega)).trans (by first | with_reducible assumption | (simp [go_sem]; done) | (simp [go_sem, *]; done))
            have g3_1_0 : w3.frozen? ⟨w.heap.size + 1, 0, none⟩ = false := (b3.frozen (p := ⟨w.heap.size + 1, 0, none⟩) (by first | (simp; done) | (simp; omega) | omega)).trans (by first | with_reducible assumption | (simp [go_sem]; done) | (simp [go_sem, *]; done))
            have k3_1_1 : w3.cell? ⟨w.heap.size + 1, 1, none⟩ = some (.int .i64 (bY)) := (b3.cell (p := ⟨w.heap.size + 1, 1, none⟩) (by first | (simp; done) | (simp; omega) | omega)).trans (by first | with_reducible assumption | (simp [go_sem]; done) | (simp [go_sem, *]; done))
            have g3_1_1 : w3.frozen? ⟨w.heap.size + 1, 1, none⟩ = false := (b3.frozen (p := ⟨w.heap.size + 1, 1, none⟩) (by first | (simp; done) | (simp; omega) | omega)).trans (by first | with_reducible assumption | (simp [go_sem]; done) | (simp [go_sem, *]; done))
            have z3_2 : w.heap.size + 1 + 1 < w3.heap.size := by omega
            have k3_2_0 : w3.cell? ⟨w.heap.size + 1 + 1, 0, none⟩ = some (.int .i64 (0)) := (b3.cell (p := ⟨w.heap.size + 1 + 1, 0, none⟩) (by first | (simp; done) | (simp; omega) | omega)).trans (by first | with_reducible assumption | (simp [go_sem]; done) | (simp [go_sem, *]; done))
            have g3_2_0 : w3.frozen? ⟨w.heap.size + 1 + 1, 0, none⟩ = false := (b3.frozen (p := ⟨w.heap.size + 1 + 1, 0, none⟩) (by first | (simp; done) | (simp; omega) | omega)).trans (by first | with_reducible assumption | (simp [go_sem]; done) | (simp [go_sem, *]; done))
            have k3_2_1 : w3.cell? ⟨w.heap.size + 1 + 1, 1, none⟩ = some (.int .i64 (0)) := (b3.cell (p := ⟨w.heap.size + 1 + 1, 1, none⟩) (by first | (simp; done) | (simp; omega) | omega)).trans (by first | with_reducible assumption | (simp [go_sem]; done) | (simp [go_sem, *]; done))
            have g3_2_1 : w3.frozen? ⟨w.heap.size + 1 + 1, 1, none⟩ = false := (b3.frozen (p := ⟨w.heap.size + 1 + 1, 1, none⟩) (by first | (simp; done) | (simp; omega) | omega)).trans (by first | with_reducible assumption | (simp [go_sem]; done) | (simp [go_sem, *]; done))
            have k3_2_2 : w3.cell? ⟨w.heap.size + 1 + 1, 2, none⟩ = some (.int .i64 (0)) := (b3.cell (p := ⟨w.heap.size + 1 + 1, 2, none⟩) (by first | (simp; done) | (simp; omega) | omega)).trans (by first | with_reducible assumption | (simp [go_sem]; done) | (simp [go_sem, *]; done))
            have g3_2_2 : w3.frozen? ⟨w.heap.size + 1 + 1, 2, none⟩ = false := (b3.frozen (p := ⟨w.heap.size + 1 + 1, 2, none⟩) (by first | (simp; done) | (simp; omega) | omega)).trans (by first | with_reducible assumption | (simp [go_sem]; done) | (simp [go_sem, *]; done))
            have z3_3 : w2.heap.size < w3.heap.size := by omega
            have k3_3_0 : w3.cell? ⟨w2.heap.size, 0, none⟩ = some (.int .i64 (DX)) := (b3.cell (p := ⟨w2.heap.size, 0, none⟩) (by first | (simp; done) | (simp; omega) | omega)).trans (by first | with_reducible assumption | (simp [go_sem]; done) | (simp [go_sem, *]; done))
            have g3_3_0 : w3.frozen? ⟨w2.heap.size, 0, none⟩ = false := (b3.frozen (p := ⟨w2.heap.size, 0, none⟩) (by first | (simp; done) | (simp; omega) | omega)).trans (by first | with_reducible assumption | (simp [go_sem]; done) | (simp [go_sem, *]; done))
            have k3_3_1 : w3.cell? ⟨w2.heap.size, 1, none⟩ = some (.int .i64 (DY)) := (b3.cell (p := ⟨w2.heap.size, 1, none⟩) (by first | (simp; done) | (simp; omega) | omega)).trans (by first | with_reducible assumption | (simp [go_sem]; done) | (simp [go_sem, *]; done))
            have g3_3_1 : w3.frozen? ⟨w2.heap.size, 1, none⟩ = false := (b3.frozen (p := ⟨w2.heap.size, 1, none⟩) (by first | (simp; done) | (simp; omega) | omega)).trans (by first | with_reducible assumption | (simp [go_sem]; done) | (simp [go_sem, *]; done))
            clear k2_0_0 g2_0_0 k2_0_1 g2_0_1 k2_1_0 g2_1_0 k2_1_1 g2_1_1 k2_2_0 g2_2_0 k2_2_1 g2_2_1 k2_2_2 g2_2_2
            go_wp2
            all_goals (try (exfalso; omega))
            have H1 := Lib.hid (IntWalk.i64_in (-DX) (by omega))
            have H2 : Hid (IntKind.i64.wrap (DY.tdiv G) = LA) := Lib.hid (by rw [E3.out]; exact IntWalk.i64_in _ (by omega))
            have H3 : Hid (IntKind.i64.wrap ((-DX).tdiv G) = LB) := Lib.hid (by rw [E4.out]; exact IntWalk.i64_in _ (by omega))
            go_wp2
            have A3_0 : ∀ w', HldHi (w2.heap.size) w3 w' → w'.cell? ⟨w2.heap.size, 0, none⟩ = some (.int .i64 (DX)) := fun w' h => h.cell (by omega) (by first | omega | (simp; done) | (simp; omega)) (by first | with_reducible assumption | (simp [go_sem]; done) | (simp [go_sem, *]; done))
            have A3_1 : ∀ w', HldHi (w2.heap.size) w3 w' → w'.cell? ⟨w2.heap.size, 1, none⟩ = some (.int .i64 (DY)) := fun w' h => h.cell (by omega) (by first | omega | (simp; done) | (simp; omega)) (by first | with_reducible assumption | (simp [go_sem]; done) | (simp [go_sem, *]; done))
            go_region_held3 (fun w' => HldHi (w2.heap.size) w3 w') ((repeat (first | with_reducible assumption | with_reducible exact HldHi.start _ _ | with_reducible exact HldHi.refl _ _ | with_reducible refine HldHi.drew ?_ | with_reducible refine HldHi.alloc ?_ _ | with_reducible refine HldHi.set ?_ (by dsimp only; omega) _ | with_reducible refine HldHi.setN ?_ (by first | (simp; done) | (simp; omega)) _))) (fail)
            all_goals simp only [H1.out, H2.out, H3.out]
            all_goals go_wp2
            all_goals (refine bodyPost_ret (v := .tuple #[.agg #[.int .i64 LA, .int .i64 LB, .int .i64 (ltC aX aY bX bY)], .bool true]) (by simp [results, Try.results14, go_sem, EC.out, *]) rfl ⟨rfl, ?_⟩)
            all_goals (repeat (first | with_reducible exact Below.refl _ _ | with_reducible refine bl_alloc ?_ _ | with_reducible refine bl_drew ?_ | with_reducible refine bl_set ?_ (by first | (simp; done) | (simp; omega)) _ | with_reducible refine bl_call (by assumption) ?_))
        · have hne : ¬ (aX = bX ∧ aY = bY) := by omega
          have hk : ltOk aX aY bX bY = true := by simp [ltOk, hv, hne]
          have rA : LtA aX aY bX bY = ltA aX aY bX bY := by simp [LtA, hk]
          have rB : LtB aX aY bX bY = ltB aX aY bX bY := by simp [LtB, hk]
          have rC : LtC aX aY bX bY = ltC aX aY bX bY := by simp [LtC, hk]
          rw [rA, rB, rC, hk]
          clear rA rB rC hk
          obtain ⟨hpa, hpb⟩ : ptB aX aY = true ∧ ptB bX bY = true := by simpa [v2B] using hv
          obtain ⟨⟨_, _⟩, ⟨_, _⟩⟩ := ptB_true hpa
          obtain ⟨⟨_, _⟩, ⟨_, _⟩⟩ := ptB_true hpb
          obtain ⟨⟨q1a, q1b⟩, ⟨q2a, q2b⟩⟩ := lt_bd aX aY bX bY hv
          clear hpa hpb
          have hG : gcdI (bX - aX) (bY - aY) = gcdI (bY - aY) (aX - bX) := by
            have e : aX - bX = -(bX - aX) := by omega
            rw [e, gcdI_neg2]; unfold gcdI; rw [Int.gcd_comm]
          have gp := gcd_pos2 (bY - aY) (aX - bX) (by omega)
          have gu := gcdI_le (bY - aY) (aX - bX) 2000 (by omega) (by omega)
          have hn : ¬ (bY - aY < 0 ∨ (bY - aY = 0 ∧ aX - bX < 0)) := by omega
          obtain ⟨e3, e4, -⟩ := lt_pos aX aY bX bY hne hn
          have K1 : Hid (∀ W : World, Calls Try.prog 43 #[.agg #[.int .i64 bX, .int .i64 bY], .agg #[.int .i64 aX, .int .i64 aY]] W fun e w' => e = .returned (.agg #[.int .i64 (bX - aX), .int .i64 (bY - aY)]) ∧ Below W.heap.size W w') := Lib.hid fun W => by
            have h := impl_Point_minus (bX) (bY) (aX) (aY) W (by omega) (by omega) (by omega) (by omega)
            exact h
          have K2 : Hid (∀ W : World, Calls Try.prog 44 #[.int .i64 (bX - aX), .int .i64 (bY - aY)] W fun e w' => e = .returned (.int .i64 (gcdI (bY - aY) (aX - bX))) ∧ Below W.heap.size W w') := Lib.hid fun W => by
            have h := impl_divisor (bX - aX) (bY - aY) W (by omega) (by omega) (by omega) (by omega)
            rw [hG] at h
            exact h
          obtain ⟨m1l, m1u⟩ := mul_bd (ltA aX aY bX bY) aX 2000 1000 (by omega) (by omega) (by omega) (by omega)
          obtain ⟨m2l, m2u⟩ := mul_bd (ltB aX aY bX bY) aY 2000 1000 (by omega) (by omega) (by omega) (by omega)
          have hB : aX - bX = -(bX - aX) := by omega
          have eC : ltA aX aY bX bY * aX + ltB aX aY bX bY * aY = ltC aX aY bX bY := rfl
          generalize gcdI (bY - aY) (aX - bX) = G at *
          generalize ltA aX aY bX bY = LA at *
          generalize ltB aX aY bX bY = LB at *
          rw [hB] at e4
          have n1 : ¬ bY - aY < 0 := by omega
          have n2 : (bY - aY == 0) = false := by simp; omega
          have dxl : -2000 ≤ bX - aX := by omega
          have dxu : bX - aX ≤ 2000 := by omega
          have dyl : -2000 ≤ bY - aY := by omega
          have dyu : bY - aY ≤ 2000 := by omega
          clear c1 c2
          clear hne hn hB hG
          generalize bX - aX = DX at *
          generalize bY - aY = DY at *
          have E3 := Lib.hid e3
          have E4 := Lib.hid e4
          have EC := Lib.hid eC
          clear e3 e4 eC
          have gnz : ¬ G = 0 := by omega
          have gnz2 : ¬ -G = 0 := by omega
          obtain ⟨t1l, t1u⟩ := tdiv_bd DY G 2000 (by omega)
          obtain ⟨t2l, t2u⟩ := tdiv_bd (-DX) G 2000 (by omega)
          obtain ⟨t3l, t3u⟩ := tdiv_bd DY (-G) 2000 (by omega)
          obtain ⟨t4l, t4u⟩ := tdiv_bd (-DX) (-G) 2000 (by omega)
          have i1 : (aX == bX) = false := by simp [e1]
          clear e1
          go_enter Try.func14, Try.ntmps14
          go_wp2_with fail
          refine (impl_allValid2 _ _ aX aY bX bY _ (by simp) ⟨by simp [go_sem], by simp [go_sem], by simp [go_sem], by simp [go_sem]⟩).mono ?_
          rintro e w1 ⟨rfl, b1⟩
          have s1 := b1.size
          try simp at s1
          have z1_0 : w.heap.size < w1.heap.size := by omega
          have k1_0_0 : w1.cell? ⟨w.heap.size, 0, none⟩ = some (.int .i64 (aX)) := (b1.cell (p := ⟨w.heap.size, 0, none⟩) (by first | (simp; done) | (simp; omega) | omega)).trans (by first | with_reducible assumption | (simp [go_sem]; done) | (simp [go_sem, *]; done))
          have g1_0_0 : w1.frozen? ⟨w.heap.size, 0, none⟩ = false := (b1.frozen (p := ⟨w.heap.size, 0, none⟩) (by first | (simp; done) | (simp; omega) | omega)).trans (by first | with_reducible assumption | (simp [go_sem]; done) | (simp [go_sem, *]; done))
          have k1_0_1 : w1.cell? ⟨w.heap.size, 1, none⟩ = some (.int .i64 (aY)) := (b1.cell (p := ⟨w.heap.size, 1, none⟩) (by first | (simp; done) | (simp; omega) | omega)).trans (by first | with_reducible assumption | (simp [go_sem]; done) | (simp [go_sem, *]; done))
          have g1_0_1 : w1.frozen? ⟨w.heap.size, 1, none⟩ = false := (b1.frozen (p := ⟨w.heap.size, 1, none⟩) (by first | (simp; done) | (simp; omega) | omega)).trans (by first | with_reducible assumption | (simp [go_sem]; done) | (simp [go_sem, *]; done))
          have z1_1 : w.heap.size + 1 < w1.heap.size := by omega
          have k1_1_0 : w1.cell? ⟨w.heap.size + 1, 0, none⟩ = some (.int .i64 (bX)) := (b1.cell (p := ⟨w.heap.size + 1, 0, none⟩) (by first | (simp; done) | (simp; omega) | omega)).trans (by first | with_reducible assumption | (simp [go_sem]; done) | (simp [go_sem, *]; done))
          have g1_1_0 : w1.frozen? ⟨w.heap.size + 1, 0, none⟩ = false := (b1.frozen (p := ⟨w.heap.size + 1, 0, none⟩) (by first | (simp; done) | (simp; omega) | omega)).trans (by first | with_reducible assumption | (simp [go_sem]; done) | (simp [go_sem, *]; done))
          have k1_1_1 : w1.cell? ⟨w.heap.size + 1, 1, none⟩ = some (.int .i64 (bY)) := (b1.cell (p := ⟨w.heap.size + 1, 1, none⟩) (by first | (simp; done) | (simp; omega) | omega)).trans (by first | with_reducible assumption | (simp [go_sem]; done) | (simp [go_sem, *]; done))
          have g1_1_1 : w1.frozen? ⟨w.heap.size + 1, 1, none⟩ = false := (b1.frozen (p := ⟨w.heap.size + 1, 1, none⟩) (by first | (simp; done) | (simp; omega) | omega)).trans (by first | with_reducible assumption | (simp [go_sem]; done) | (simp [go_sem, *]; done))
          have z1_2 : w.heap.size + 1 + 1 < w1.heap.size := by omega
          have k1_2_0 : w1.cell? ⟨w.heap.size + 1 + 1, 0, none⟩ = some (.int .i64 (0)) := (b1.cell (p := ⟨w.heap.size + 1 + 1, 0, none⟩) (by first | (simp; done) | (simp; omega) | omega)).trans (by first | with_reducible assumption | (simp [go_sem]; done) | (simp [go_sem, *]; done))
          have g1_2_0 : w1.frozen? ⟨w.heap.size + 1 + 1, 0, none⟩ = false := (b1.frozen (p := ⟨w.heap.size + 1 + 1, 0, none⟩) (by first | (simp; done) | (simp; omega) | omega)).trans (by first | with_reducible assumption | (simp [go_sem]; done) | (simp [go_sem, *]; done))
          have k1_2_1 : w1.cell? ⟨w.heap.size + 1 + 1, 1, none⟩ = some (.int .i64 (0)) := (b1.cell (p := ⟨w.heap.size + 1 + 1, 1, none⟩) (by first | (simp; done) | (simp; omega) | omega)).trans (by first | with_reducible assumption | (simp [go_sem]; done) | (simp [go_sem, *]; done))
          have g1_2_1 : w1.frozen? ⟨w.heap.size + 1 + 1, 1, none⟩ = false := (b1.frozen (p := ⟨w.heap.size + 1 + 1, 1, none⟩) (by first | (simp; done) | (simp; omega) | omega)).trans (by first | with_reducible assumption | (simp [go_sem]; done) | (simp [go_sem, *]; done))
          have k1_2_2 : w1.cell? ⟨w.heap.size + 1 + 1, 2, none⟩ = some (.int .i64 (0)) := (b1.cell (p := ⟨w.heap.size + 1 + 1, 2, none⟩) (by first | (simp; done) | (simp; omega) | omega)).trans (by first | with_reducible assumption | (simp [go_sem]; done) | (simp [go_sem, *]; done))
          have g1_2_2 : w1.frozen? ⟨w.heap.size + 1 + 1, 2, none⟩ = false := (b1.frozen (p := ⟨w.heap.size + 1 + 1, 2, none⟩) (by first | (simp; done) | (simp; omega) | omega)).trans (by first | with_reducible assumption | (simp [go_sem]; done) | (simp [go_sem, *]; done))
          go_wp2_with fail
          refine (K1.out _).mono ?_
          rintro e w2 ⟨rfl, b2⟩
          have s2 := b2.size
          try simp at s2
          have z2_0 : w.heap.size < w2.heap.size := by omega
          have k2_0_0 : w2.cell? ⟨w.heap.size, 0, none⟩ = some (.int .i64 (aX)) := (b2.cell (p := ⟨w.heap.size, 0, none⟩) (by first | (simp; done) | (simp; omega) | omega)).trans (by first | with_reducible assumption | (simp [go_sem]; done) | (simp [go_sem, *]; done))
          have g2_0_0 : w2.frozen? ⟨w.heap.size, 0, none⟩ = false := (b2.frozen (p := ⟨w.heap.size, 0, none⟩) (by first | (simp; done) | (simp; omega) | omega)).trans (by first | with_reducible assumption | (simp [go_sem]; done) | (simp [go_sem, *]; done))
          have k2_0_1 : w2.cell? ⟨w.heap.size, 1, none⟩ = some (.int .i64 (aY)) := (b2.cell (p := ⟨w.heap.size, 1, none⟩) (by first | (simp; done) | (simp; omega) | omega)).trans (by first | with_reducible assumption | (simp [go_sem]; done) | (simp [go_sem, *]; done))
          have g2_0_1 : w2.frozen? ⟨w.heap.size, 1, none⟩ = false := (b2.frozen (p := ⟨w.heap.size, 1, none⟩) (by first | (simp; done) | (simp; omega) | omega)).trans (by first | with_reducible assumption | (simp [go_sem]; done) | (simp [go_sem, *]; done))
          have z2_1 : w.heap.size + 1 < w2.heap.size := by omega
          have k2_1_0 : w2.cell? ⟨w.heap.size + 1, 0, none⟩ = some (.int .i64 (bX)) := (b2.cell (p := ⟨w.heap.size + 1, 0, none⟩) (by first | (simp; done) | (simp; omega) | omega)).trans (by first | with_reducible assumption | (simp [go_sem]; done) | (simp [go_sem, *]; done))
          have g2_1_0 : w2.frozen? ⟨w.heap.size + 1, 0, none⟩ = false := (b2.frozen (p := ⟨w.heap.size + 1, 0, none⟩) (by first | (simp; done) | (simp; omega) | omega)).trans (by first | with_reducible assumption | (simp [go_sem]; done) | (simp [go_sem, *]; done))
          have k2_1_1 : w2.cell? ⟨w.heap.size + 1, 1, none⟩ = some (.int .i64 (bY)) := (b2.cell (p := ⟨w.heap.size + 1, 1, none⟩) (by first | (simp; done) | (simp; omega) | omega)).trans (by first | with_reducible assumption | (simp [go_sem]; done) | (simp [go_sem, *]; done))
          have g2_1_1 : w2.frozen? ⟨w.heap.size + 1, 1, none⟩ = false := (b2.frozen (p := ⟨w.heap.size + 1, 1, none⟩) (by first | (simp; done) | (simp; omega) | omega)).trans (by first | with_reducible assumption | (simp [go_sem]; done) | (simp [go_sem, *]; done))
          have z2_2 : w.heap.size + 1 + 1 < w2.heap.size := by omega
          have k2_2_0 : w2.cell? ⟨w.heap.size + 1 + 1, 0, none⟩ = some (.int .i64 (0)) := (b2.cell (p := ⟨w.heap.size + 1 + 1, 0, none⟩) (by first | (simp; done) | (simp; omega) | omega)).trans (by first | with_reducible assumption | (simp [go_sem]; done) | (simp [go_sem, *]; done))
          have g2_2_0 : w2.frozen? ⟨w.heap.size + 1 + 1, 0, none⟩ = false := (b2.frozen (p := ⟨w.heap.size + 1 + 1, 0, none⟩) (by first | (simp; done) | (simp; omega) | omega)).trans (by first | with_reducible assumption | (simp [go_sem]; done) | (simp [go_sem, *]; done))
          have k2_2_1 : w2.cell? ⟨w.heap.size + 1 + 1, 1, none⟩ = some (.int .i64 (0)) := (b2.cell (p := ⟨w.heap.size + 1 + 1, 1, none⟩) (by first | (simp; done) | (simp; omega) | omega)).trans (by first | with_reducible assumption | (simp [go_sem]; done) | (simp [go_sem, *]; done))
          have g2_2_1 : w2.frozen? ⟨w.heap.size + 1 + 1, 1, none⟩ = false := (b2.frozen (p := ⟨w.heap.size + 1 + 1, 1, none⟩) (by first | (simp; done) | (simp; omega) | omega)).trans (by first | with_reducible assumption | (simp [go_sem]; done) | (simp [go_sem, *]; done))
          have k2_2_2 : w2.cell? ⟨w.heap.size + 1 + 1, 2, none⟩ = some (.int .i64 (0)) := (b2.cell (p := ⟨w.heap.size + 1 + 1, 2, none⟩) (by first | (simp; done) | (simp; omega) | omega)).trans (by first | with_reducible assumption | (simp [go_sem]; done) | (simp [go_sem, *]; done))
          have g2_2_2 : w2.frozen? ⟨w.heap.size + 1 + 1, 2, none⟩ = false := (b2.frozen (p := ⟨w.heap.size + 1 + 1, 2, none⟩) (by first | (simp; done) | (simp; omega) | omega)).trans (by first | with_reducible assumption | (simp [go_sem]; done) | (simp [go_sem, *]; done))
          clear k1_0_0 g1_0_0 k1_0_1 g1_0_1 k1_1_0 g1_1_0 k1_1_1 g1_1_1 k1_2_0 g1_2_0 k1_2_1 g1_2_1 k1_2_2 g1_2_2
          go_wp2_with fail
          refine (K2.out _).mono ?_
          rintro e w3 ⟨rfl, b3⟩
          have s3 := b3.size
          try simp at s3
          have z3_0 : w.heap.size < w3.heap.size := by omega
          have k3_0_0 : w3.cell? ⟨w.heap.size, 0, none⟩ = some (.int .i64 (aX)) := (b3.cell (p := ⟨w.heap.size, 0, none⟩) (by first | (simp; done) | (simp; omega) | omega)).trans (by first | with_reducible assumption | (simp [go_sem]; done) | (simp [go_sem, *]; done))
          have g3_0_0 : w3.frozen? ⟨w.heap.size, 0, none⟩ = false := (b3.frozen (p := ⟨w.heap.size, 0, none⟩) (by first | (simp; done) | (simp; omega) | omega)).trans (by first | with_reducible assumption | (simp [go_sem]; done) | (simp [go_sem, *]; done))
          have k3_0_1 : w3.cell? ⟨w.heap.size, 1, none⟩ = some (.int .i64 (aY)) := (b3.cell (p := ⟨w.heap.size, 1, none⟩) (by first | (simp; done) | (simp; omega) | omega)).trans (by first | with_reducible assumption | (simp [go_sem]; done) | (simp [go_sem, *]; done))
          have g3_0_1 : w3.frozen? ⟨w.heap.size, 1, none⟩ = false := (b3.frozen (p := ⟨w.heap.size, 1, none⟩) (by first | (simp; done) | (simp; omega) | omega)).trans (by first | with_reducible assumption | (simp [go_sem]; done) | (simp [go_sem, *]; done))
          have z3_1 : w.heap.size + 1 < w3.heap.size := by omega
          have k3_1_0 : w3.cell? ⟨w.heap.size + 1, 0, none⟩ = some (.int .i64 (bX)) := (b3.cell (p := ⟨w.heap.size + 1, 0, none⟩) (by first | (simp; done) | (simp; omega) | omega)).trans (by first | with_reducible assumption | (simp [go_sem]; done) | (simp [go_sem, *]; done))
          have g3_1_0 : w3.frozen? ⟨w.heap.size + 1, 0, none⟩ = false := (b3.frozen (p := ⟨w.heap.size + 1, 0, none⟩) (by first | (simp; done) | (simp; omega) | omega)).trans (by first | with_reducible assumption | (simp [go_sem]; done) | (simp [go_sem, *]; done))
          have k3_1_1 : w3.cell? ⟨w.heap.size + 1, 1, none⟩ = some (.int .i64 (bY)) := (b3.cell (p := ⟨w.heap.size + 1, 1, none⟩) (by first | (simp; done) | (simp; omega) | omega)).trans (by first | with_reducible assumption | (simp [go_sem]; done) | (simp [go_sem, *]; done))
          have g3_1_1 : w3.frozen? ⟨w.heap.size + 1, 1, none⟩ = false := (b3.frozen (p := ⟨w.heap.size + 1, 1, none⟩) (by first | (simp; done) | (simp; omega) | omega)).trans (by first | with_reducible assumption | (simp [go_sem]; done) | (simp [go_sem, *]; done))
          have z3_2 : w.heap.size + 1 + 1 < w3.heap.size := by omega
          have k3_2_0 : w3.cell? ⟨w.heap.size + 1 + 1, 0, none⟩ = some (.int .i64 (0)) := (b3.cell (p := ⟨w.heap.size + 1 + 1, 0, none⟩) (by first | (simp; done) | (simp; omega) | omega)).trans (by first | with_reducible assumption | (simp [go_sem]; done) | (simp [go_sem, *]; done))
          have g3_2_0 : w3.frozen? ⟨w.heap.size + 1 + 1, 0, none⟩ = false := (b3.frozen (p := ⟨w.heap.size + 1 + 1, 0, none⟩) (by first | (simp; done) | (simp; omega) | omega)).trans (by first | with_reducible assumption | (simp [go_sem]; done) | (simp [go_sem, *]; done))
          have k3_2_1 : w3.cell? ⟨w.heap.size + 1 + 1, 1, none⟩ = some (.int .i64 (0)) := (b3.cell (p := ⟨w.heap.size + 1 + 1, 1, none⟩) (by first | (simp; done) | (simp; omega) | omega)).trans (by first | with_reducible assumption | (simp [go_sem]; done) | (simp [go_sem, *]; done))
          have g3_2_1 : w3.frozen? ⟨w.heap.size + 1 + 1, 1, none⟩ = false := (b3.frozen (p := ⟨w.heap.size + 1 + 1, 1, none⟩) (by first | (simp; done) | (simp; omega) | omega)).trans (by first | with_reducible assumption | (simp [go_sem]; done) | (simp [go_sem, *]; done))
          have k3_2_2 : w3.cell? ⟨w.heap.size + 1 + 1, 2, none⟩ = some (.int .i64 (0)) := (b3.cell (p := ⟨w.heap.size + 1 + 1, 2, none⟩) (by first | (simp; done) | (simp; omega) | omega)).trans (by first | with_reducible assumption | (simp [go_sem]; done) | (simp [go_sem, *]; done))
          have g3_2_2 : w3.frozen? ⟨w.heap.size + 1 + 1, 2, none⟩ = false := (b3.frozen (p := ⟨w.heap.size + 1 + 1, 2, none⟩) (by first | (simp; done) | (simp; omega) | omega)).trans (by first | with_reducible assumption | (simp [go_sem]; done) | (simp [go_sem, *]; done))
          have z3_3 : w2.heap.size < w3.heap.size := by omega
          have k3_3_0 : w3.cell? ⟨w2.heap.size, 0, none⟩ = some (.int .i64 (DX)) := (b3.cell (p := ⟨w2.heap.size, 0, none⟩) (by first | (simp; done) | (simp; omega) | omega)).trans (by first | with_reducible assumption | (simp [go_sem]; done) | (simp [go_sem, *]; done))
          have g3_3_0 : w3.frozen? ⟨w2.heap.size, 0, none⟩ = false := (b3.frozen (p := ⟨w2.heap.size, 0, none⟩) (by first | (simp; done) | (simp; omega) | omega)).trans (by first | with_reducible assumption | (simp [go_sem]; done) | (simp [go_sem, *]; done))
          have k3_3_1 : w3.cell? ⟨w2.heap.size, 1, none⟩ = some (.int .i64 (DY)) := (b3.cell (p := ⟨w2.heap.size, 1, none⟩) (by first | (simp; done) | (simp; omega) | omega)).trans (by first | with_reducible assumption | (simp [go_sem]; done) | (simp [go_sem, *]; done))
          have g3_3_1 : w3.frozen? ⟨w2.heap.size, 1, none⟩ = false := (b3.frozen (p := ⟨w2.heap.size, 1, none⟩) (by first | (simp; done) | (simp; omega) | omega)).trans (by first | with_reducible assumption | (simp [go_sem]; done) | (simp [go_sem, *]; done))
          clear k2_0_0 g2_0_0 k2_0_1 g2_0_1 k2_1_0 g2_1_0 k2_1_1 g2_1_1 k2_2_0 g2_2_0 k2_2_1 g2_2_1 k2_2_2 g2_2_2
          go_wp2
          all_goals (try (exfalso; omega))
          have H1 := Lib.hid (IntWalk.i64_in (-DX) (by omega))
          have H2 : Hid (IntKind.i64.wrap (DY.tdiv G) = LA) := Lib.hid (by rw [E3.out]; exact IntWalk.i64_in _ (by omega))
          have H3 : Hid (IntKind.i64.wrap ((-DX).tdiv G) = LB) := Lib.hid (by rw [E4.out]; exact IntWalk.i64_in _ (by omega))
          go_wp2
          have A3_0 : ∀ w', HldHi (w2.heap.size) w3 w' → w'.cell? ⟨w2.heap.size, 0, none⟩ = some (.int .i64 (DX)) := fun w' h => h.cell (by omega) (by first | omega | (simp; done) | (simp; omega)) (by first | with_reducible assumption | (simp [go_sem]; done) | (simp [go_sem, *]; done))
          have A3_1 : ∀ w', HldHi (w2.heap.size) w3 w' → w'.cell? ⟨w2.heap.size, 1, none⟩ = some (.int .i64 (DY)) := fun w' h => h.cell (by omega) (by first | omega | (simp; done) | (simp; omega)) (by first | with_reducible assumption | (simp [go_sem]; done) | (simp [go_sem, *]; done))
          go_region_held3 (fun w' => HldHi (w2.heap.size) w3 w') ((repeat (first | with_reducible assumption | with_reducible exact HldHi.start _ _ | with_reducible exact HldHi.refl _ _ | with_reducible refine HldHi.drew ?_ | with_reducible refine HldHi.alloc ?_ _ | with_reducible refine HldHi.set ?_ (by dsimp only; omega) _ | with_reducible refine HldHi.setN ?_ (by first | (simp; done) | (simp; omega)) _))) (fail)
          all_goals simp only [H1.out, H2.out, H3.out]
          all_goals go_wp2
          all_goals (refine bodyPost_ret (v := .tuple #[.agg #[.int .i64 LA, .int .i64 LB, .int .i64 (ltC aX aY bX bY)], .bool true]) (by simp [results, Try.results14, go_sem, EC.out, *]) rfl ⟨rfl, ?_⟩)
          all_goals (repeat (first | with_reducible exact Below.refl _ _ | with_reducible refine bl_alloc ?_ _ | with_reducible refine bl_drew ?_ | with_reducible refine bl_set ?_ (by first | (simp; done) | (simp; omega)) _ | with_reducible refine bl_call (by assumption) ?_))

end Go.Proofs.Ytgnjmcfkehgdfaa
