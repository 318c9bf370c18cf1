/- Contracts of functions that this seat's statements reach: each is shown to compute a plain Lean function, and to leave what was there as it was. No conditions but those in each theorem. -/
import Derived.Test.YtbhcodmpcknllaaB4
import Derived.Test.YtbhcodmpcknllaaPlainT
import Derived.Test.YtbhcodmpcknllaaGn
import Derived.Test.YtbhcodmpcknllaaCut
namespace Go.Proofs.Ytbhcodmpcknllaa
open Go.RowKit
set_option linter.unusedVariables false

open Go.Sort

set_option maxHeartbeats 4000000 in
theorem spec_MulRats (n : Int) (d : Int) (m : Int) (k : Int) (w : World) :
    Calls Try.prog 15 #[.agg #[.int .i64 n, .int .i64 d], .agg #[.int .i64 m, .int .i64 k]] w fun e w' => e = .returned (.tuple #[.agg #[.int .i64 (MuN n d m k), .int .i64 (MuD n d m k)], .bool (MuB n d m k)]) ∧ Below w.heap.size w w' := by
  cases qa : ratB n d with
  | false =>
    have hk : mulOk n d m k = false := by simp [mulOk, rr, qa]
    have r0 : MuN n d m k = 0 := by simp [MuN, hk]
    have r1 : MuD n d m k = 0 := by simp [MuD, hk]
    have r2 : MuB n d m k = false := by simp [MuB, hk]
    rw [r0, r1, r2]
    clear r0 r1 r2 hk
    have K1 : Hid (∀ W : World, Calls Try.prog 53 #[.agg #[.int .i64 n, .int .i64 d]] W fun e w' => e = .returned (.bool false) ∧ Below W.heap.size W w') := Lib.hid fun W => by
      have h := spec_validRat (n) (d) W
      rw [qa] at h
      exact h
    clear qa
    go_enter Try.func15, Try.ntmps15
    go_wp2_with fail
    refine (K1.out _).mono ?_
    rintro e w1 ⟨rfl, b1⟩
    have s1 := b1.size
    try simp at s1
    have z1_0 : w.heap.size < w1.heap.size := by omega
    have k1_0_0 : w1.cell? ⟨w.heap.size, 0, none⟩ = some (.int .i64 (n)) := (b1.cell (p := ⟨w.heap.size, 0, none⟩) (by first | (simp; done) | (simp; omega) | omega)).trans (by first | with_reducible assumption | (simp [go_sem]; done) | (simp [go_sem, *]; done))
    have g1_0_0 : w1.frozen? ⟨w.heap.size, 0, none⟩ = false := (b1.frozen (p := ⟨w.heap.size, 0, none⟩) (by first | (simp; done) | (simp; omega) | omega)).trans (by first | with_reducible assumption | (simp [go_sem]; done) | (simp [go_sem, *]; done))
    have k1_0_1 : w1.cell? ⟨w.heap.size, 1, none⟩ = some (.int .i64 (d)) := (b1.cell (p := ⟨w.heap.size, 1, none⟩) (by first | (simp; done) | (simp; omega) | omega)).trans (by first | with_reducible assumption | (simp [go_sem]; done) | (simp [go_sem, *]; done))
    have g1_0_1 : w1.frozen? ⟨w.heap.size, 1, none⟩ = false := (b1.frozen (p := ⟨w.heap.size, 1, none⟩) (by first | (simp; done) | (simp; omega) | omega)).trans (by first | with_reducible assumption | (simp [go_sem]; done) | (simp [go_sem, *]; done))
    have z1_1 : w.heap.size + 1 < w1.heap.size := by omega
    have k1_1_0 : w1.cell? ⟨w.heap.size + 1, 0, none⟩ = some (.int .i64 (m)) := (b1.cell (p := ⟨w.heap.size + 1, 0, none⟩) (by first | (simp; done) | (simp; omega) | omega)).trans (by first | with_reducible assumption | (simp [go_sem]; done) | (simp [go_sem, *]; done))
    have g1_1_0 : w1.frozen? ⟨w.heap.size + 1, 0, none⟩ = false := (b1.frozen (p := ⟨w.heap.size + 1, 0, none⟩) (by first | (simp; done) | (simp; omega) | omega)).trans (by first | with_reducible assumption | (simp [go_sem]; done) | (simp [go_sem, *]; done))
    have k1_1_1 : w1.cell? ⟨w.heap.size + 1, 1, none⟩ = some (.int .i64 (k)) := (b1.cell (p := ⟨w.heap.size + 1, 1, none⟩) (by first | (simp; done) | (simp; omega) | omega)).trans (by first | with_reducible assumption | (simp [go_sem]; done) | (simp [go_sem, *]; done))
    have g1_1_1 : w1.frozen? ⟨w.heap.size + 1, 1, none⟩ = false := (b1.frozen (p := ⟨w.heap.size + 1, 1, none⟩) (by first | (simp; done) | (simp; omega) | omega)).trans (by first | with_reducible assumption | (simp [go_sem]; done) | (simp [go_sem, *]; done))
    have z1_2 : w.heap.size + 1 + 1 < w1.heap.size := by omega
    have k1_2_0 : w1.cell? ⟨w.heap.size + 1 + 1, 0, none⟩ = some (.int .i64 (0)) := (b1.cell (p := ⟨w.heap.size + 1 + 1, 0, none⟩) (by first | (simp; done) | (simp; omega) | omega)).trans (by first | with_reducible assumption | (simp [go_sem]; done) | (simp [go_sem, *]; done))
    have g1_2_0 : w1.frozen? ⟨w.heap.size + 1 + 1, 0, none⟩ = false := (b1.frozen (p := ⟨w.heap.size + 1 + 1, 0, none⟩) (by first | (simp; done) | (simp; omega) | omega)).trans (by first | with_reducible assumption | (simp [go_sem]; done) | (simp [go_sem, *]; done))
    have k1_2_1 : w1.cell? ⟨w.heap.size + 1 + 1, 1, none⟩ = some (.int .i64 (0)) := (b1.cell (p := ⟨w.heap.size + 1 + 1, 1, none⟩) (by first | (simp; done) | (simp; omega) | omega)).trans (by first | with_reducible assumption | (simp [go_sem]; done) | (simp [go_sem, *]; done))
    have g1_2_1 : w1.frozen? ⟨w.heap.size + 1 + 1, 1, none⟩ = false := (b1.frozen (p := ⟨w.heap.size + 1 + 1, 1, none⟩) (by first | (simp; done) | (simp; omega) | omega)).trans (by first | with_reducible assumption | (simp [go_sem]; done) | (simp [go_sem, *]; done))
    go_wp2
    refine bodyPost_ret (v := .tuple #[.agg #[.int .i64 0, .int .i64 0], .bool false]) (by simp [results, Try.results15, go_sem, *]) rfl ⟨rfl, ?_⟩
    (repeat (first | with_reducible exact Below.refl _ _ | with_reducible refine bl_alloc ?_ _ | with_reducible refine bl_drew ?_ | with_reducible refine bl_set ?_ (by first | (simp; done) | (simp; omega)) _ | with_reducible refine bl_call (by assumption) ?_))
  
  | true =>
    cases qb : ratB m k with
    | false =>
      have hk : mulOk n d m k = false := by simp [mulOk, rr, qa, qb]
      have r0 : MuN n d m k = 0 := by simp [MuN, hk]
      have r1 : MuD n d m k = 0 := by simp [MuD, hk]
      have r2 : MuB n d m k = false := by simp [MuB, hk]
      rw [r0, r1, r2]
      clear r0 r1 r2 hk
      have K1 : Hid (∀ W : World, Calls Try.prog 53 #[.agg #[.int .i64 n, .int .i64 d]] W fun e w' => e = .returned (.bool true) ∧ Below W.heap.size W w') := Lib.hid fun W => by
        have h := spec_validRat (n) (d) W
        rw [qa] at h
        exact h
      have K2 : Hid (∀ W : World, Calls Try.prog 53 #[.agg #[.int .i64 m, .int .i64 k]] W fun e w' => e = .returned (.bool false) ∧ Below W.heap.size W w') := Lib.hid fun W => by
        have h := spec_validRat (m) (k) W
        rw [qb] at h
        exact h
      clear qa qb
      go_enter Try.func15, Try.ntmps15
      go_wp2_with fail
      refine (K1.out _).mono ?_
      rintro e w1 ⟨rfl, b1⟩
      have s1 := b1.size
      try simp at s1
      have z1_0 : w.heap.size < w1.heap.size := by omega
      have k1_0_0 : w1.cell? ⟨w.heap.size, 0, none⟩ = some (.int .i64 (n)) := (b1.cell (p := ⟨w.heap.size, 0, none⟩) (by first | (simp; done) | (simp; omega) | omega)).trans (by first | with_reducible assumption | (simp [go_sem]; done) | (simp [go_sem, *]; done))
      have g1_0_0 : w1.frozen? ⟨w.heap.size, 0, none⟩ = false := (b1.frozen (p := ⟨w.heap.size, 0, none⟩) (by first | (simp; done) | (simp; omega) | omega)).trans (by first | with_reducible assumption | (simp [go_sem]; done) | (simp [go_sem, *]; done))
      have k1_0_1 : w1.cell? ⟨w.heap.size, 1, none⟩ = some (.int .i64 (d)) := (b1.cell (p := ⟨w.heap.size, 1, none⟩) (by first | (simp; done) | (simp; omega) | omega)).trans (by first | with_reducible assumption | (simp [go_sem]; done) | (simp [go_sem, *]; done))
      have g1_0_1 : w1.frozen? ⟨w.heap.size, 1, none⟩ = false := (b1.frozen (p := ⟨w.heap.size, 1, none⟩) (by first | (simp; done) | (simp; omega) | omega)).trans (by first | with_reducible assumption | (simp [go_sem]; done) | (simp [go_sem, *]; done))
      have z1_1 : w.heap.size + 1 < w1.heap.size := by omega
      have k1_1_0 : w1.cell? ⟨w.heap.size + 1, 0, none⟩ = some (.int .i64 (m)) := (b1.cell (p := ⟨w.heap.size + 1, 0, none⟩) (by first | (simp; done) | (simp; omega) | omega)).trans (by first | with_reducible assumption | (simp [go_sem]; done) | (simp [go_sem, *]; done))
      have g1_1_0 : w1.frozen? ⟨w.heap.size + 1, 0, none⟩ = false := (b1.frozen (p := ⟨w.heap.size + 1, 0, none⟩) (by first | (simp; done) | (simp; omega) | omega)).trans (by first | with_reducible assumption | (simp [go_sem]; done) | (simp [go_sem, *]; done))
      have k1_1_1 : w1.cell? ⟨w.heap.size + 1, 1, none⟩ = some (.int .i64 (k)) := (b1.cell (p := ⟨w.heap.size + 1, 1, none⟩) (by first | (simp; done) | (simp; omega) | omega)).trans (by first | with_reducible assumption | (simp [go_sem]; done) | (simp [go_sem, *]; done))
      have g1_1_1 : w1.frozen? ⟨w.heap.size + 1, 1, none⟩ = false := (b1.frozen (p := ⟨w.heap.size + 1, 1, none⟩) (by first | (simp; done) | (simp; omega) | omega)).trans (by first | with_reducible assumption | (simp [go_sem]; done) | (simp [go_sem, *]; done))
      have z1_2 : w.heap.size + 1 + 1 < w1.heap.size := by omega
      have k1_2_0 : w1.cell? ⟨w.heap.size + 1 + 1, 0, none⟩ = some (.int .i64 (0)) := (b1.cell (p := ⟨w.heap.size + 1 + 1, 0, none⟩) (by first | (simp; done) | (simp; omega) | omega)).trans (by first | with_reducible assumption | (simp [go_sem]; done) | (simp [go_sem, *]; done))
      have g1_2_0 : w1.frozen? ⟨w.heap.size + 1 + 1, 0, none⟩ = false := (b1.frozen (p := ⟨w.heap.size + 1 + 1, 0, none⟩) (by first | (simp; done) | (simp; omega) | omega)).trans (by first | with_reducible assumption | (simp [go_sem]; done) | (simp [go_sem, *]; done))
      have k1_2_1 : w1.cell? ⟨w.heap.size + 1 + 1, 1, none⟩ = some (.int .i64 (0)) := (b1.cell (p := ⟨w.heap.size + 1 + 1, 1, none⟩) (by first | (simp; done) | (simp; omega) | omega)).trans (by first | with_reducible assumption | (simp [go_sem]; done) | (simp [go_sem, *]; done))
      have g1_2_1 : w1.frozen? ⟨w.heap.size + 1 + 1, 1, none⟩ = false := (b1.frozen (p := ⟨w.heap.size + 1 + 1, 1, none⟩) (by first | (simp; done) | (simp; omega) | omega)).trans (by first | with_reducible assumption | (simp [go_sem]; done) | (simp [go_sem, *]; done))
      go_wp2_with fail
      refine (K2.out _).mono ?_
      rintro e w2 ⟨rfl, b2⟩
      have s2 := b2.size
      try simp at s2
      have z2_0 : w.heap.size < w2.heap.size := by omega
      have k2_0_0 : w2.cell? ⟨w.heap.size, 0, none⟩ = some (.int .i64 (n)) := (b2.cell (p := ⟨w.heap.size, 0, none⟩) (by first | (simp; done) | (simp; omega) | omega)).trans (by first | with_reducible assumption | (simp [go_sem]; done) | (simp [go_sem, *]; done))
      have g2_0_0 : w2.frozen? ⟨w.heap.size, 0, none⟩ = false := (b2.frozen (p := ⟨w.heap.size, 0, none⟩) (by first | (simp; done) | (simp; omega) | omega)).trans (by first | with_reducible assumption | (simp [go_sem]; done) | (simp [go_sem, *]; done))
      have k2_0_1 : w2.cell? ⟨w.heap.size, 1, none⟩ = some (.int .i64 (d)) := (b2.cell (p := ⟨w.heap.size, 1, none⟩) (by first | (simp; done) | (simp; omega) | omega)).trans (by first | with_reducible assumption | (simp [go_sem]; done) | (simp [go_sem, *]; done))
      have g2_0_1 : w2.frozen? ⟨w.heap.size, 1, none⟩ = false := (b2.frozen (p := ⟨w.heap.size, 1, none⟩) (by first | (simp; done) | (simp; omega) | omega)).trans (by first | with_reducible assumption | (simp [go_sem]; done) | (simp [go_sem, *]; done))
      have z2_1 : w.heap.size + 1 < w2.heap.size := by omega
      have k2_1_0 : w2.cell? ⟨w.heap.size + 1, 0, none⟩ = some (.int .i64 (m)) := (b2.cell (p := ⟨w.heap.size + 1, 0, none⟩) (by first | (simp; done) | (simp; omega) | omega)).trans (by first | with_reducible assumption | (simp [go_sem]; done) | (simp [go_sem, *]; done))
      have g2_1_0 : w2.frozen? ⟨w.heap.size + 1, 0, none⟩ = false := (b2.frozen (p := ⟨w.heap.size + 1, 0, none⟩) (by first | (simp; done) | (simp; omega) | omega)).trans (by first | with_reducible assumption | (simp [go_sem]; done) | (simp [go_sem, *]; done))
      have k2_1_1 : w2.cell? ⟨w.heap.size + 1, 1, none⟩ = some (.int .i64 (k)) := (b2.cell (p := ⟨w.heap.size + 1, 1, none⟩) (by first | (simp; done) | (simp; omega) | omega)).trans (by first | with_reducible assumption | (simp [go_sem]; done) | (simp [go_sem, *]; done))
      have g2_1_1 : w2.frozen? ⟨w.heap.size + 1, 1, none⟩ = false := (b2.frozen (p := ⟨w.heap.size + 1, 1, none⟩) (by first | (simp; done) | (simp; omega) | omega)).trans (by first | with_reducible assumption | (simp [go_sem]; done) | (simp [go_sem, *]; done))
      have z2_2 : w.heap.size + 1 + 1 < w2.heap.size := by omega
      have k2_2_0 : w2.cell? ⟨w.heap.size + 1 + 1, 0, none⟩ = some (.int .i64 (0)) := (b2.cell (p := ⟨w.heap.size + 1 + 1, 0, none⟩) (by first | (simp; done) | (simp; omega) | omega)).trans (by first | with_reducible assumption | (simp [go_sem]; done) | (simp [go_sem, *]; done))
      have g2_2_0 : w2.frozen? ⟨w.heap.size + 1 + 1, 0, none⟩ = false := (b2.frozen (p := ⟨w.heap.size + 1 + 1, 0, none⟩) (by first | (simp; done) | (simp; omega) | omega)).trans (by first | with_reducible assumption | (simp [go_sem]; done) | (simp [go_sem, *]; done))
      have k2_2_1 : w2.cell? ⟨w.heap.size + 1 + 1, 1, none⟩ = some (.int .i64 (0)) := (b2.cell (p := ⟨w.heap.size + 1 + 1, 1, none⟩) (by first | (simp; done) | (simp; omega) | omega)).trans (by first | with_reducible assumption | (simp [go_sem]; done) | (simp [go_sem, *]; done))
      have g2_2_1 : w2.frozen? ⟨w.heap.size + 1 + 1, 1, none⟩ = false := (b2.frozen (p := ⟨w.heap.size + 1 + 1, 1, none⟩) (by first | (simp; done) | (simp; omega) | omega)).trans (by first | with_reducible assumption | (simp [go_sem]; done) | (simp [go_sem, *]; done))
      clear k1_0_0 g1_0_0 k1_0_1 g1_0_1 k1_1_0 g1_1_0 k1_1_1 g1_1_1 k1_2_0 g1_2_0 k1_2_1 g1_2_1
      go_wp2
      refine bodyPost_ret (v := .tuple #[.agg #[.int .i64 0, .int .i64 0], .bool false]) (by simp [results, Try.results15, go_sem, *]) rfl ⟨rfl, ?_⟩
      (repeat (first | with_reducible exact Below.refl _ _ | with_reducible refine bl_alloc ?_ _ | with_reducible refine bl_drew ?_ | with_reducible refine bl_set ?_ (by first | (simp; done) | (simp; omega)) _ | with_reducible refine bl_call (by assumption) ?_))
  
    | true =>
      obtain ⟨⟨ln, un⟩, ⟨ld, ud⟩⟩ := ratB_true qa
      obtain ⟨⟨lm, um⟩, ⟨lk, uk⟩⟩ := ratB_true qb
      have h0 : mulOk n d m k = !mulBig (redN n k) (redN m d) := by simp [mulOk, rr, qa, qb]
      obtain ⟨bx1, bx2⟩ := redN_bd n k 100000000000 ⟨by omega, by omega⟩
      obtain ⟨by1, by2⟩ := redN_bd m d 100000000000 ⟨by omega, by omega⟩
      obtain ⟨cx1, cx2⟩ := redD_bd n k 20000000 ⟨by omega, by omega⟩
      obtain ⟨cy1, cy2⟩ := redD_bd m d 20000000 ⟨by omega, by omega⟩
      have K1 : Hid (∀ W : World, Calls Try.prog 53 #[.agg #[.int .i64 n, .int .i64 d]] W fun e w' => e = .returned (.bool true) ∧ Below W.heap.size W w') := Lib.hid fun W => by
        have h := spec_validRat (n) (d) W
        rw [qa] at h
        exact h
      have K2 : Hid (∀ W : World, Calls Try.prog 53 #[.agg #[.int .i64 m, .int .i64 k]] W fun e w' => e = .returned (.bool true) ∧ Below W.heap.size W w') := Lib.hid fun W => by
        have h := spec_validRat (m) (k) W
        rw [qb] at h
        exact h
      obtain ⟨X, eX⟩ : ∃ v, redN n k = v := ⟨_, rfl⟩
      obtain ⟨XD, eXD⟩ : ∃ v, redD n k = v := ⟨_, rfl⟩
      obtain ⟨Y, eY⟩ : ∃ v, redN m d = v := ⟨_, rfl⟩
      obtain ⟨YD, eYD⟩ : ∃ v, redD m d = v := ⟨_, rfl⟩
      have P1 : Hid (∀ W : World, Calls Try.prog 54 #[.int .i64 n, .int .i64 k] W fun e w' => e = .returned (.agg #[.int .i64 X, .int .i64 XD]) ∧ Below W.heap.size W w') := Lib.hid fun W => by
        have h := spec_ratio n k W (by omega) (by omega) (by omega) (by omega) (by omega)
        rw [eX, eXD] at h
        exact h
      have P2 : Hid (∀ W : World, Calls Try.prog 54 #[.int .i64 m, .int .i64 d] W fun e w' => e = .returned (.agg #[.int .i64 Y, .int .i64 YD]) ∧ Below W.heap.size W w') := Lib.hid fun W => by
        have h := spec_ratio m d W (by omega) (by omega) (by omega) (by omega) (by omega)
        rw [eY, eYD] at h
        exact h
      rw [eX] at bx1 bx2 h0
      rw [eY] at by1 by2 h0
      rw [eXD] at cx1 cx2
      rw [eYD] at cy1 cy2
      have ix1 := iabs_nn0 X
      have iy1 := iabs_nn0 Y
      have ix2 : iabs X ≤ 100000000000 := by unfold iabs; omega
      have iy2 : iabs Y ≤ 100000000000 := by unfold iabs; omega
      have K3 : Hid (∀ W : World, Calls Try.prog 55 #[.int .i64 X] W fun e w' => e = .returned (.int .i64 (iabs X)) ∧ W = w') := Lib.hid fun W => by
        have h := spec_abs (X) W (by omega) (by omega)
        exact h
      have K4 : Hid (∀ W : World, Calls Try.prog 55 #[.int .i64 Y] W fun e w' => e = .returned (.int .i64 (iabs Y)) ∧ W = w') := Lib.hid fun W => by
        have h := spec_abs (Y) W (by omega) (by omega)
        exact h
      by_cases hX : X = 0
      · subst hX
        have ib : mulBig 0 Y = false := by simp [mulBig]
        rw [ib] at h0
        clear ib
        have r0 : MuN n d m k = okN (0) (XD * YD) := by unfold MuN; rw [h0, eX, eY, eXD, eYD]; simp
        have r1 : MuD n d m k = okD (0) (XD * YD) := by unfold MuD; rw [h0, eX, eY, eXD, eYD]; simp
        have r2 : MuB n d m k = ratB (0) (XD * YD) := by unfold MuB; rw [h0, eX, eY, eXD, eYD]; simp
        rw [r0, r1, r2]
        clear r0 r1 r2
        obtain ⟨s1, s2⟩ := mul_bd XD YD 20000000 20000000 (by omega) (by omega) (by omega) (by omega)
        have K5 : Hid (∀ W : World, Calls Try.prog 56 #[.agg #[.int .i64 0, .int .i64 (XD * YD)]] W fun e w' => e = .returned (.tuple #[.agg #[.int .i64 (okN (0) (XD * YD)), .int .i64 (okD (0) (XD * YD))], .bool (ratB (0) (XD * YD))]) ∧ Below W.heap.size W w') := Lib.hid fun W => by
          have h := spec_checked (0) (XD * YD) W
          exact h
        clear h0 eX eY eXD eYD qa qb
        go_enter Try.func15, Try.ntmps15
        go_wp2_with fail
        refine (K1.out _).mono ?_
        rintro e w1 ⟨rfl, b1⟩
        have s1 := b1.size
        try simp at s1
        have z1_0 : w.heap.size < w1.heap.size := by omega
        have k1_0_0 : w1.cell? ⟨w.heap.size, 0, none⟩ = some (.int .i64 (n)) := (b1.cell (p := ⟨w.heap.size, 0, none⟩) (by first | (simp; done) | (simp; omega) | omega)).trans (by first | with_reducible assumption | (simp [go_sem]; done) | (simp [go_sem, *]; done))
        have g1_0_0 : w1.frozen? ⟨w.heap.size, 0, none⟩ = false := (b1.frozen (p := ⟨w.heap.size, 0, none⟩) (by first | (simp; done) | (simp; omega) | omega)).trans (by first | with_reducible assumption | (simp [go_sem]; done) | (simp [go_sem, *]; done))
        have k1_0_1 : w1.cell? ⟨w.heap.size, 1, none⟩ = some (.int .i64 (d)) := (b1.cell (p := ⟨w.heap.size, 1, none⟩) (by first | (simp; done) | (simp; omega) | omega)).trans (by first | with_reducible assumption | (simp [go_sem]; done) | (simp [go_sem, *]; done))
        have g1_0_1 : w1.frozen? ⟨w.heap.size, 1, none⟩ = false := (b1.frozen (p := ⟨w.heap.size, 1, none⟩) (by first | (simp; done) | (simp; omega) | omega)).trans (by first | with_reducible assumption | (simp [go_sem]; done) | (simp [go_sem, *]; done))
        have z1_1 : w.heap.size + 1 < w1.heap.size := by omega
        have k1_1_0 : w1.cell? ⟨w.heap.size + 1, 0, none⟩ = some (.int .i64 (m)) := (b1.cell (p := ⟨w.heap.size + 1, 0, none⟩) (by first | (simp; done) | (simp; omega) | omega)).trans (by first | with_reducible assumption | (simp [go_sem]; done) | (simp [go_sem, *]; done))
        have g1_1_0 : w1.frozen? ⟨w.heap.size + 1, 0, none⟩ = false := (b1.frozen (p := ⟨w.heap.size + 1, 0, none⟩) (by first | (simp; done) | (simp; omega) | omega)).trans (by first | with_reducible assumption | (simp [go_sem]; done) | (simp [go_sem, *]; done))
        have k1_1_1 : w1.cell? ⟨w.heap.size + 1, 1, none⟩ = some (.int .i64 (k)) := (b1.cell (p := ⟨w.heap.size + 1, 1, none⟩) (by first | (simp; done) | (simp; omega) | omega)).trans (by first | with_reducible assumption | (simp [go_sem]; done) | (simp [go_sem, *]; done))
        have g1_1_1 : w1.frozen? ⟨w.heap.size + 1, 1, none⟩ = false := (b1.frozen (p := ⟨w.heap.size + 1, 1, none⟩) (by first | (simp; done) | (simp; omega) | omega)).trans (by first | with_reducible assumption | (simp [go_sem]; done) | (simp [go_sem, *]; done))
        have z1_2 : w.heap.size + 1 + 1 < w1.heap.size := by omega
        have k1_2_0 : w1.cell? ⟨w.heap.size + 1 + 1, 0, none⟩ = some (.int .i64 (0)) := (b1.cell (p := ⟨w.heap.size + 1 + 1, 0, none⟩) (by first | (simp; done) | (simp; omega) | omega)).trans (by first | with_reducible assumption | (simp [go_sem]; done) | (simp [go_sem, *]; done))
        have g1_2_0 : w1.frozen? ⟨w.heap.size + 1 + 1, 0, none⟩ = false := (b1.frozen (p := ⟨w.heap.size + 1 + 1, 0, none⟩) (by first | (simp; done) | (simp; omega) | omega)).trans (by first | with_reducible assumption | (simp [go_sem]; done) | (simp [go_sem, *]; done))
        have k1_2_1 : w1.cell? ⟨w.heap.size + 1 + 1, 1, none⟩ = some (.int .i64 (0)) := (b1.cell (p := ⟨w.heap.size + 1 + 1, 1, none⟩) (by first | (simp; done) | (simp; omega) | omega)).trans (by first | with_reducible assumption | (simp [go_sem]; done) | (simp [go_sem, *]; done))
        have g1_2_1 : w1.frozen? ⟨w.heap.size + 1 + 1, 1, none⟩ = false := (b1.frozen (p := ⟨w.heap.size + 1 + 1, 1, none⟩) (by first | (simp; done) | (simp; omega) | omega)).trans (by first | with_reducible assumption | (simp [go_sem]; done) | (simp [go_sem, *]; done))
        go_wp2_with fail
        refine (K2.out _).mono ?_
        rintro e w2 ⟨rfl, b2⟩
        have s2 := b2.size
        try simp at s2
        have z2_0 : w.heap.size < w2.heap.size := by omega
        have k2_0_0 : w2.cell? ⟨w.heap.size, 0, none⟩ = some (.int .i64 (n)) := (b2.cell (p := ⟨w.heap.size, 0, none⟩) (by first | (simp; done) | (simp; omega) | omega)).trans (by first | with_reducible assumption | (simp [go_sem]; done) | (simp [go_sem, *]; done))
        have g2_0_0 : w2.frozen? ⟨w.heap.size, 0, none⟩ = false := (b2.frozen (p := ⟨w.heap.size, 0, none⟩) (by first | (simp; done) | (simp; omega) | omega)).trans (by first | with_reducible assumption | (simp [go_sem]; done) | (simp [go_sem, *]; done))
        have k2_0_1 : w2.cell? ⟨w.heap.size, 1, none⟩ = some (.int .i64 (d)) := (b2.cell (p := ⟨w.heap.size, 1, none⟩) (by first | (simp; done) | (simp; omega) | omega)).trans (by first | with_reducible assumption | (simp [go_sem]; done) | (simp [go_sem, *]; done))
        have g2_0_1 : w2.frozen? ⟨w.heap.size, 1, none⟩ = false := (b2.frozen (p := ⟨w.heap.size, 1, none⟩) (by first | (simp; done) | (simp; omega) | omega)).trans (by first | with_reducible assumption | (simp [go_sem]; done) | (simp [go_sem, *]; done))
        have z2_1 : w.heap.size + 1 < w2.heap.size := by omega
        have k2_1_0 : w2.cell? ⟨w.heap.size + 1, 0, none⟩ = some (.int .i64 (m)) := (b2.cell (p := ⟨w.heap.size + 1, 0, none⟩) (by first | (simp; done) | (simp; omega) | omega)).trans (by first | with_reducible assumption | (simp [go_sem]; done) | (simp [go_sem, *]; done))
        have g2_1_0 : w2.frozen? ⟨w.heap.size + 1, 0, none⟩ = false := (b2.frozen (p := ⟨w.heap.size + 1, 0, none⟩) (by first | (simp; done) | (simp; omega) | omega)).trans (by first | with_reducible assumption | (simp [go_sem]; done) | (simp [go_sem, *]; done))
        have k2_1_1 : w2.cell? ⟨w.heap.size + 1, 1, none⟩ = some (.int .i64 (k)) := (b2.cell (p := ⟨w.heap.size + 1, 1, none⟩) (by first | (simp; done) | (simp; omega) | omega)).trans (by first | with_reducible assumption | (simp [go_sem]; done) | (simp [go_sem, *]; done))
        have g2_1_1 : w2.frozen? ⟨w.heap.size + 1, 1, none⟩ = false := (b2.frozen (p := ⟨w.heap.size + 1, 1, none⟩) (by first | (simp; done) | (simp; omega) | omega)).trans (by first | with_reducible assumption | (simp [go_sem]; done) | (simp [go_sem, *]; done))
        have z2_2 : w.heap.size + 1 + 1 < w2.heap.size := by omega
        have k2_2_0 : w2.cell? ⟨w.heap.size + 1 + 1, 0, none⟩ = some (.int .i64 (0)) := (b2.cell (p := ⟨w.heap.size + 1 + 1, 0, none⟩) (by first | (simp; done) | (simp; omega) | omega)).trans (by first | with_reducible assumption | (simp [go_sem]; done) | (simp [go_sem, *]; done))
        have g2_2_0 : w2.frozen? ⟨w.heap.size + 1 + 1, 0, none⟩ = false := (b2.frozen (p := ⟨w.heap.size + 1 + 1, 0, none⟩) (by first | (simp; done) | (simp; omega) | omega)).trans (by first | with_reducible assumption | (simp [go_sem]; done) | (simp [go_sem, *]; done))
        have k2_2_1 : w2.cell? ⟨w.heap.size + 1 + 1, 1, none⟩ = some (.int .i64 (0)) := (b2.cell (p := ⟨w.heap.size + 1 + 1, 1, none⟩) (by first | (simp; done) | (simp; omega) | omega)).trans (by first | with_reducible assumption | (simp [go_sem]; done) | (simp [go_sem, *]; done))
        have g2_2_1 : w2.frozen? ⟨w.heap.size + 1 + 1, 1, none⟩ = false := (b2.frozen (p := ⟨w.heap.size + 1 + 1, 1, none⟩) (by first | (simp; done) | (simp; omega) | omega)).trans (by first | with_reducible assumption | (simp [go_sem]; done) | (simp [go_sem, *]; done))
        clear k1_0_0 g1_0_0 k1_0_1 g1_0_1 k1_1_0 g1_1_0 k1_1_1 g1_1_1 k1_2_0 g1_2_0 k1_2_1 g1_2_1
        go_wp2_with fail
        refine (P1.out _).mono ?_
        rintro e w3 ⟨rfl, b3⟩
        have s3 := b3.size
        try simp at s3
        have z3_0 : w.heap.size < w3.heap.size := by omega
        have k3_0_0 : w3.cell? ⟨w.heap.size, 0, none⟩ = some (.int .i64 (n)) := (b3.cell (p := ⟨w.heap.size, 0, none⟩) (by first | (simp; done) | (simp; omega) | omega)).trans (by first | with_reducible assumption | (simp [go_sem]; done) | (simp [go_sem, *]; done))
        have g3_0_0 : w3.frozen? ⟨w.heap.size, 0, none⟩ = false := (b3.frozen (p := ⟨w.heap.size, 0, none⟩) (by first | (simp; done) | (simp; omega) | omega)).trans (by first | with_reducible assumption | (simp [go_sem]; done) | (simp [go_sem, *]; done))
        have k3_0_1 : w3.cell? ⟨w.heap.size, 1, none⟩ = some (.int .i64 (d)) := (b3.cell (p := ⟨w.heap.size, 1, none⟩) (by first | (simp; done) | (simp; omega) | omega)).trans (by first | with_reducible assumption | (simp [go_sem]; done) | (simp [go_sem, *]; done))
        have g3_0_1 : w3.frozen? ⟨w.heap.size, 1, none⟩ = false := (b3.frozen (p := ⟨w.heap.size, 1, none⟩) (by first | (simp; done) | (simp; omega) | omega)).trans (by first | with_reducible assumption | (simp [go_sem]; done) | (simp [go_sem, *]; done))
        have z3_1 : w.heap.size + 1 < w3.heap.size := by omega
        have k3_1_0 : w3.cell? ⟨w.heap.size + 1, 0, none⟩ = some (.int .i64 (m)) := (b3.cell (p := ⟨w.heap.size + 1, 0, none⟩) (by first | (simp; done) | (simp; omega) | omega)).trans (by first | with_reducible assumption | (simp [go_sem]; done) | (simp [go_sem, *]; done))
        have g3_1_0 : w3.frozen? ⟨w.heap.size + 1, 0, none⟩ = false := (b3.frozen (p := ⟨w.heap.size + 1, 0, none⟩) (by first | (simp; done) | (simp; omega) | omega)).trans (by first | with_reducible assumption | (simp [go_sem]; done) | (simp [go_sem, *]; done))
        have k3_1_1 : w3.cell? ⟨w.heap.size + 1, 1, none⟩ = some (.int .i64 (k)) := (b3.cell (p := ⟨w.heap.size + 1, 1, none⟩) (by first | (simp; done) | (simp; omega) | omega)).trans (by first | with_reducible assumption | (simp [go_sem]; done) | (simp [go_sem, *]; done))
        have g3_1_1 : w3.frozen? ⟨w.heap.size + 1, 1, none⟩ = false := (b3.frozen (p := ⟨w.heap.size + 1, 1, none⟩) (by first | (simp; done) | (simp; omega) | omega)).trans (by first | with_reducible assumption | (simp [go_sem]; done) | (simp [go_sem, *]; done))
        have z3_2 : w.heap.size + 1 + 1 < w3.heap.size := by omega
        have k3_2_0 : w3.cell? ⟨w.heap.size + 1 + 1, 0, none⟩ = some (.int .i64 (0)) := (b3.cell (p := ⟨w.heap.size + 1 + 1, 0, none⟩) (by first | (simp; done) | (simp; omega) | omega)).trans (by first | with_reducible assumption | (simp [go_sem]; done) | (simp [go_sem, *]; done))
        have g3_2_0 : w3.frozen? ⟨w.heap.size + 1 + 1, 0, none⟩ = false := (b3.frozen (p := ⟨w.heap.size + 1 + 1, 0, none⟩) (by first | (simp; done) | (simp; omega) | omega)).trans (by first | with_reducible assumption | (simp [go_sem]; done) | (simp [go_sem, *]; done))
        have k3_2_1 : w3.cell? ⟨w.heap.size + 1 + 1, 1, none⟩ = some (.int .i64 (0)) := (b3.cell (p := ⟨w.heap.size + 1 + 1, 1, none⟩) (by first | (simp; done) | (simp; omega) | omega)).trans (by first | with_reducible assumption | (simp [go_sem]; done) | (simp [go_sem, *]; done))
        have g3_2_1 : w3.frozen? ⟨w.heap.size + 1 + 1, 1, none⟩ = false := (b3.frozen (p := ⟨w.heap.size + 1 + 1, 1, none⟩) (by first | (simp; done) | (simp; omega) | omega)).trans (by first | with_reducible assumption | (simp [go_sem]; done) | (simp [go_sem, *]; done))
        clear k2_0_0 g2_0_0 k2_0_1 g2_0_1 k2_1_0 g2_1_0 k2_1_1 g2_1_1 k2_2_0 g2_2_0 k2_2_1 g2_2_1
        go_wp2_with fail
        refine (P2.out _).mono ?_
        rintro e w4 ⟨rfl, b4⟩
        have s4 := b4.size
        try simp at s4
        have z4_0 : w.heap.size < w4.heap.size := by omega
        have k4_0_0 : w4.cell? ⟨w.heap.size, 0, none⟩ = some (.int .i64 (n)) := (b4.cell (p := ⟨w.heap.size, 0, none⟩) (by first | (simp; done) | (simp; omega) | omega)).trans (by first | with_reducible assumption | (simp [go_sem]; done) | (simp [go_sem, *]; done))
        have g4_0_0 : w4.frozen? ⟨w.heap.size, 0, none⟩ = false := (b4.frozen (p := ⟨w.heap.size, 0, none⟩) (by first | (simp; done) | (simp; omega) | omega)).trans (by first | with_reducible assumption | (simp [go_sem]; done) | (simp [go_sem, *]; done))
        have k4_0_1 : w4.cell? ⟨w.heap.size, 1, none⟩ = some (.int .i64 (d)) := (b4.cell (p := ⟨w.heap.size, 1, none⟩) (by first | (simp; done) | (simp; omega) | omega)).trans (by first | with_reducible assumption | (simp [go_sem]; done) | (simp [go_sem, *]; done))
        have g4_0_1 : w4.frozen? ⟨w.heap.size, 1, none⟩ = false := (b4.frozen (p := ⟨w.heap.size, 1, none⟩) (by first | (simp; done) | (simp; omega) | omega)).trans (by first | with_reducible assumption | (simp [go_sem]; done) | (simp [go_sem, *]; done))
        have z4_1 : w.heap.size + 1 < w4.heap.size := by omega
        have k4_1_0 : w4.cell? ⟨w.heap.size + 1, 0, none⟩ = some (.int .i64 (m)) := (b4.cell (p := ⟨w.heap.size + 1, 0, none⟩) (by first | (simp; done) | (simp; omega) | omega)).trans (by first | with_reducible assumption | (simp [go_sem]; done) | (simp [go_sem, *]; done))
        have g4_1_0 : w4.frozen? ⟨w.heap.size + 1, 0, none⟩ = false := (b4.frozen (p := ⟨w.heap.size + 1, 0, none⟩) (by first | (simp; done) | (simp; omega) | omega)).trans (by first | with_reducible assumption | (simp [go_sem]; done) | (simp [go_sem, *]; done))
        have k4_1_1 : w4.cell? ⟨w.heap.size + 1, 1, none⟩ = some (.int .i64 (k)) := (b4.cell (p := ⟨w.heap.size + 1, 1, none⟩) (by first | (simp; done) | (simp; omega) | omega)).trans (by first | with_reducible assumption | (simp [go_sem]; done) | (simp [go_sem, *]; done))
        have g4_1_1 : w4.frozen? ⟨w.heap.size + 1, 1, none⟩ = false := (b4.frozen (p := ⟨w.heap.size + 1, 1, none⟩) (by first | (simp; done) | (simp; omega) | omega)).trans (by first | with_reducible assumption | (simp [go_sem]; done) | (simp [go_sem, *]; done))
        have z4_2 : w.heap.size + 1 + 1 < w4.heap.size := by omega
        have k4_2_0 : w4.cell? ⟨w.heap.size + 1 + 1, 0, none⟩ = some (.int .i64 (0)) := (b4.cell (p := ⟨w.heap.size + 1 + 1, 0, none⟩) (by first | (simp; done) | (simp; omega) | omega)).trans (by first | with_reducible assumption | (simp [go_sem]; done) | (simp [go_sem, *]; done))
        have g4_2_0 : w4.frozen? ⟨w.heap.size + 1 + 1, 0, none⟩ = false := (b4.frozen (p := ⟨w.heap.size + 1 + 1, 0, none⟩) (by first | (simp; done) | (simp; omega) | omega)).trans (by first | with_reducible assumption | (simp [go_sem]; done) | (simp [go_sem, *]; done))
        have k4_2_1 : w4.cell? ⟨w.heap.size + 1 + 1, 1, none⟩ = some (.int .i64 (0)) := (b4.cell (p := ⟨w.heap.size + 1 + 1, 1, none⟩) (by first | (simp; done) | (simp; omega) | omega)).trans (by first | with_reducible assumption | (simp [go_sem]; done) | (simp [go_sem, *]; done))
        have g4_2_1 : w4.frozen? ⟨w.heap.size + 1 + 1, 1, none⟩ = false := (b4.frozen (p := ⟨w.heap.size + 1 + 1, 1, none⟩) (by first | (simp; done) | (simp; omega) | omega)).trans (by first | with_reducible assumption | (simp [go_sem]; done) | (simp [go_sem, *]; done))
        have z4_3 : w3.heap.size < w4.heap.size := by omega
        have k4_3_0 : w4.cell? ⟨w3.heap.size, 0, none⟩ = some (.int .i64 (0)) := (b4.cell (p := ⟨w3.heap.size, 0, none⟩) (by first | (simp; done) | (simp; omega) | omega)).trans (by first | with_reducible assumption | (simp [go_sem]; done) | (simp [go_sem, *]; done))
        have g4_3_0 : w4.frozen? ⟨w3.heap.size, 0, none⟩ = false := (b4.frozen (p := ⟨w3.heap.size, 0, none⟩) (by first | (simp; done) | (simp; omega) | omega)).trans (by first | with_reducible assumption | (simp [go_sem]; done) | (simp [go_sem, *]; done))
        have k4_3_1 : w4.cell? ⟨w3.heap.size, 1, none⟩ = some (.int .i64 (XD)) := (b4.cell (p := ⟨w3.heap.size, 1, none⟩) (by first | (simp; done) | (simp; omega) | omega)).trans (by first | with_reducible assumption | (simp [go_sem]; done) | (simp [go_sem, *]; done))
        have g4_3_1 : w4.frozen? ⟨w3.heap.size, 1, none⟩ = false := (b4.frozen (p := ⟨w3.heap.size, 1, none⟩) (by first | (simp; done) | (simp; omega) | omega)).trans (by first | with_reducible assumption | (simp [go_sem]; done) | (simp [go_sem, *]; done))
        clear k3_0_0 g3_0_0 k3_0_1 g3_0_1 k3_1_0 g3_1_0 k3_1_1 g3_1_1 k3_2_0 g3_2_0 k3_2_1 g3_2_1
        go_wp2
        have kc0 := cell_regrown (w := (w4.alloc (Obj.cells #[.int .i64 (Y), .int .i64 (YD)] 24))) (a := ⟨w.heap.size, 0, none⟩) (v := .int .i64 (n)) (by first | ((repeat (first | with_reducible assumption | with_reducible refine calloc ?_ _)); done) | (simp [go_sem]; done) | (simp [go_sem, *]; done))
        have kc1 := cell_regrown (w := (w4.alloc (Obj.cells #[.int .i64 (Y), .int .i64 (YD)] 24))) (a := ⟨w.heap.size, 1, none⟩) (v := .int .i64 (d)) (by first | ((repeat (first | with_reducible assumption | with_reducible refine calloc ?_ _)); done) | (simp [go_sem]; done) | (simp [go_sem, *]; done))
        have kc2 := cell_regrown (w := (w4.alloc (Obj.cells #[.int .i64 (Y), .int .i64 (YD)] 24))) (a := ⟨w.heap.size + 1, 0, none⟩) (v := .int .i64 (m)) (by first | ((repeat (first | with_reducible assumption | with_reducible refine calloc ?_ _)); done) | (simp [go_sem]; done) | (simp [go_sem, *]; done))
        have kc3 := cell_regrown (w := (w4.alloc (Obj.cells #[.int .i64 (Y), .int .i64 (YD)] 24))) (a := ⟨w.heap.size + 1, 1, none⟩) (v := .int .i64 (k)) (by first | ((repeat (first | with_reducible assumption | with_reducible refine calloc ?_ _)); done) | (simp [go_sem]; done) | (simp [go_sem, *]; done))
        have kc4 := cell_regrown (w := (w4.alloc (Obj.cells #[.int .i64 (Y), .int .i64 (YD)] 24))) (a := ⟨w.heap.size + 1 + 1, 0, none⟩) (v := .int .i64 (0)) (by first | ((repeat (first | with_reducible assumption | with_reducible refine calloc ?_ _)); done) | (simp [go_sem]; done) | (simp [go_sem, *]; done))
        have kc5 := cell_regrown (w := (w4.alloc (Obj.cells #[.int .i64 (Y), .int .i64 (YD)] 24))) (a := ⟨w.heap.size + 1 + 1, 1, none⟩) (v := .int .i64 (0)) (by first | ((repeat (first | with_reducible assumption | with_reducible refine calloc ?_ _)); done) | (simp [go_sem]; done) | (simp [go_sem, *]; done))
        have kc6 := cell_regrown (w := (w4.alloc (Obj.cells #[.int .i64 (Y), .int .i64 (YD)] 24))) (a := ⟨w3.heap.size, 0, none⟩) (v := .int .i64 (0)) (by first | ((repeat (first | with_reducible assumption | with_reducible refine calloc ?_ _)); done) | (simp [go_sem]; done) | (simp [go_sem, *]; done))
        have kc7 := cell_regrown (w := (w4.alloc (Obj.cells #[.int .i64 (Y), .int .i64 (YD)] 24))) (a := ⟨w3.heap.size, 1, none⟩) (v := .int .i64 (XD)) (by first | ((repeat (first | with_reducible assumption | with_reducible refine calloc ?_ _)); done) | (simp [go_sem]; done) | (simp [go_sem, *]; done))
        have kc8 := cell_regrown (w := (w4.alloc (Obj.cells #[.int .i64 (Y), .int .i64 (YD)] 24))) (a := ⟨w4.heap.size, 0, none⟩) (v := .int .i64 (Y)) (by first | ((repeat (first | with_reducible assumption | with_reducible refine calloc ?_ _)); done) | (simp [go_sem]; done) | (simp [go_sem, *]; done))
        have kc9 := cell_regrown (w := (w4.alloc (Obj.cells #[.int .i64 (Y), .int .i64 (YD)] 24))) (a := ⟨w4.heap.size, 1, none⟩) (v := .int .i64 (YD)) (by first | ((repeat (first | with_reducible assumption | with_reducible refine calloc ?_ _)); done) | (simp [go_sem]; done) | (simp [go_sem, *]; done))
        refine wp_region_quiet_below (by kernel_rfl) (by kernel_rfl) ?_
        repeat (go_big_quiet_step ((fail)))
        refine wpQuiet_nil ?_
        intro w5 hw'
        have b5 : Below (w4.alloc (Obj.cells #[.int .i64 (Y), .int .i64 (YD)] 24)).heap.size (w4.alloc (Obj.cells #[.int .i64 (Y), .int .i64 (YD)] 24)) w5 := by
          obtain ⟨pp, rfl⟩ := hw'
          exact below_regrown _ _ _
        clear hw' kc0 kc1 kc2 kc3 kc4 kc5 kc6 kc7 kc8 kc9
        have s5 := b5.size
        try simp at s5
        have z5_0 : w.heap.size < w5.heap.size := by omega
        have k5_0_0 : w5.cell? ⟨w.heap.size, 0, none⟩ = some (.int .i64 (n)) := (b5.cell (p := ⟨w.heap.size, 0, none⟩) (by first | (simp; done) | (simp; omega) | omega)).trans (by first | with_reducible assumption | (simp [go_sem]; done) | (simp [go_sem, *]; done))
        have g5_0_0 : w5.frozen? ⟨w.heap.size, 0, none⟩ = false := (b5.frozen (p := ⟨w.heap.size, 0, none⟩) (by first | (simp; done) | (simp; omega) | omega)).trans (by first | with_reducible assumption | (simp [go_sem]; done) | (simp [go_sem, *]; done))
        have k5_0_1 : w5.cell? ⟨w.heap.size, 1, none⟩ = some (.int .i64 (d)) := (b5.cell (p := ⟨w.heap.size, 1, none⟩) (by first | (simp; done) | (simp; omega) | omega)).trans (by first | with_reducible assumption | (simp [go_sem]; done) | (simp [go_sem, *]; done))
        have g5_0_1 : w5.frozen? ⟨w.heap.size, 1, none⟩ = false := (b5.frozen (p := ⟨w.heap.size, 1, none⟩) (by first | (simp; done) | (simp; omega) | omega)).trans (by first | with_reducible assumption | (simp [go_sem]; done) | (simp [go_sem, *]; done))
        have z5_1 : w.heap.size + 1 < w5.heap.size := by omega
        have k5_1_0 : w5.cell? ⟨w.heap.size + 1, 0, none⟩ = some (.int .i64 (m)) := (b5.cell (p := ⟨w.heap.size + 1, 0, none⟩) (by first | (simp; done) | (simp; omega) | omega)).trans (by first | with_reducible assumption | (simp [go_sem]; done) | (simp [go_sem, *]; done))
        have g5_1_0 : w5.frozen? ⟨w.heap.size + 1, 0, none⟩ = false := (b5.frozen (p := ⟨w.heap.size + 1, 0, none⟩) (by first | (simp; done) | (simp; omega) | omega)).trans (by first | with_reducible assumption | (simp [go_sem]; done) | (simp [go_sem, *]; done))
        have k5_1_1 : w5.cell? ⟨w.heap.size + 1, 1, none⟩ = some (.int .i64 (k)) := (b5.cell (p := ⟨w.heap.size + 1, 1, none⟩) (by first | (simp; done) | (simp; omega) | omega)).trans (by first | with_reducible assumption | (simp [go_sem]; done) | (simp [go_sem, *]; done))
        have g5_1_1 : w5.frozen? ⟨w.heap.size + 1, 1, none⟩ = false := (b5.frozen (p := ⟨w.heap.size + 1, 1, none⟩) (by first | (simp; done) | (simp; omega) | omega)).trans (by first | with_reducible assumption | (simp [go_sem]; done) | (simp [go_sem, *]; done))
        have z5_2 : w.heap.size + 1 + 1 < w5.heap.size := by omega
        have k5_2_0 : w5.cell? ⟨w.heap.size + 1 + 1, 0, none⟩ = some (.int .i64 (0)) := (b5.cell (p := ⟨w.heap.size + 1 + 1, 0, none⟩) (by first | (simp; done) | (simp; omega) | omega)).trans (by first | with_reducible assumption | (simp [go_sem]; done) | (simp [go_sem, *]; done))
        have g5_2_0 : w5.frozen? ⟨w.heap.size + 1 + 1, 0, none⟩ = false := (b5.frozen (p := ⟨w.heap.size + 1 + 1, 0, none⟩) (by first | (simp; done) | (simp; omega) | omega)).trans (by first | with_reducible assumption | (simp [go_sem]; done) | (simp [go_sem, *]; done))
        have k5_2_1 : w5.cell? ⟨w.heap.size + 1 + 1, 1, none⟩ = some (.int .i64 (0)) := (b5.cell (p := ⟨w.heap.size + 1 + 1, 1, none⟩) (by first | (simp; done) | (simp; omega) | omega)).trans (by first | with_reducible assumption | (simp [go_sem]; done) | (simp [go_sem, *]; done))
        have g5_2_1 : w5.frozen? ⟨w.heap.size + 1 + 1, 1, none⟩ = false := (b5.frozen (p := ⟨w.heap.size + 1 + 1, 1, none⟩) (by first | (simp; done) | (simp; omega) | omega)).trans (by first | with_reducible assumption | (simp [go_sem]; done) | (simp [go_sem, *]; done))
        have z5_3 : w3.heap.size < w5.heap.size := by omega
        have k5_3_0 : w5.cell? ⟨w3.heap.size, 0, none⟩ = some (.int .i64 (0)) := (b5.cell (p := ⟨w3.heap.size, 0, none⟩) (by first | (simp; done) | (simp; omega) | omega)).trans (by first | with_reducible assumption | (simp [go_sem]; done) | (simp [go_sem, *]; done))
        have g5_3_0 : w5.frozen? ⟨w3.heap.size, 0, none⟩ = false := (b5.frozen (p := ⟨w3.heap.size, 0, none⟩) (by first | (simp; done) | (simp; omega) | omega)).trans (by first | with_reducible assumption | (simp [go_sem]; done) | (simp [go_sem, *]; done))
        have k5_3_1 : w5.cell? ⟨w3.heap.size, 1, none⟩ = some (.int .i64 (XD)) := (b5.cell (p := ⟨w3.heap.size, 1, none⟩) (by first | (simp; done) | (simp; omega) | omega)).trans (by first | with_reducible assumption | (simp [go_sem]; done) | (simp [go_sem, *]; done))
        have g5_3_1 : w5.frozen? ⟨w3.heap.size, 1, none⟩ = false := (b5.frozen (p := ⟨w3.heap.size, 1, none⟩) (by first | (simp; done) | (simp; omega) | omega)).trans (by first | with_reducible assumption | (simp [go_sem]; done) | (simp [go_sem, *]; done))
        have z5_4 : w4.heap.size < w5.heap.size := by omega
        have k5_4_0 : w5.cell? ⟨w4.heap.size, 0, none⟩ = some (.int .i64 (Y)) := (b5.cell (p := ⟨w4.heap.size, 0, none⟩) (by first | (simp; done) | (simp; omega) | omega)).trans (by first | with_reducible assumption | (simp [go_sem]; done) | (simp [go_sem, *]; done))
        have g5_4_0 : w5.frozen? ⟨w4.heap.size, 0, none⟩ = false := (b5.frozen (p := ⟨w4.heap.size, 0, none⟩) (by first | (simp; done) | (simp; omega) | omega)).trans (by first | with_reducible assumption | (simp [go_sem]; done) | (simp [go_sem, *]; done))
        have k5_4_1 : w5.cell? ⟨w4.heap.size, 1, none⟩ = some (.int .i64 (YD)) := (b5.cell (p := ⟨w4.heap.size, 1, none⟩) (by first | (simp; done) | (simp; omega) | omega)).trans (by first | with_reducible assumption | (simp [go_sem]; done) | (simp [go_sem, *]; done))
        have g5_4_1 : w5.frozen? ⟨w4.heap.size, 1, none⟩ = false := (b5.frozen (p := ⟨w4.heap.size, 1, none⟩) (by first | (simp; done) | (simp; omega) | omega)).trans (by first | with_reducible assumption | (simp [go_sem]; done) | (simp [go_sem, *]; done))
        clear k4_0_0 g4_0_0 k4_0_1 g4_0_1 k4_1_0 g4_1_0 k4_1_1 g4_1_1 k4_2_0 g4_2_0 k4_2_1 g4_2_1 k4_3_0 g4_3_0 k4_3_1 g4_3_1
        go_wp2_with fail
        refine (K5.out _).mono ?_
        rintro e w6 ⟨rfl, b6⟩
        have s6 := b6.size
        try simp at s6
        have z6_0 : w.heap.size < w6.heap.size := by omega
        have k6_0_0 : w6.cell? ⟨w.heap.size, 0, none⟩ = some (.int .i64 (n)) := (b6.cell (p := ⟨w.heap.size, 0, none⟩) (by first | (simp; done) | (simp; omega) | omega)).trans (by first | with_reducible assumption | (simp [go_sem]; done) | (simp [go_sem, *]; done))
        have g6_0_0 : w6.frozen? ⟨w.heap.size, 0, none⟩ = false := (b6.frozen (p := ⟨w.heap.size, 0, none⟩) (by first | (simp; done) | (simp; omega) | omega)).trans (by first | with_reducible assumption | (simp [go_sem]; done) | (simp [go_sem, *]; done))
        have k6_0_1 : w6.cell? ⟨w.heap.size, 1, none⟩ = some (.int .i64 (d)) := (b6.cell (p := ⟨w.heap.size, 1, none⟩) (by first | (simp; done) | (simp; omega) | omega)).trans (by first | with_reducible assumption | (simp [go_sem]; done) | (simp [go_sem, *]; done))
        have g6_0_1 : w6.frozen? ⟨w.heap.size, 1, none⟩ = false := (b6.frozen (p := ⟨w.heap.size, 1, none⟩) (by first | (simp; done) | (simp; omega) | omega)).trans (by first | with_reducible assumption | (simp [go_sem]; done) | (simp [go_sem, *]; done))
        have z6_1 : w.heap.size + 1 < w6.heap.size := by omega
        have k6_1_0 : w6.cell? ⟨w.heap.size + 1, 0, none⟩ = some (.int .i64 (m)) := (b6.cell (p := ⟨w.heap.size + 1, 0, none⟩) (by first | (simp; done) | (simp; omega) | omega)).trans (by first | with_reducible assumption | (simp [go_sem]; done) | (simp [go_sem, *]; done))
        have g6_1_0 : w6.frozen? ⟨w.heap.size + 1, 0, none⟩ = false := (b6.frozen (p := ⟨w.heap.size + 1, 0, none⟩) (by first | (simp; done) | (simp; omega) | omega)).trans (by first | with_reducible assumption | (simp [go_sem]; done) | (simp [go_sem, *]; done))
        have k6_1_1 : w6.cell? ⟨w.heap.size + 1, 1, none⟩ = some (.int .i64 (k)) := (b6.cell (p := ⟨w.heap.size + 1, 1, none⟩) (by first | (simp; done) | (simp; omega) | omega)).trans (by first | with_reducible assumption | (simp [go_sem]; done) | (simp [go_sem, *]; done))
        have g6_1_1 : w6.frozen? ⟨w.heap.size + 1, 1, none⟩ = false := (b6.frozen (p := ⟨w.heap.size + 1, 1, none⟩) (by first | (simp; done) | (simp; omega) | omega)).trans (by first | with_reducible assumption | (simp [go_sem]; done) | (simp [go_sem, *]; done))
        have z6_2 : w.heap.size + 1 + 1 < w6.heap.size := by omega
        have k6_2_0 : w6.cell? ⟨w.heap.size + 1 + 1, 0, none⟩ = some (.int .i64 (0)) := (b6.cell (p := ⟨w.heap.size + 1 + 1, 0, none⟩) (by first | (simp; done) | (simp; omega) | omega)).trans (by first | with_reducible assumption | (simp [go_sem]; done) | (simp [go_sem, *]; done))
        have g6_2_0 : w6.frozen? ⟨w.heap.size + 1 + 1, 0, none⟩ = false := (b6.frozen (p := ⟨w.heap.size + 1 + 1, 0, none⟩) (by first | (simp; done) | (simp; omega) | omega)).trans (by first | with_reducible assumption | (simp [go_sem]; done) | (simp [go_sem, *]; done))
        have k6_2_1 : w6.cell? ⟨w.heap.size + 1 + 1, 1, none⟩ = some (.int .i64 (0)) := (b6.cell (p := ⟨w.heap.size + 1 + 1, 1, none⟩) (by first | (simp; done) | (simp; omega) | omega)).trans (by first | with_reducible assumption | (simp [go_sem]; done) | (simp [go_sem, *]; done))
        have g6_2_1 : w6.frozen? ⟨w.heap.size + 1 + 1, 1, none⟩ = false := (b6.frozen (p := ⟨w.heap.size + 1 + 1, 1, none⟩) (by first | (simp; done) | (simp; omega) | omega)).trans (by first | with_reducible assumption | (simp [go_sem]; done) | (simp [go_sem, *]; done))
        have z6_3 : w3.heap.size < w6.heap.size := by omega
        have k6_3_0 : w6.cell? ⟨w3.heap.size, 0, none⟩ = some (.int .i64 (0)) := (b6.cell (p := ⟨w3.heap.size, 0, none⟩) (by first | (simp; done) | (simp; omega) | omega)).trans (by first | with_reducible assumption | (simp [go_sem]; done) | (simp [go_sem, *]; done))
        have g6_3_0 : w6.frozen? ⟨w3.heap.size, 0, none⟩ = false := (b6.frozen (p := ⟨w3.heap.size, 0, none⟩) (by first | (simp; done) | (simp; omega) | omega)).trans (by first | with_reducible assumption | (simp [go_sem]; done) | (simp [go_sem, *]; done))
        have k6_3_1 : w6.cell? ⟨w3.heap.size, 1, none⟩ = some (.int .i64 (XD)) := (b6.cell (p := ⟨w3.heap.size, 1, none⟩) (by first | (simp; done) | (simp; omega) | omega)).trans (by first | with_reducible assumption | (simp [go_sem]; done) | (simp [go_sem, *]; done))
        have g6_3_1 : w6.frozen? ⟨w3.heap.size, 1, none⟩ = false := (b6.frozen (p := ⟨w3.heap.size, 1, none⟩) (by first | (simp; done) | (simp; omega) | omega)).trans (by first | with_reducible assumption | (simp [go_sem]; done) | (simp [go_sem, *]; done))
        have z6_4 : w4.heap.size < w6.heap.size := by omega
        have k6_4_0 : w6.cell? ⟨w4.heap.size, 0, none⟩ = some (.int .i64 (Y)) := (b6.cell (p := ⟨w4.heap.size, 0, none⟩) (by first | (simp; done) | (simp; omega) | omega)).trans (by first | with_reducible assumption | (simp [go_sem]; done) | (simp [go_sem, *]; done))
        have g6_4_0 : w6.frozen? ⟨w4.heap.size, 0, none⟩ = false := (b6.frozen (p := ⟨w4.heap.size, 0, none⟩) (by first | (simp; done) | (simp; omega) | omega)).trans (by first | with_reducible assumption | (simp [go_sem]; done) | (simp [go_sem, *]; done))
        have k6_4_1 : w6.cell? ⟨w4.heap.size, 1, none⟩ = some (.int .i64 (YD)) := (b6.cell (p := ⟨w4.heap.size, 1, none⟩) (by first | (simp; done) | (simp; omega) | omega)).trans (by first | with_reducible assumption | (simp [go_sem]; done) | (simp [go_sem, *]; done))
        have g6_4_1 : w6.frozen? ⟨w4.heap.size, 1, none⟩ = false := (b6.frozen (p := ⟨w4.heap.size, 1, none⟩) (by first | (simp; done) | (simp; omega) | omega)).trans (by first | with_reducible assumption | (simp [go_sem]; done) | (simp [go_sem, *]; done))
        clear k5_0_0 g5_0_0 k5_0_1 g5_0_1 k5_1_0 g5_1_0 k5_1_1 g5_1_1 k5_2_0 g5_2_0 k5_2_1 g5_2_1 k5_3_0 g5_3_0 k5_3_1 g5_3_1 k5_4_0 g5_4_0 k5_4_1 g5_4_1
        go_wp2
        refine bodyPost_ret (v := .tuple #[.agg #[.int .i64 (okN (0) (XD * YD)), .int .i64 (okD (0) (XD * YD))], .bool (ratB (0) (XD * YD))]) (by simp [results, Try.results15, go_sem, *]) rfl ⟨rfl, ?_⟩
        (repeat (first | with_reducible exact Below.refl _ _ | with_reducible refine bl_alloc ?_ _ | with_reducible refine bl_drew ?_ | with_reducible refine bl_set ?_ (by first | (simp; done) | (simp; omega)) _ | with_reducible refine bl_call (by assumption) ?_))
      · by_cases hb : 100000000000 / iabs X < iabs Y
        · have j0 : (X == 0) = false := by simp [hX]
          have j1 : (X != 0) = true := by simp [hX]
          have ixp : 0 < iabs X := by unfold iabs; omega
          have dq := Int.ediv_nonneg (a := 100000000000) (b := iabs X) (by omega) (by omega)
          have dq2 : (100000000000 : Int) / iabs X ≤ 100000000000 := Int.ediv_le_self _ (by omega)
          have ib : mulBig X Y = true := by simp [mulBig, j0, hb]
          rw [ib] at h0
          clear ib
          have r0 : MuN n d m k = 0 := by unfold MuN; rw [h0]; simp
          have r1 : MuD n d m k = 0 := by unfold MuD; rw [h0]; simp
          have r2 : MuB n d m k = false := by unfold MuB; rw [h0]; simp
          rw [r0, r1, r2]
          clear r0 r1 r2
          clear h0 eX eY eXD eYD qa qb
          go_enter Try.func15, Try.ntmps15
          go_wp2_with fail
          refine (K1.out _).mono ?_
          rintro e w1 ⟨rfl, b1⟩
          have s1 := b1.size
          try simp at s1
          have z1_0 : w.heap.size < w1.heap.size := by omega
          have k1_0_0 : w1.cell? ⟨w.heap.size, 0, none⟩ = some (.int .i64 (n)) := (b1.cell (p := ⟨w.heap.size, 0, none⟩) (by first | (simp; done) | (simp; omega) | omega)).trans (by first | with_reducible assumption | (simp [go_sem]; done) | (simp [go_sem, *]; done))
          have g1_0_0 : w1.frozen? ⟨w.heap.size, 0, none⟩ = false := (b1.frozen (p := ⟨w.heap.size, 0, none⟩) (by first | (simp; done) | (simp; omega) | omega)).trans (by first | with_reducible assumption | (simp [go_sem]; done) | (simp [go_sem, *]; done))
          have k1_0_1 : w1.cell? ⟨w.heap.size, 1, none⟩ = some (.int .i64 (d)) := (b1.cell (p := ⟨w.heap.size, 1, none⟩) (by first | (simp; done) | (simp; omega) | omega)).trans (by first | with_reducible assumption | (simp [go_sem]; done) | (simp [go_sem, *]; done))
          have g1_0_1 : w1.frozen? ⟨w.heap.size, 1, none⟩ = false := (b1.frozen (p := ⟨w.heap.size, 1, none⟩) (by first | (simp; done) | (simp; omega) | omega)).trans (by first | with_reducible assumption | (simp [go_sem]; done) | (simp [go_sem, *]; done))
          have z1_1 : w.heap.size + 1 < w1.heap.size := by omega
          have k1_1_0 : w1.cell? ⟨w.heap.size + 1, 0, none⟩ = some (.int .i64 (m)) := (b1.cell (p := ⟨w.heap.size + 1, 0, none⟩) (by first | (simp; done) | (simp; omega) | omega)).trans (by first | with_reducible assumption | (simp [go_sem]; done) | (simp [go_sem, *]; done))
          have g1_1_0 : w1.frozen? ⟨w.heap.size + 1, 0, none⟩ = false := (b1.frozen (p := ⟨w.heap.size + 1, 0, none⟩) (by first | (simp; done) | (simp; omega) | omega)).trans (by first | with_reducible assumption | (simp [go_sem]; done) | (simp [go_sem, *]; done))
          have k1_1_1 : w1.cell? ⟨w.heap.size + 1, 1, none⟩ = some (.int .i64 (k)) := (b1.cell (p := ⟨w.heap.size + 1, 1, none⟩) (by first | (simp; done) | (simp; omega) | omega)).trans (by first | with_reducible assumption | (simp [go_sem]; done) | (simp [go_sem, *]; done))
          have g1_1_1 : w1.frozen? ⟨w.heap.size + 1, 1, none⟩ = false := (b1.frozen (p := ⟨w.heap.size + 1, 1, none⟩) (by first | (simp; done) | (simp; omega) | omega)).trans (by first | with_reducible assumption | (simp [go_sem]; done) | (simp [go_sem, *]; done))
          have z1_2 : w.heap.size + 1 + 1 < w1.heap.size := by omega
          have k1_2_0 : w1.cell? ⟨w.heap.size + 1 + 1, 0, none⟩ = some (.int .i64 (0)) := (b1.cell (p := ⟨w.heap.size + 1 + 1, 0, none⟩) (by first | (simp; done) | (simp; omega) | omega)).trans (by first | with_reducible assumption | (simp [go_sem]; done) | (simp [go_sem, *]; done))
          have g1_2_0 : w1.frozen? ⟨w.heap.size + 1 + 1, 0, none⟩ = false := (b1.frozen (p := ⟨w.heap.size + 1 + 1, 0, none⟩) (by first | (simp; done) | (simp; omega) | omega)).trans (by first | with_reducible assumption | (simp [go_sem]; done) | (simp [go_sem, *]; done))
          have k1_2_1 : w1.cell? ⟨w.heap.size + 1 + 1, 1, none⟩ = some (.int .i64 (0)) := (b1.cell (p := ⟨w.heap.size + 1 + 1, 1, none⟩) (by first | (simp; done) | (simp; omega) | omega)).trans (by first | with_reducible assumption | (simp [go_sem]; done) | (simp [go_sem, *]; done))
          have g1_2_1 : w1.frozen? ⟨w.heap.size + 1 + 1, 1, none⟩ = false := (b1.frozen (p := ⟨w.heap.size + 1 + 1, 1, none⟩) (by first | (simp; done) | (simp; omega) | omega)).trans (by first | with_reducible assumption | (simp [go_sem]; done) | (simp [go_sem, *]; done))
          go_wp2_with fail
          refine (K2.out _).mono ?_
          rintro e w2 ⟨rfl, b2⟩
          have s2 := b2.size
          try simp at s2
          have z2_0 : w.heap.size < w2.heap.size := by omega
          have k2_0_0 : w2.cell? ⟨w.heap.size, 0, none⟩ = some (.int .i64 (n)) := (b2.cell (p := ⟨w.heap.size, 0, none⟩) (by first | (simp; done) | (simp; omega) | omega)).trans (by first | with_reducible assumption | (simp [go_sem]; done) | (simp [go_sem, *]; done))
          have g2_0_0 : w2.frozen? ⟨w.heap.size, 0, none⟩ = false := (b2.frozen (p := ⟨w.heap.size, 0, none⟩) (by first | (simp; done) | (simp; omega) | omega)).trans (by first | with_reducible assumption | (simp [go_sem]; done) | (simp [go_sem, *]; done))
          have k2_0_1 : w2.cell? ⟨w.heap.size, 1, none⟩ = some (.int .i64 (d)) := (b2.cell (p := ⟨w.heap.size, 1, none⟩) (by first | (simp; done) | (simp; omega) | omega)).trans (by first | with_reducible assumption | (simp [go_sem]; done) | (simp [go_sem, *]; done))
          have g2_0_1 : w2.frozen? ⟨w.heap.size, 1, none⟩ = false := (b2.frozen (p := ⟨w.heap.size, 1, none⟩) (by first | (simp; done) | (simp; omega) | omega)).trans (by first | with_reducible assumption | (simp [go_sem]; done) | (simp [go_sem, *]; done))
          have z2_1 : w.heap.size + 1 < w2.heap.size := by omega
          have k2_1_0 : w2.cell? ⟨w.heap.size + 1, 0, none⟩ = some (.int .i64 (m)) := (b2.cell (p := ⟨w.heap.size + 1, 0, none⟩) (by first | (simp; done) | (simp; omega) | omega)).trans (by first | with_reducible assumption | (simp [go_sem]; done) | (simp [go_sem, *]; done))
          have g2_1_0 : w2.frozen? ⟨w.heap.size + 1, 0, none⟩ = false := (b2.frozen (p := ⟨w.heap.size + 1, 0, none⟩) (by first | (simp; done) | (simp; omega) | omega)).trans (by first | with_reducible assumption | (simp [go_sem]; done) | (simp [go_sem, *]; done))
          have k2_1_1 : w2.cell? ⟨w.heap.size + 1, 1, none⟩ = some (.int .i64 (k)) := (b2.cell (p := ⟨w.heap.size + 1, 1, none⟩) (by first | (simp; done) | (simp; omega) | omega)).trans (by first | with_reducible assumption | (simp [go_sem]; done) | (simp [go_sem, *]; done))
          have g2_1_1 : w2.frozen? ⟨w.heap.size + 1, 1, none⟩ = false := (b2.frozen (p := ⟨w.heap.size + 1, 1, none⟩) (by first | (simp; done) | (simp; omega) | omega)).trans (by first | with_reducible assumption | (simp [go_sem]; done) | (simp [go_sem, *]; done))
          have z2_2 : w.heap.size + 1 + 1 < w2.heap.size := by omega
          have k2_2_0 : w2.cell? ⟨w.heap.size + 1 + 1, 0, none⟩ = some (.int .i64 (0)) := (b2.cell (p := ⟨w.heap.size + 1 + 1, 0, none⟩) (by first | (simp; done) | (simp; omega) | omega)).trans (by first | with_reducible assumption | (simp [go_sem]; done) | (simp [go_sem, *]; done))
          have g2_2_0 : w2.frozen? ⟨w.heap.size + 1 + 1, 0, none⟩ = false := (b2.frozen (p := ⟨w.heap.size + 1 + 1, 0, none⟩) (by first | (simp; done) | (simp; omega) | omega)).trans (by first | with_reducible assumption | (simp [go_sem]; done) | (simp [go_sem, *]; done))
          have k2_2_1 : w2.cell? ⟨w.heap.size + 1 + 1, 1, none⟩ = some (.int .i64 (0)) := (b2.cell (p := ⟨w.heap.size + 1 + 1, 1, none⟩) (by first | (simp; done) | (simp; omega) | omega)).trans (by first | with_reducible assumption | (simp [go_sem]; done) | (simp [go_sem, *]; done))
          have g2_2_1 : w2.frozen? ⟨w.heap.size + 1 + 1, 1, none⟩ = false := (b2.frozen (p := ⟨w.heap.size + 1 + 1, 1, none⟩) (by first | (simp; done) | (simp; omega) | omega)).trans (by first | with_reducible assumption | (simp [go_sem]; done) | (simp [go_sem, *]; done))
          clear k1_0_0 g1_0_0 k1_0_1 g1_0_1 k1_1_0 g1_1_0 k1_1_1 g1_1_1 k1_2_0 g1_2_0 k1_2_1 g1_2_1
          go_wp2_with fail
          refine (P1.out _).mono ?_
          rintro e w3 ⟨rfl, b3⟩
          have s3 := b3.size
          try simp at s3
          have z3_0 : w.heap.size < w3.heap.size := by omega
          have k3_0_0 : w3.cell? ⟨w.heap.size, 0, none⟩ = some (.int .i64 (n)) := (b3.cell (p := ⟨w.heap.size, 0, none⟩) (by first | (simp; done) | (simp; omega) | omega)).trans (by first | with_reducible assumption | (simp [go_sem]; done) | (simp [go_sem, *]; done))
          have g3_0_0 : w3.frozen? ⟨w.heap.size, 0, none⟩ = false := (b3.frozen (p := ⟨w.heap.size, 0, none⟩) (by first | (simp; done) | (simp; omega) | omega)).trans (by first | with_reducible assumption | (simp [go_sem]; done) | (simp [go_sem, *]; done))
          have k3_0_1 : w3.cell? ⟨w.heap.size, 1, none⟩ = some (.int .i64 (d)) := (b3.cell (p := ⟨w.heap.size, 1, none⟩) (by first | (simp; done) | (simp; omega) | omega)).trans (by first | with_reducible assumption | (simp [go_sem]; done) | (simp [go_sem, *]; done))
          have g3_0_1 : w3.frozen? ⟨w.heap.size, 1, none⟩ = false := (b3.frozen (p := ⟨w.heap.size, 1, none⟩) (by first | (simp; done) | (simp; omega) | omega)).trans (by first | with_reducible assumption | (simp [go_sem]; done) | (simp [go_sem, *]; done))
          have z3_1 : w.heap.size + 1 < w3.heap.size := by omega
          have k3_1_0 : w3.cell? ⟨w.heap.size + 1, 0, none⟩ = some (.int .i64 (m)) := (b3.cell (p := ⟨w.heap.size + 1, 0, none⟩) (by first | (simp; done) | (simp; omega) | omega)).trans (by first | with_reducible assumption | (simp [go_sem]; done) | (simp [go_sem, *]; done))
          have g3_1_0 : w3.frozen? ⟨w.heap.size + 1, 0, none⟩ = false := (b3.frozen (p := ⟨w.heap.size + 1, 0, none⟩) (by first | (simp; done) | (simp; omega) | omega)).trans (by first | with_reducible assumption | (simp [go_sem]; done) | (simp [go_sem, *]; done))
          have k3_1_1 : w3.cell? ⟨w.heap.size + 1, 1, none⟩ = some (.int .i64 (k)) := (b3.cell (p := ⟨w.heap.size + 1, 1, none⟩) (by first | (simp; done) | (simp; omega) | omega)).trans (by first | with_reducible assumption | (simp [go_sem]; done) | (simp [go_sem, *]; done))
          have g3_1_1 : w3.frozen? ⟨w.heap.size + 1, 1, none⟩ = false := (b3.frozen (p := ⟨w.heap.size + 1, 1, none⟩) (by first | (simp; done) | (simp; omega) | omega)).trans (by first | with_reducible assumption | (simp [go_sem]; done) | (simp [go_sem, *]; done))
          have z3_2 : w.heap.size + 1 + 1 < w3.heap.size := by omega
          have k3_2_0 : w3.cell? ⟨w.heap.size + 1 + 1, 0, none⟩ = some (.int .i64 (0)) := (b3.cell (p := ⟨w.heap.size + 1 + 1, 0, none⟩) (by first | (simp; done) | (simp; omega) | omega)).trans (by first | with_reducible assumption | (simp [go_sem]; done) | (simp [go_sem, *]; done))
          have g3_2_0 : w3.frozen? ⟨w.heap.size + 1 + 1, 0, none⟩ = false := (b3.frozen (p := ⟨w.heap.size + 1 + 1, 0, none⟩) (by first | (simp; done) | (simp; omega) | omega)).trans (by first | with_reducible assumption | (simp [go_sem]; done) | (simp [go_sem, *]; done))
          have k3_2_1 : w3.cell? ⟨w.heap.size + 1 + 1, 1, none⟩ = some (.int .i64 (0)) := (b3.cell (p := ⟨w.heap.size + 1 + 1, 1, none⟩) (by first | (simp; done) | (simp; omega) | omega)).trans (by first | with_reducible assumption | (simp [go_sem]; done) | (simp [go_sem, *]; done))
          have g3_2_1 : w3.frozen? ⟨w.heap.size + 1 + 1, 1, none⟩ = false := (b3.frozen (p := ⟨w.heap.size + 1 + 1, 1, none⟩) (by first | (simp; done) | (simp; omega) | omega)).trans (by first | with_reducible assumption | (simp [go_sem]; done) | (simp [go_sem, *]; done))
          clear k2_0_0 g2_0_0 k2_0_1 g2_0_1 k2_1_0 g2_1_0 k2_1_1 g2_1_1 k2_2_0 g2_2_0 k2_2_1 g2_2_1
          go_wp2_with fail
          refine (P2.out _).mono ?_
          rintro e w4 ⟨rfl, b4⟩
          have s4 := b4.size
          try simp at s4
          have z4_0 : w.heap.size < w4.heap.size := by omega
          have k4_0_0 : w4.cell? ⟨w.heap.size, 0, none⟩ = some (.int .i64 (n)) := (b4.cell (p := ⟨w.heap.size, 0, none⟩) (by first | (simp; done) | (simp; omega) | omega)).trans (by first | with_reducible assumption | (simp [go_sem]; done) | (simp [go_sem, *]; done))
          have g4_0_0 : w4.frozen? ⟨w.heap.size, 0, none⟩ = false := (b4.frozen (p := ⟨w.heap.size, 0, none⟩) (by first | (simp; done) | (simp; omega) | omega)).trans (by first | with_reducible assumption | (simp [go_sem]; done) | (simp [go_sem, *]; done))
          have k4_0_1 : w4.cell? ⟨w.heap.size, 1, none⟩ = some (.int .i64 (d)) := (b4.cell (p := ⟨w.heap.size, 1, none⟩) (by first | (simp; done) | (simp; omega) | omega)).trans (by first | with_reducible assumption | (simp [go_sem]; done) | (simp [go_sem, *]; done))
          have g4_0_1 : w4.frozen? ⟨w.heap.size, 1, none⟩ = false := (b4.frozen (p := ⟨w.heap.size, 1, none⟩) (by first | (simp; done) | (simp; omega) | omega)).trans (by first | with_reducible assumption | (simp [go_sem]; done) | (simp [go_sem, *]; done))
          have z4_1 : w.heap.size + 1 < w4.heap.size := by omega
          have k4_1_0 : w4.cell? ⟨w.heap.size + 1, 0, none⟩ = some (.int .i64 (m)) := (b4.cell (p := ⟨w.heap.size + 1, 0, none⟩) (by first | (simp; done) | (simp; omega) | omega)).trans (by first | with_reducible assumption | (simp [go_sem]; done) | (simp [go_sem, *]; done))
          have g4_1_0 : w4.frozen? ⟨w.heap.size + 1, 0, none⟩ = false := (b4.frozen (p := ⟨w.heap.size + 1, 0, none⟩) (by first | (simp; done) | (simp; omega) | omega)).trans (by first | with_reducible assumption | (simp [go_sem]; done) | (simp [go_sem, *]; done))
          have k4_1_1 : w4.cell? ⟨w.heap.size + 1, 1, none⟩ = some (.int .i64 (k)) := (b4.cell (p := ⟨w.heap.size + 1, 1, none⟩) (by first | (simp; done) | (simp; omega) | omega)).trans (by first | with_reducible assumption | (simp [go_sem]; done) | (simp [go_sem, *]; done))
          have g4_1_1 : w4.frozen? ⟨w.heap.size + 1, 1, none⟩ = false := (b4.frozen (p := ⟨w.heap.size + 1, 1, none⟩) (by first | (simp; done) | (simp; omega) | omega)).trans (by first | with_reducible assumption | (simp [go_sem]; done) | (simp [go_sem, *]; done))
          have z4_2 : w.heap.size + 1 + 1 < w4.heap.size := by omega
          have k4_2_0 : w4.cell? ⟨w.heap.size + 1 + 1, 0, none⟩ = some (.int .i64 (0)) := (b4.cell (p := ⟨w.heap.size + 1 + 1, 0, none⟩) (by first | (simp; done) | (simp; omega) | omega)).trans (by first | with_reducible assumption | (simp [go_sem]; done) | (simp [go_sem, *]; done))
          have g4_2_0 : w4.frozen? ⟨w.heap.size + 1 + 1, 0, none⟩ = false := (b4.frozen (p := ⟨w.heap.size + 1 + 1, 0, none⟩) (by first | (simp; done) | (simp; omega) | omega)).trans (by first | with_reducible assumption | (simp [go_sem]; done) | (simp [go_sem, *]; done))
          have k4_2_1 : w4.cell? ⟨w.heap.size + 1 + 1, 1, none⟩ = some (.int .i64 (0)) := (b4.cell (p := ⟨w.heap.size + 1 + 1, 1, none⟩) (by first | (simp; done) | (simp; omega) | omega)).trans (by first | with_reducible assumption | (simp [go_sem]; done) | (simp [go_sem, *]; done))
          have g4_2_1 : w4.frozen? ⟨w.heap.size + 1 + 1, 1, none⟩ = false := (b4.frozen (p := ⟨w.heap.size + 1 + 1, 1, none⟩) (by first | (simp; done) | (simp; omega) | omega)).trans (by first | with_reducible assumption | (simp [go_sem]; done) | (simp [go_sem, *]; done))
          have z4_3 : w3.heap.size < w4.heap.size := by omega
          have k4_3_0 : w4.cell? ⟨w3.heap.size, 0, none⟩ = some (.int .i64 (X)) := (b4.cell (p := ⟨w3.heap.size, 0, none⟩) (by first | (simp; done) | (simp; omega) | omega)).trans (by first | with_reducible assumption | (simp [go_sem]; done) | (simp [go_sem, *]; done))
          have g4_3_0 : w4.frozen? ⟨w3.heap.size, 0, none⟩ = false := (b4.frozen (p := ⟨w3.heap.size, 0, none⟩) (by first | (simp; done) | (simp; omega) | omega)).trans (by first | with_reducible assumption | (simp [go_sem]; done) | (simp [go_sem, *]; done))
          have k4_3_1 : w4.cell? ⟨w3.heap.size, 1, none⟩ = some (.int .i64 (XD)) := (b4.cell (p := ⟨w3.heap.size, 1, none⟩) (by first | (simp; done) | (simp; omega) | omega)).trans (by first | with_reducible assumption | (simp [go_sem]; done) | (simp [go_sem, *]; done))
          have g4_3_1 : w4.frozen? ⟨w3.heap.size, 1, none⟩ = false := (b4.frozen (p := ⟨w3.heap.size, 1, none⟩) (by first | (simp; done) | (simp; omega) | omega)).trans (by first | with_reducible assumption | (simp [go_sem]; done) | (simp [go_sem, *]; done))
          clear k3_0_0 g3_0_0 k3_0_1 g3_0_1 k3_1_0 g3_1_0 k3_1_1 g3_1_1 k3_2_0 g3_2_0 k3_2_1 g3_2_1
          go_wp2
          have kc0 := cell_regrown (w := (w4.alloc (Obj.cells #[.int .i64 (Y), .int .i64 (YD)] 24))) (a := ⟨w.heap.size, 0, none⟩) (v := .int .i64 (n)) (by first | ((repeat (first | with_reducible assumption | with_reducible refine calloc ?_ _)); done) | (simp [go_sem]; done) | (simp [go_sem, *]; done))
          have kc1 := cell_regrown (w := (w4.alloc (Obj.cells #[.int .i64 (Y), .int .i64 (YD)] 24))) (a := ⟨w.heap.size, 1, none⟩) (v := .int .i64 (d)) (by first | ((repeat (first | with_reducible assumption | with_reducible refine calloc ?_ _)); done) | (simp [go_sem]; done) | (simp [go_sem, *]; done))
          have kc2 := cell_regrown (w := (w4.alloc (Obj.cells #[.int .i64 (Y), .int .i64 (YD)] 24))) (a := ⟨w.heap.size + 1, 0, none⟩) (v := .int .i64 (m)) (by first | ((repeat (first | with_reducible assumption | with_reducible refine calloc ?_ _)); done) | (simp [go_sem]; done) | (simp [go_sem, *]; done))
          have kc3 := cell_regrown (w := (w4.alloc (Obj.cells #[.int .i64 (Y), .int .i64 (YD)] 24))) (a := ⟨w.heap.size + 1, 1, none⟩) (v := .int .i64 (k)) (by first | ((repeat (first | with_reducible assumption | with_reducible refine calloc ?_ _)); done) | (simp [go_sem]; done) | (simp [go_sem, *]; done))
          have kc4 := cell_regrown (w := (w4.alloc (Obj.cells #[.int .i64 (Y), .int .i64 (YD)] 24))) (a := ⟨w.heap.size + 1 + 1, 0, none⟩) (v := .int .i64 (0)) (by first | ((repeat (first | with_reducible assumption | with_reducible refine calloc ?_ _)); done) | (simp [go_sem]; done) | (simp [go_sem, *]; done))
          have kc5 := cell_regrown (w := (w4.alloc (Obj.cells #[.int .i64 (Y), .int .i64 (YD)] 24))) (a := ⟨w.heap.size + 1 + 1, 1, none⟩) (v := .int .i64 (0)) (by first | ((repeat (first | with_reducible assumption | with_reducible refine calloc ?_ _)); done) | (simp [go_sem]; done) | (simp [go_sem, *]; done))
          have kc6 := cell_regrown (w := (w4.alloc (Obj.cells #[.int .i64 (Y), .int .i64 (YD)] 24))) (a := ⟨w3.heap.size, 0, none⟩) (v := .int .i64 (X)) (by first | ((repeat (first | with_reducible assumption | with_reducible refine calloc ?_ _)); done) | (simp [go_sem]; done) | (simp [go_sem, *]; done))
          have kc7 := cell_regrown (w := (w4.alloc (Obj.cells #[.int .i64 (Y), .int .i64 (YD)] 24))) (a := ⟨w3.heap.size, 1, none⟩) (v := .int .i64 (XD)) (by first | ((repeat (first | with_reducible assumption | with_reducible refine calloc ?_ _)); done) | (simp [go_sem]; done) | (simp [go_sem, *]; done))
          have kc8 := cell_regrown (w := (w4.alloc (Obj.cells #[.int .i64 (Y), .int .i64 (YD)] 24))) (a := ⟨w4.heap.size, 0, none⟩) (v := .int .i64 (Y)) (by first | ((repeat (first | with_reducible assumption | with_reducible refine calloc ?_ _)); done) | (simp [go_sem]; done) | (simp [go_sem, *]; done))
          have kc9 := cell_regrown (w := (w4.alloc (Obj.cells #[.int .i64 (Y), .int .i64 (YD)] 24))) (a := ⟨w4.heap.size, 1, none⟩) (v := .int .i64 (YD)) (by first | ((repeat (first | with_reducible assumption | with_reducible refine calloc ?_ _)); done) | (simp [go_sem]; done) | (simp [go_sem, *]; done))
          refine wp_region_quiet_below (by kernel_rfl) (by kernel_rfl) ?_
          repeat (go_big_quiet_step ((first | (go_at_call 55; with_reducible exact Calls.regrown_of (qb_same (K3.out _))) | (go_at_call 55; with_reducible exact Calls.regrown_of (qb_same (K4.out _))))))
          refine wpQuiet_nil ?_
          intro w5 hw'
          have b5 : Below (w4.alloc (Obj.cells #[.int .i64 (Y), .int .i64 (YD)] 24)).heap.size (w4.alloc (Obj.cells #[.int .i64 (Y), .int .i64 (YD)] 24)) w5 := by
            obtain ⟨pp, rfl⟩ := hw'
            exact below_regrown _ _ _
          clear hw' kc0 kc1 kc2 kc3 kc4 kc5 kc6 kc7 kc8 kc9
          have s5 := b5.size
          try simp at s5
          have z5_0 : w.heap.size < w5.heap.size := by omega
          have k5_0_0 : w5.cell? ⟨w.heap.size, 0, none⟩ = some (.int .i64 (n)) := (b5.cell (p := ⟨w.heap.size, 0, none⟩) (by first | (simp; done) | (simp; omega) | omega)).trans (by first | with_reducible assumption | (simp [go_sem]; done) | (simp [go_sem, *]; done))
          have g5_0_0 : w5.frozen? ⟨w.heap.size, 0, none⟩ = false := (b5.frozen (p := ⟨w.heap.size, 0, none⟩) (by first | (simp; done) | (simp; omega) | omega)).trans (by first | with_reducible assumption | (simp [go_sem]; done) | (simp [go_sem, *]; done))
          have k5_0_1 : w5.cell? ⟨w.heap.size, 1, none⟩ = some (.int .i64 (d)) := (b5.cell (p := ⟨w.heap.size, 1, none⟩) (by first | (simp; done) | (simp; omega) | omega)).trans (by first | with_reducible assumption | (simp [go_sem]; done) | (simp [go_sem, *]; done))
          have g5_0_1 : w5.frozen? ⟨w.heap.size, 1, none⟩ = false := (b5.frozen (p := ⟨w.heap.size, 1, none⟩) (by first | (simp; done) | (simp; omega) | omega)).trans (by first | with_reducible assumption | (simp [go_sem]; done) | (simp [go_sem, *]; done))
          have z5_1 : w.heap.size + 1 < w5.heap.size := by omega
          have k5_1_0 : w5.cell? ⟨w.heap.size + 1, 0, none⟩ = some (.int .i64 (m)) := (b5.cell (p := ⟨w.heap.size + 1, 0, none⟩) (by first | (simp; done) | (simp; omega) | omega)).trans (by first | with_reducible assumption | (simp [go_sem]; done) | (simp [go_sem, *]; done))
          have g5_1_0 : w5.frozen? ⟨w.heap.size + 1, 0, none⟩ = false := (b5.frozen (p := ⟨w.heap.size + 1, 0, none⟩) (by first | (simp; done) | (simp; omega) | omega)).trans (by first | with_reducible assumption | (simp [go_sem]; done) | (simp [go_sem, *]; done))
          have k5_1_1 : w5.cell? ⟨w.heap.size + 1, 1, none⟩ = some (.int .i64 (k)) := (b5.cell (p := ⟨w.heap.size + 1, 1, none⟩) (by first | (simp; done) | (simp; omega) | omega)).trans (by first | with_reducible assumption | (simp [go_sem]; done) | (simp [go_sem, *]; done))
          have g5_1_1 : w5.frozen? ⟨w.heap.size + 1, 1, none⟩ = false := (b5.frozen (p := ⟨w.heap.size + 1, 1, none⟩) (by first | (simp; done) | (simp; omega) | omega)).trans (by first | with_reducible assumption | (simp [go_sem]; done) | (simp [go_sem, *]; done))
          have z5_2 : w.heap.size + 1 + 1 < w5.heap.size := by omega
          have k5_2_0 : w5.cell? ⟨w.heap.size + 1 + 1, 0, none⟩ = some (.int .i64 (0)) := (b5.cell (p := ⟨w.heap.size + 1 + 1, 0, none⟩) (by first | (simp; done) | (simp; omega) | omega)).trans (by first | with_reducible assumption | (simp [go_sem]; done) | (simp [go_sem, *]; done))
          have g5_2_0 : w5.frozen? ⟨w.heap.size + 1 + 1, 0, none⟩ = false := (b5.frozen (p := ⟨w.heap.size + 1 + 1, 0, none⟩) (by first | (simp; done) | (simp; omega) | omega)).trans (by first | with_reducible assumption | (simp [go_sem]; done) | (simp [go_sem, *]; done))
          have k5_2_1 : w5.cell? ⟨w.heap.size + 1 + 1, 1, none⟩ = some (.int .i64 (0)) := (b5.cell (p := ⟨w.heap.size + 1 + 1, 1, none⟩) (by first | (simp; done) | (simp; omega) | omega)).trans (by first | with_reducible assumption | (simp [go_sem]; done) | (simp [go_sem, *]; done))
          have g5_2_1 : w5.frozen? ⟨w.heap.size + 1 + 1, 1, none⟩ = false := (b5.frozen (p := ⟨w.heap.size + 1 + 1, 1, none⟩) (by first | (simp; done) | (simp; omega) | omega)).trans (by first | with_reducible assumption | (simp [go_sem]; done) | (simp [go_sem, *]; done))
          have z5_3 : w3.heap.size < w5.heap.size := by omega
          have k5_3_0 : w5.cell? ⟨w3.heap.size, 0, none⟩ = some (.int .i64 (X)) := (b5.cell (p := ⟨w3.heap.size, 0, none⟩) (by first | (simp; done) | (simp; omega) | omega)).trans (by first | with_reducible assumption | (simp [go_sem]; done) | (simp [go_sem, *]; done))
          have g5_3_0 : w5.frozen? ⟨w3.heap.size, 0, none⟩ = false := (b5.frozen (p := ⟨w3.heap.size, 0, none⟩) (by first | (simp; done) | (simp; omega) | omega)).trans (by first | with_reducible assumption | (simp [go_sem]; done) | (simp [go_sem, *]; done))
          have k5_3_1 : w5.cell? ⟨w3.heap.size, 1, none⟩ = some (.int .i64 (XD)) := (b5.cell (p := ⟨w3.heap.size, 1, none⟩) (by first | (simp; done) | (simp; omega) | omega)).trans (by first | with_reducible assumption | (simp [go_sem]; done) | (simp [go_sem, *]; done))
          have g5_3_1 : w5.frozen? ⟨w3.heap.size, 1, none⟩ = false := (b5.frozen (p := ⟨w3.heap.size, 1, none⟩) (by first | (simp; done) | (simp; omega) | omega)).trans (by first | with_reducible assumption | (simp [go_sem]; done) | (simp [go_sem, *]; done))
          have z5_4 : w4.heap.size < w5.heap.size := by omega
          have k5_4_0 : w5.cell? ⟨w4.heap.size, 0, none⟩ = some (.int .i64 (Y)) := (b5.cell (p := ⟨w4.heap.size, 0, none⟩) (by first | (simp; done) | (simp; omega) | omega)).trans (by first | with_reducible assumption | (simp [go_sem]; done) | (simp [go_sem, *]; done))
          have g5_4_0 : w5.frozen? ⟨w4.heap.size, 0, none⟩ = false := (b5.frozen (p := ⟨w4.heap.size, 0, none⟩) (by first | (simp; done) | (simp; omega) | omega)).trans (by first | with_reducible assumption | (simp [go_sem]; done) | (simp [go_sem, *]; done))
          have k5_4_1 : w5.cell? ⟨w4.heap.size, 1, none⟩ = some (.int .i64 (YD)) := (b5.cell (p := ⟨w4.heap.size, 1, none⟩) (by first | (simp; done) | (simp; omega) | omega)).trans (by first | with_reducible assumption | (simp [go_sem]; done) | (simp [go_sem, *]; done))
          have g5_4_1 : w5.frozen? ⟨w4.heap.size, 1, none⟩ = false := (b5.frozen (p := ⟨w4.heap.size, 1, none⟩) (by first | (simp; done) | (simp; omega) | omega)).trans (by first | with_reducible assumption | (simp [go_sem]; done) | (simp [go_sem, *]; done))
          clear k4_0_0 g4_0_0 k4_0_1 g4_0_1 k4_1_0 g4_1_0 k4_1_1 g4_1_1 k4_2_0 g4_2_0 k4_2_1 g4_2_1 k4_3_0 g4_3_0 k4_3_1 g4_3_1
          go_wp2
          refine bodyPost_ret (v := .tuple #[.agg #[.int .i64 0, .int .i64 0], .bool false]) (by simp [results, Try.results15, go_sem, *]) rfl ⟨rfl, ?_⟩
          (repeat (first | with_reducible exact Below.refl _ _ | with_reducible refine bl_alloc ?_ _ | with_reducible refine bl_drew ?_ | with_reducible refine bl_set ?_ (by first | (simp; done) | (simp; omega)) _ | with_reducible refine bl_call (by assumption) ?_))
        · have j0 : (X == 0) = false := by simp [hX]
          have j1 : (X != 0) = true := by simp [hX]
          have ixp : 0 < iabs X := by unfold iabs; omega
          have dq := Int.ediv_nonneg (a := 100000000000) (b := iabs X) (by omega) (by omega)
          have dq2 : (100000000000 : Int) / iabs X ≤ 100000000000 := Int.ediv_le_self _ (by omega)
          have ib : mulBig X Y = false := by simp [mulBig, hb]
          obtain ⟨p1, p2⟩ := mul_small X Y (Or.inr (by omega))
          rw [ib] at h0
          clear ib
          have r0 : MuN n d m k = okN (X * Y) (XD * YD) := by unfold MuN; rw [h0, eX, eY, eXD, eYD]; simp
          have r1 : MuD n d m k = okD (X * Y) (XD * YD) := by unfold MuD; rw [h0, eX, eY, eXD, eYD]; simp
          have r2 : MuB n d m k = ratB (X * Y) (XD * YD) := by unfold MuB; rw [h0, eX, eY, eXD, eYD]; simp
          rw [r0, r1, r2]
          clear r0 r1 r2
          obtain ⟨s1, s2⟩ := mul_bd XD YD 20000000 20000000 (by omega) (by omega) (by omega) (by omega)
          have K5 : Hid (∀ W : World, Calls Try.prog 56 #[.agg #[.int .i64 (X * Y), .int .i64 (XD * YD)]] W fun e w' => e = .returned (.tuple #[.agg #[.int .i64 (okN (X * Y) (XD * YD)), .int .i64 (okD (X * Y) (XD * YD))], .bool (ratB (X * Y) (XD * YD))]) ∧ Below W.heap.size W w') := Lib.hid fun W => by
            have h := spec_checked (X * Y) (XD * YD) W
            exact h
          clear h0 eX eY eXD eYD qa qb
          go_enter Try.func15, Try.ntmps15
          go_wp2_with fail
          refine (K1.out _).mono ?_
          rintro e w1 ⟨rfl, b1⟩
          have s1 := b1.size
          try simp at s1
          have z1_0 : w.heap.size < w1.heap.size := by omega
          have k1_0_0 : w1.cell? ⟨w.heap.size, 0, none⟩ = some (.int .i64 (n)) := (b1.cell (p := ⟨w.heap.size, 0, none⟩) (by first | (simp; done) | (simp; omega) | omega)).trans (by first | with_reducible assumption | (simp [go_sem]; done) | (simp [go_sem, *]; done))
          have g1_0_0 : w1.frozen? ⟨w.heap.size, 0, none⟩ = false := (b1.frozen (p := ⟨w.heap.size, 0, none⟩) (by first | (simp; done) | (simp; omega) | omega)).trans (by first | with_reducible assumption | (simp [go_sem]; done) | (simp [go_sem, *]; done))
          have k1_0_1 : w1.cell? ⟨w.heap.size, 1, none⟩ = some (.int .i64 (d)) := (b1.cell (p := ⟨w.heap.size, 1, none⟩) (by first | (simp; done) | (simp; omega) | omega)).trans (by first | with_reducible assumption | (simp [go_sem]; done) | (simp [go_sem, *]; done))
          have g1_0_1 : w1.frozen? ⟨w.heap.size, 1, none⟩ = false := (b1.frozen (p := ⟨w.heap.size, 1, none⟩) (by first | (simp; done) | (simp; omega) | omega)).trans (by first | with_reducible assumption | (simp [go_sem]; done) | (simp [go_sem, *]; done))
          have z1_1 : w.heap.size + 1 < w1.heap.size := by omega
          have k1_1_0 : w1.cell? ⟨w.heap.size + 1, 0, none⟩ = some (.int .i64 (m)) := (b1.cell (p := ⟨w.heap.size + 1, 0, none⟩) (by first | (simp; done) | (simp; omega) | omega)).trans (by first | with_reducible assumption | (simp [go_sem]; done) | (simp [go_sem, *]; done))
          have g1_1_0 : w1.frozen? ⟨w.heap.size + 1, 0, none⟩ = false := (b1.frozen (p := ⟨w.heap.size + 1, 0, none⟩) (by first | (simp; done) | (simp; omega) | omega)).trans (by first | with_reducible assumption | (simp [go_sem]; done) | (simp [go_sem, *]; done))
          have k1_1_1 : w1.cell? ⟨w.heap.size + 1, 1, none⟩ = some (.int .i64 (k)) := (b1.cell (p := ⟨w.heap.size + 1, 1, none⟩) (by first | (simp; done) | (simp; omega) | omega)).trans (by first | with_reducible assumption | (simp [go_sem]; done) | (simp [go_sem, *]; done))
          have g1_1_1 : w1.frozen? ⟨w.heap.size + 1, 1, none⟩ = false := (b1.frozen (p := ⟨w.heap.size + 1, 1, none⟩) (by first | (simp; done) | (simp; omega) | omega)).trans (by first | with_reducible assumption | (simp [go_sem]; done) | (simp [go_sem, *]; done))
          have z1_2 : w.heap.size + 1 + 1 < w1.heap.size := by omega
          have k1_2_0 : w1.cell? ⟨w.heap.size + 1 + 1, 0, none⟩ = some (.int .i64 (0)) := (b1.cell (p := ⟨w.heap.size + 1 + 1, 0, none⟩) (by first | (simp; done) | (simp; omega) | omega)).trans (by first | with_reducible assumption | (simp [go_sem]; done) | (simp [go_sem, *]; done))
          have g1_2_0 : w1.frozen? ⟨w.heap.size + 1 + 1, 0, none⟩ = false := (b1.frozen (p := ⟨w.heap.size + 1 + 1, 0, none⟩) (by first | (simp; done) | (simp; omega) | omega)).trans (by first | with_reducible assumption | (simp [go_sem]; done) | (simp [go_sem, *]; done))
          have k1_2_1 : w1.cell? ⟨w.heap.size + 1 + 1, 1, none⟩ = some (.int .i64 (0)) := (b1.cell (p := ⟨w.heap.size + 1 + 1, 1, none⟩) (by first | (simp; done) | (simp; omega) | omega)).trans (by first | with_reducible assumption | (simp [go_sem]; done) | (simp [go_sem, *]; done))
          have g1_2_1 : w1.frozen? ⟨w.heap.size + 1 + 1, 1, none⟩ = false := (b1.frozen (p := ⟨w.heap.size + 1 + 1, 1, none⟩) (by first | (simp; done) | (simp; omega) | omega)).trans (by first | with_reducible assumption | (simp [go_sem]; done) | (simp [go_sem, *]; done))
          go_wp2_with fail
          refine (K2.out _).mono ?_
          rintro e w2 ⟨rfl, b2⟩
          have s2 := b2.size
          try simp at s2
          have z2_0 : w.heap.size < w2.heap.size := by omega
          have k2_0_0 : w2.cell? ⟨w.heap.size, 0, none⟩ = some (.int .i64 (n)) := (b2.cell (p := ⟨w.heap.size, 0, none⟩) (by first | (simp; done) | (simp; omega) | omega)).trans (by first | with_reducible assumption | (simp [go_sem]; done) | (simp [go_sem, *]; done))
          have g2_0_0 : w2.frozen? ⟨w.heap.size, 0, none⟩ = false := (b2.frozen (p := ⟨w.heap.size, 0, none⟩) (by first | (simp; done) | (simp; omega) | omega)).trans (by first | with_reducible assumption | (simp [go_sem]; done) | (simp [go_sem, *]; done))
          have k2_0_1 : w2.cell? ⟨w.heap.size, 1, none⟩ = some (.int .i64 (d)) := (b2.cell (p := ⟨w.heap.size, 1, none⟩) (by first | (simp; done) | (simp; omega) | omega)).trans (by first | with_reducible assumption | (simp [go_sem]; done) | (simp [go_sem, *]; done))
          have g2_0_1 : w2.frozen? ⟨w.heap.size, 1, none⟩ = false := (b2.frozen (p := ⟨w.heap.size, 1, none⟩) (by first | (simp; done) | (simp; omega) | omega)).trans (by first | with_reducible assumption | (simp [go_sem]; done) | (simp [go_sem, *]; done))
          have z2_1 : w.heap.size + 1 < w2.heap.size := by omega
          have k2_1_0 : w2.cell? ⟨w.heap.size + 1, 0, none⟩ = some (.int .i64 (m)) := (b2.cell (p := ⟨w.heap.size + 1, 0, none⟩) (by first | (simp; done) | (simp; omega) | omega)).trans (by first | with_reducible assumption | (simp [go_sem]; done) | (simp [go_sem, *]; done))
          have g2_1_0 : w2.frozen? ⟨w.heap.size + 1, 0, none⟩ = false := (b2.frozen (p := ⟨w.heap.size + 1, 0, none⟩) (by first | (simp; done) | (simp; omega) | omega)).trans (by first | with_reducible assumption | (simp [go_sem]; done) | (simp [go_sem, *]; done))
          have k2_1_1 : w2.cell? ⟨w.heap.size + 1, 1, none⟩ = some (.int .i64 (k)) := (b2.cell (p := ⟨w.heap.size + 1, 1, none⟩) (by first | (simp; done) | (simp; omega) | omega)).trans (by first | with_reducible assumption | (simp [go_sem]; done) | (simp [go_sem, *]; done))
          have g2_1_1 : w2.frozen? ⟨w.heap.size + 1, 1, none⟩ = false := (b2.frozen (p := ⟨w.heap.size + 1, 1, none⟩) (by first | (simp; done) | (simp; omega) | omega)).trans (by first | with_reducible assumption | (simp [go_sem]; done) | (simp [go_sem, *]; done))
          have z2_2 : w.heap.size + 1 + 1 < w2.heap.size := by omega
          have k2_2_0 : w2.cell? ⟨w.heap.size + 1 + 1, 0, none⟩ = some (.int .i64 (0)) := (b2.cell (p := ⟨w.heap.size + 1 + 1, 0, none⟩) (by first | (simp; done) | (simp; omega) | omega)).trans (by first | with_reducible assumption | (simp [go_sem]; done) | (simp [go_sem, *]; done))
          have g2_2_0 : w2.frozen? ⟨w.heap.size + 1 + 1, 0, none⟩ = false := (b2.frozen (p := ⟨w.heap.size + 1 + 1, 0, none⟩) (by first | (simp; done) | (simp; omega) | omega)).trans (by first | with_reducible assumption | (simp [go_sem]; done) | (simp [go_sem, *]; done))
          have k2_2_1 : w2.cell? ⟨w.heap.size + 1 + 1, 1, none⟩ = some (.int .i64 (0)) := (b2.cell (p := ⟨w.heap.size + 1 + 1, 1, none⟩) (by first | (simp; done) | (simp; omega) | omega)).trans (by first | with_reducible assumption | (simp [go_sem]; done) | (simp [go_sem, *]; done))
          have g2_2_1 : w2.frozen? ⟨w.heap.size + 1 + 1, 1, none⟩ = false := (b2.frozen (p := ⟨w.heap.size + 1 + 1, 1, none⟩) (by first | (simp; done) | (simp; omega) | omega)).trans (by first | with_reducible assumption | (simp [go_sem]; done) | (simp [go_sem, *]; done))
          clear k1_0_0 g1_0_0 k1_0_1 g1_0_1 k1_1_0 g1_1_0 k1_1_1 g1_1_1 k1_2_0 g1_2_0 k1_2_1 g1_2_1
          go_wp2_with fail
          refine (P1.out _).mono ?_
          rintro e w3 ⟨rfl, b3⟩
          have s3 := b3.size
          try simp at s3
          have z3_0 : w.heap.size < w3.heap.size := by omega
          have k3_0_0 : w3.cell? ⟨w.heap.size, 0, none⟩ = some (.int .i64 (n)) := (b3.cell (p := ⟨w.heap.size, 0, none⟩) (by first | (simp; done) | (simp; omega) | omega)).trans (by first | with_reducible assumption | (simp [go_sem]; done) | (simp [go_sem, *]; done))
          have g3_0_0 : w3.frozen? ⟨w.heap.size, 0, none⟩ = false := (b3.frozen (p := ⟨w.heap.size, 0, none⟩) (by first | (simp; done) | (simp; omega) | omega)).trans (by first | with_reducible assumption | (simp [go_sem]; done) | (simp [go_sem, *]; done))
          have k3_0_1 : w3.cell? ⟨w.heap.size, 1, none⟩ = some (.int .i64 (d)) := (b3.cell (p := ⟨w.heap.size, 1, none⟩) (by first | (simp; done) | (simp; omega) | omega)).trans (by first | with_reducible assumption | (simp [go_sem]; done) | (simp [go_sem, *]; done))
          have g3_0_1 : w3.frozen? ⟨w.heap.size, 1, none⟩ = false := (b3.frozen (p := ⟨w.heap.size, 1, none⟩) (by first | (simp; done) | (simp; omega) | omega)).trans (by first | with_reducible assumption | (simp [go_sem]; done) | (simp [go_sem, *]; done))
          have z3_1 : w.heap.size + 1 < w3.heap.size := by omega
          have k3_1_0 : w3.cell? ⟨w.heap.size + 1, 0, none⟩ = some (.int .i64 (m)) := (b3.cell (p := ⟨w.heap.size + 1, 0, none⟩) (by first | (simp; done) | (simp; omega) | omega)).trans (by first | with_reducible assumption | (simp [go_sem]; done) | (simp [go_sem, *]; done))
          have g3_1_0 : w3.frozen? ⟨w.heap.size + 1, 0, none⟩ = false := (b3.frozen (p := ⟨w.heap.size + 1, 0, none⟩) (by first | (simp; done) | (simp; omega) | omega)).trans (by first | with_reducible assumption | (simp [go_sem]; done) | (simp [go_sem, *]; done))
          have k3_1_1 : w3.cell? ⟨w.heap.size + 1, 1, none⟩ = some (.int .i64 (k)) := (b3.cell (p := ⟨w.heap.size + 1, 1, none⟩) (by first | (simp; done) | (simp; omega) | omega)).trans (by first | with_reducible assumption | (simp [go_sem]; done) | (simp [go_sem, *]; done))
          have g3_1_1 : w3.frozen? ⟨w.heap.size + 1, 1, none⟩ = false := (b3.frozen (p := ⟨w.heap.size + 1, 1, none⟩) (by first | (simp; done) | (simp; omega) | omega)).trans (by first | with_reducible assumption | (simp [go_sem]; done) | (simp [go_sem, *]; done))
          have z3_2 : w.heap.size + 1 + 1 < w3.heap.size := by omega
          have k3_2_0 : w3.cell? ⟨w.heap.size + 1 + 1, 0, none⟩ = some (.int .i64 (0)) := (b3.cell (p := ⟨w.heap.size + 1 + 1, 0, none⟩) (by first | (simp; done) | (simp; omega) | omega)).trans (by first | with_reducible assumption | (simp [go_sem]; done) | (simp [go_sem, *]; done))
          have g3_2_0 : w3.frozen? ⟨w.heap.size + 1 + 1, 0, none⟩ = false := (b3.frozen (p := ⟨w.heap.size + 1 + 1, 0, none⟩) (by first | (simp; done) | (simp; omega) | omega)).trans (by first | with_reducible assumption | (simp [go_sem]; done) | (simp [go_sem, *]; done))
          have k3_2_1 : w3.cell? ⟨w.heap.size + 1 + 1, 1, none⟩ = some (.int .i64 (0)) := (b3.cell (p := ⟨w.heap.size + 1 + 1, 1, none⟩) (by first | (simp; done) | (simp; omega) | omega)).trans (by first | with_reducible assumption | (simp [go_sem]; done) | (simp [go_sem, *]; done))
          have g3_2_1 : w3.frozen? ⟨w.heap.size + 1 + 1, 1, none⟩ = false := (b3.frozen (p := ⟨w.heap.size + 1 + 1, 1, none⟩) (by first | (simp; done) | (simp; omega) | omega)).trans (by first | with_reducible assumption | (simp [go_sem]; done) | (simp [go_sem, *]; done))
          clear k2_0_0 g2_0_0 k2_0_1 g2_0_1 k2_1_0 g2_1_0 k2_1_1 g2_1_1 k2_2_0 g2_2_0 k2_2_1 g2_2_1
          go_wp2_with fail
          refine (P2.out _).mono ?_
          rintro e w4 ⟨rfl, b4⟩
          have s4 := b4.size
          try simp at s4
          have z4_0 : w.heap.size < w4.heap.size := by omega
          have k4_0_0 : w4.cell? ⟨w.heap.size, 0, none⟩ = some (.int .i64 (n)) := (b4.cell (p := ⟨w.heap.size, 0, none⟩) (by first | (simp; done) | (simp; omega) | omega)).trans (by first | with_reducible assumption | (simp [go_sem]; done) | (simp [go_sem, *]; done))
          have g4_0_0 : w4.frozen? ⟨w.heap.size, 0, none⟩ = false := (b4.frozen (p := ⟨w.heap.size, 0, none⟩) (by first | (simp; done) | (simp; omega) | omega)).trans (by first | with_reducible assumption | (simp [go_sem]; done) | (simp [go_sem, *]; done))
          have k4_0_1 : w4.cell? ⟨w.heap.size, 1, none⟩ = some (.int .i64 (d)) := (b4.cell (p := ⟨w.heap.size, 1, none⟩) (by first | (simp; done) | (simp; omega) | omega)).trans (by first | with_reducible assumption | (simp [go_sem]; done) | (simp [go_sem, *]; done))
          have g4_0_1 : w4.frozen? ⟨w.heap.size, 1, none⟩ = false := (b4.frozen (p := ⟨w.heap.size, 1, none⟩) (by first | (simp; done) | (simp; omega) | omega)).trans (by first | with_reducible assumption | (simp [go_sem]; done) | (simp [go_sem, *]; done))
          have z4_1 : w.heap.size + 1 < w4.heap.size := by omega
          have k4_1_0 : w4.cell? ⟨w.heap.size + 1, 0, none⟩ = some (.int .i64 (m)) := (b4.cell (p := ⟨w.heap.size + 1, 0, none⟩) (by first | (simp; done) | (simp; omega) | omega)).trans (by first | with_reducible assumption | (simp [go_sem]; done) | (simp [go_sem, *]; done))
          have g4_1_0 : w4.frozen? ⟨w.heap.size + 1, 0, none⟩ = false := (b4.frozen (p := ⟨w.heap.size + 1, 0, none⟩) (by first | (simp; done) | (simp; omega) | omega)).trans (by first | with_reducible assumption | (simp [go_sem]; done) | (simp [go_sem, *]; done))
          have k4_1_1 : w4.cell? ⟨w.heap.size + 1, 1, none⟩ = some (.int .i64 (k)) := (b4.cell (p := ⟨w.heap.size + 1, 1, none⟩) (by first | (simp; done) | (simp; omega) | omega)).trans (by first | with_reducible assumption | (simp [go_sem]; done) | (simp [go_sem, *]; done))
          have g4_1_1 : w4.frozen? ⟨w.heap.size + 1, 1, none⟩ = false := (b4.frozen (p := ⟨w.heap.size + 1, 1, none⟩) (by first | (simp; done) | (simp; omega) | omega)).trans (by first | with_reducible assumption | (simp [go_sem]; done) | (simp [go_sem, *]; done))
          have z4_2 : w.heap.size + 1 + 1 < w4.heap.size := by omega
          have k4_2_0 : w4.cell? ⟨w.heap.size + 1 + 1, 0, none⟩ = some (.int .i64 (0)) := (b4.cell (p := ⟨w.heap.size + 1 + 1, 0, none⟩) (by first | (simp; done) | (simp; omega) | omega)).trans (by first | with_reducible assumption | (simp [go_sem]; done) | (simp [go_sem, *]; done))
          have g4_2_0 : w4.frozen? ⟨w.heap.size + 1 + 1, 0, none⟩ = false := (b4.frozen (p := ⟨w.heap.size + 1 + 1, 0, none⟩) (by first | (simp; done) | (simp; omega) | omega)).trans (by first | with_reducible assumption | (simp [go_sem]; done) | (simp [go_sem, *]; done))
          have k4_2_1 : w4.cell? ⟨w.heap.size + 1 + 1, 1, none⟩ = some (.int .i64 (0)) := (b4.cell (p := ⟨w.heap.size + 1 + 1, 1, none⟩) (by first | (simp; done) | (simp; omega) | omega)).trans (by first | with_reducible assumption | (simp [go_sem]; done) | (simp [go_sem, *]; done))
          have g4_2_1 : w4.frozen? ⟨w.heap.size + 1 + 1, 1, none⟩ = false := (b4.frozen (p := ⟨w.heap.size + 1 + 1, 1, none⟩) (by first | (simp; done) | (simp; omega) | omega)).trans (by first | with_reducible assumption | (simp [go_sem]; done) | (simp [go_sem, *]; done))
          have z4_3 : w3.heap.size < w4.heap.size := by omega
          have k4_3_0 : w4.cell? ⟨w3.heap.size, 0, none⟩ = some (.int .i64 (X)) := (b4.cell (p := ⟨w3.heap.size, 0, none⟩) (by first | (simp; done) | (simp; omega) | omega)).trans (by first | with_reducible assumption | (simp [go_sem]; done) | (simp [go_sem, *]; done))
          have g4_3_0 : w4.frozen? ⟨w3.heap.size, 0, none⟩ = false := (b4.frozen (p := ⟨w3.heap.size, 0, none⟩) (by first | (simp; done) | (simp; omega) | omega)).trans (by first | with_reducible assumption | (simp [go_sem]; done) | (simp [go_sem, *]; done))
          have k4_3_1 : w4.cell? ⟨w3.heap.size, 1, none⟩ = some (.int .i64 (XD)) := (b4.cell (p := ⟨w3.heap.size, 1, none⟩) (by first | (simp; done) | (simp; omega) | omega)).trans (by first | with_reducible assumption | (simp [go_sem]; done) | (simp [go_sem, *]; done))
          have g4_3_1 : w4.frozen? ⟨w3.heap.size, 1, none⟩ = false := (b4.frozen (p := ⟨w3.heap.size, 1, none⟩) (by first | (simp; done) | (simp; omega) | omega)).trans (by first | with_reducible assumption | (simp [go_sem]; done) | (simp [go_sem, *]; done))
          clear k3_0_0 g3_0_0 k3_0_1 g3_0_1 k3_1_0 g3_1_0 k3_1_1 g3_1_1 k3_2_0 g3_2_0 k3_2_1 g3_2_1
          go_wp2
          have kc0 := cell_regrown (w := (w4.alloc (Obj.cells #[.int .i64 (Y), .int .i64 (YD)] 24))) (a := ⟨w.heap.size, 0, none⟩) (v := .int .i64 (n)) (by first | ((repeat (first | with_reducible assumption | with_reducible refine calloc ?_ _)); done) | (simp [go_sem]; done) | (simp [go_sem, *]; done))
          have kc1 := cell_regrown (w := (w4.alloc (Obj.cells #[.int .i64 (Y), .int .i64 (YD)] 24))) (a := ⟨w.heap.size, 1, none⟩) (v := .int .i64 (d)) (by first | ((repeat (first | with_reducible assumption | with_reducible refine calloc ?_ _)); done) | (simp [go_sem]; done) | (simp [go_sem, *]; done))
          have kc2 := cell_regrown (w := (w4.alloc (Obj.cells #[.int .i64 (Y), .int .i64 (YD)] 24))) (a := ⟨w.heap.size + 1, 0, none⟩) (v := .int .i64 (m)) (by first | ((repeat (first | with_reducible assumption | with_reducible refine calloc ?_ _)); done) | (simp [go_sem]; done) | (simp [go_sem, *]; done))
          have kc3 := cell_regrown (w := (w4.alloc (Obj.cells #[.int .i64 (Y), .int .i64 (YD)] 24))) (a := ⟨w.heap.size + 1, 1, none⟩) (v := .int .i64 (k)) (by first | ((repeat (first | with_reducible assumption | with_reducible refine calloc ?_ _)); done) | (simp [go_sem]; done) | (simp [go_sem, *]; done))
          have kc4 := cell_regrown (w := (w4.alloc (Obj.cells #[.int .i64 (Y), .int .i64 (YD)] 24))) (a := ⟨w.heap.size + 1 + 1, 0, none⟩) (v := .int .i64 (0)) (by first | ((repeat (first | with_reducible assumption | with_reducible refine calloc ?_ _)); done) | (simp [go_sem]; done) | (simp [go_sem, *]; done))
          have kc5 := cell_regrown (w := (w4.alloc (Obj.cells #[.int .i64 (Y), .int .i64 (YD)] 24))) (a := ⟨w.heap.size + 1 + 1, 1, none⟩) (v := .int .i64 (0)) (by first | ((repeat (first | with_reducible assumption | with_reducible refine calloc ?_ _)); done) | (simp [go_sem]; done) | (simp [go_sem, *]; done))
          have kc6 := cell_regrown (w := (w4.alloc (Obj.cells #[.int .i64 (Y), .int .i64 (YD)] 24))) (a := ⟨w3.heap.size, 0, none⟩) (v := .int .i64 (X)) (by first | ((repeat (first | with_reducible assumption | with_reducible refine calloc ?_ _)); done) | (simp [go_sem]; done) | (simp [go_sem, *]; done))
          have kc7 := cell_regrown (w := (w4.alloc (Obj.cells #[.int .i64 (Y), .int .i64 (YD)] 24))) (a := ⟨w3.heap.size, 1, none⟩) (v := .int .i64 (XD)) (by first | ((repeat (first | with_reducible assumption | with_reducible refine calloc ?_ _)); done) | (simp [go_sem]; done) | (simp [go_sem, *]; done))
          have kc8 := cell_regrown (w := (w4.alloc (Obj.cells #[.int .i64 (Y), .int .i64 (YD)] 24))) (a := ⟨w4.heap.size, 0, none⟩) (v := .int .i64 (Y)) (by first | ((repeat (first | with_reducible assumption | with_reducible refine calloc ?_ _)); done) | (simp [go_sem]; done) | (simp [go_sem, *]; done))
          have kc9 := cell_regrown (w := (w4.alloc (Obj.cells #[.int .i64 (Y), .int .i64 (YD)] 24))) (a := ⟨w4.heap.size, 1, none⟩) (v := .int .i64 (YD)) (by first | ((repeat (first | with_reducible assumption | with_reducible refine calloc ?_ _)); done) | (simp [go_sem]; done) | (simp [go_sem, *]; done))
          refine wp_region_quiet_below (by kernel_rfl) (by kernel_rfl) ?_
          repeat (go_big_quiet_step ((first | (go_at_call 55; with_reducible exact Calls.regrown_of (qb_same (K3.out _))) | (go_at_call 55; with_reducible exact Calls.regrown_of (qb_same (K4.out _))))))
          refine wpQuiet_nil ?_
          intro w5 hw'
          have b5 : Below (w4.alloc (Obj.cells #[.int .i64 (Y), .int .i64 (YD)] 24)).heap.size (w4.alloc (Obj.cells #[.int .i64 (Y), .int .i64 (YD)] 24)) w5 := by
            obtain ⟨pp, rfl⟩ := hw'
            exact below_regrown _ _ _
          clear hw' kc0 kc1 kc2 kc3 kc4 kc5 kc6 kc7 kc8 kc9
          have s5 := b5.size
          try simp at s5
          have z5_0 : w.heap.size < w5.heap.size := by omega
          have k5_0_0 : w5.cell? ⟨w.heap.size, 0, none⟩ = some (.int .i64 (n)) := (b5.cell (p := ⟨w.heap.size, 0, none⟩) (by first | (simp; done) | (simp; omega) | omega)).trans (by first | with_reducible assumption | (simp [go_sem]; done) | (simp [go_sem, *]; done))
          have g5_0_0 : w5.frozen? ⟨w.heap.size, 0, none⟩ = false := (b5.frozen (p := ⟨w.heap.size, 0, none⟩) (by first | (simp; done) | (simp; omega) | omega)).trans (by first | with_reducible assumption | (simp [go_sem]; done) | (simp [go_sem, *]; done))
          have k5_0_1 : w5.cell? ⟨w.heap.size, 1, none⟩ = some (.int .i64 (d)) := (b5.cell (p := ⟨w.heap.size, 1, none⟩) (by first | (simp; done) | (simp; omega) | omega)).trans (by first | with_reducible assumption | (simp [go_sem]; done) | (simp [go_sem, *]; done))
          have g5_0_1 : w5.frozen? ⟨w.heap.size, 1, none⟩ = false := (b5.frozen (p := ⟨w.heap.size, 1, none⟩) (by first | (simp; done) | (simp; omega) | omega)).trans (by first | with_reducible assumption | (simp [go_sem]; done) | (simp [go_sem, *]; done))
          have z5_1 : w.heap.size + 1 < w5.heap.size := by omega
          have k5_1_0 : w5.cell? ⟨w.heap.size + 1, 0, none⟩ = some (.int .i64 (m)) := (b5.cell (p := ⟨w.heap.size + 1, 0, none⟩) (by first | (simp; done) | (simp; omega) | omega)).trans (by first | with_reducible assumption | (simp [go_sem]; done) | (simp [go_sem, *]; done))
          have g5_1_0 : w5.frozen? ⟨w.heap.size + 1, 0, none⟩ = false := (b5.frozen (p := ⟨w.heap.size + 1, 0, none⟩) (by first | (simp; done) | (simp; omega) | omega)).trans (by first | with_reducible assumption | (simp [go_sem]; done) | (simp [go_sem, *]; done))
          have k5_1_1 : w5.cell? ⟨w.heap.size + 1, 1, none⟩ = some (.int .i64 (k)) := (b5.cell (p := ⟨w.heap.size + 1, 1, none⟩) (by first | (simp; done) | (simp; omega) | omega)).trans (by first | with_reducible assumption | (simp [go_sem]; done) | (simp [go_sem, *]; done))
          have g5_1_1 : w5.frozen? ⟨w.heap.size + 1, 1, none⟩ = false := (b5.frozen (p := ⟨w.heap.size + 1, 1, none⟩) (by first | (simp; done) | (simp; omega) | omega)).trans (by first | with_reducible assumption | (simp [go_sem]; done) | (simp [go_sem, *]; done))
          have z5_2 : w.heap.size + 1 + 1 < w5.heap.size := by omega
          have k5_2_0 : w5.cell? ⟨w.heap.size + 1 + 1, 0, none⟩ = some (.int .i64 (0)) := (b5.cell (p := ⟨w.heap.size + 1 + 1, 0, none⟩) (by first | (simp; done) | (simp; omega) | omega)).trans (by first | with_reducible assumption | (simp [go_sem]; done) | (simp [go_sem, *]; done))
          have g5_2_0 : w5.frozen? ⟨w.heap.size + 1 + 1, 0, none⟩ = false := (b5.frozen (p := ⟨w.heap.size + 1 + 1, 0, none⟩) (by first | (simp; done) | (simp; omega) | omega)).trans (by first | with_reducible assumption | (simp [go_sem]; done) | (simp [go_sem, *]; done))
          have k5_2_1 : w5.cell? ⟨w.heap.size + 1 + 1, 1, none⟩ = some (.int .i64 (0)) := (b5.cell (p := ⟨w.heap.size + 1 + 1, 1, none⟩) (by first | (simp; done) | (simp; omega) | omega)).trans (by first | with_reducible assumption | (simp [go_sem]; done) | (simp [go_sem, *]; done))
          have g5_2_1 : w5.frozen? ⟨w.heap.size + 1 + 1, 1, none⟩ = false := (b5.frozen (p := ⟨w.heap.size + 1 + 1, 1, none⟩) (by first | (simp; done) | (simp; omega) | omega)).trans (by first | with_reducible assumption | (simp [go_sem]; done) | (simp [go_sem, *]; done))
          have z5_3 : w3.heap.size < w5.heap.size := by omega
          have k5_3_0 : w5.cell? ⟨w3.heap.size, 0, none⟩ = some (.int .i64 (X)) := (b5.cell (p := ⟨w3.heap.size, 0, none⟩) (by first | (simp; done) | (simp; omega) | omega)).trans (by first | with_reducible assumption | (simp [go_sem]; done) | (simp [go_sem, *]; done))
          have g5_3_0 : w5.frozen? ⟨w3.heap.size, 0, none⟩ = false := (b5.frozen (p := ⟨w3.heap.size, 0, none⟩) (by first | (simp; done) | (simp; omega) | omega)).trans (by first | with_reducible assumption | (simp [go_sem]; done) | (simp [go_sem, *]; done))
          have k5_3_1 : w5.cell? ⟨w3.heap.size, 1, none⟩ = some (.int .i64 (XD)) := (b5.cell (p := ⟨w3.heap.size, 1, none⟩) (by first | (simp; done) | (simp; omega) | omega)).trans (by first | with_reducible assumption | (simp [go_sem]; done) | (simp [go_sem, *]; done))
          have g5_3_1 : w5.frozen? ⟨w3.heap.size, 1, none⟩ = false := (b5.frozen (p := ⟨w3.heap.size, 1, none⟩) (by first | (simp; done) | (simp; omega) | omega)).trans (by first | with_reducible assumption | (simp [go_sem]; done) | (simp [go_sem, *]; done))
          have z5_4 : w4.heap.size < w5.heap.size := by omega
          have k5_4_0 : w5.cell? ⟨w4.heap.size, 0, none⟩ = some (.int .i64 (Y)) := (b5.cell (p := ⟨w4.heap.size, 0, none⟩) (by first | (simp; done) | (simp; omega) | omega)).trans (by first | with_reducible assumption | (simp [go_sem]; done) | (simp [go_sem, *]; done))
          have g5_4_0 : w5.frozen? ⟨w4.heap.size, 0, none⟩ = false := (b5.frozen (p := ⟨w4.heap.size, 0, none⟩) (by first | (simp; done) | (simp; omega) | omega)).trans (by first | with_reducible assumption | (simp [go_sem]; done) | (simp [go_sem, *]; done))
          have k5_4_1 : w5.cell? ⟨w4.heap.size, 1, none⟩ = some (.int .i64 (YD)) := (b5.cell (p := ⟨w4.heap.size, 1, none⟩) (by first | (simp; done) | (simp; omega) | omega)).trans (by first | with_reducible assumption | (simp [go_sem]; done) | (simp [go_sem, *]; done))
          have g5_4_1 : w5.frozen? ⟨w4.heap.size, 1, none⟩ = false := (b5.frozen (p := ⟨w4.heap.size, 1, none⟩) (by first | (simp; done) | (simp; omega) | omega)).trans (by first | with_reducible assumption | (simp [go_sem]; done) | (simp [go_sem, *]; done))
          clear k4_0_0 g4_0_0 k4_0_1 g4_0_1 k4_1_0 g4_1_0 k4_1_1 g4_1_1 k4_2_0 g4_2_0 k4_2_1 g4_2_1 k4_3_0 g4_3_0 k4_3_1 g4_3_1
          go_wp2_with fail
          refine (K5.out _).mono ?_
          rintro e w6 ⟨rfl, b6⟩
          have s6 := b6.size
          try simp at s6
          have z6_0 : w.heap.size < w6.heap.size := by omega
          have k6_0_0 : w6.cell? ⟨w.heap.size, 0, none⟩ = some (.int .i64 (n)) := (b6.cell (p := ⟨w.heap.size, 0, none⟩) (by first | (simp; done) | (simp; omega) | omega)).trans (by first | with_reducible assumption | (simp [go_sem]; done) | (simp [go_sem, *]; done))
          have g6_0_0 : w6.frozen? ⟨w.heap.size, 0, none⟩ = false := (b6.frozen (p := ⟨w.heap.size, 0, none⟩) (by first | (simp; done) | (simp; omega) | omega)).trans (by first | with_reducible assumption | (simp [go_sem]; done) | (simp [go_sem, *]; done))
          have k6_0_1 : w6.cell? ⟨w.heap.size, 1, none⟩ = some (.int .i64 (d)) := (b6.cell (p := ⟨w.heap.size, 1, none⟩) (by first | (simp; done) | (simp; omega) | omega)).trans (by first | with_reducible assumption | (simp [go_sem]; done) | (simp [go_sem, *]; done))
          have g6_0_1 : w6.frozen? ⟨w.heap.size, 1, none⟩ = false := (b6.frozen (p := ⟨w.heap.size, 1, none⟩) (by first | (simp; done) | (simp; omega) | omega)).trans (by first | with_reducible assumption | (simp [go_sem]; done) | (simp [go_sem, *]; done))
          have z6_1 : w.heap.size + 1 < w6.heap.size := by omega
          have k6_1_0 : w6.cell? ⟨w.heap.size + 1, 0, none⟩ = some (.int .i64 (m)) := (b6.cell (p := ⟨w.heap.size + 1, 0, none⟩) (by first | (simp; done) | (simp; omega) | omega)).trans (by first | with_reducible assumption | (simp [go_sem]; done) | (simp [go_sem, *]; done))
          have g6_1_0 : w6.frozen? ⟨w.heap.size + 1, 0, none⟩ = false := (b6.frozen (p := ⟨w.heap.size + 1, 0, none⟩) (by first | (simp; done) | (simp; omega) | omega)).trans (by first | with_reducible assumption | (simp [go_sem]; done) | (simp [go_sem, *]; done))
          have k6_1_1 : w6.cell? ⟨w.heap.size + 1, 1, none⟩ = some (.int .i64 (k)) := (b6.cell (p := ⟨w.heap.size + 1, 1, none⟩) (by first | (simp; done) | (simp; omega) | omega)).trans (by first | with_reducible assumption | (simp [go_sem]; done) | (simp [go_sem, *]; done))
          have g6_1_1 : w6.frozen? ⟨w.heap.size + 1, 1, none⟩ = false := (b6.frozen (p := ⟨w.heap.size + 1, 1, none⟩) (by first | (simp; done) | (simp; omega) | omega)).trans (by first | with_reducible assumption | (simp [go_sem]; done) | (simp [go_sem, *]; done))
          have z6_2 : w.heap.size + 1 + 1 < w6.heap.size := by omega
          have k6_2_0 : w6.cell? ⟨w.heap.size + 1 + 1, 0, none⟩ = some (.int .i64 (0)) := (b6.cell (p := ⟨w.heap.size + 1 + 1, 0, none⟩) (by first | (simp; done) | (simp; omega) | omega)).trans (by first | with_reducible assumption | (simp [go_sem]; done) | (simp [go_sem, *]; done))
          have g6_2_0 : w6.frozen? ⟨w.heap.size + 1 + 1, 0, none⟩ = false := (b6.frozen (p := ⟨w.heap.size + 1 + 1, 0, none⟩) (by first | (simp; done) | (simp; omega) | omega)).trans (by first | with_reducible assumption | (simp [go_sem]; done) | (simp [go_sem, *]; done))
          have k6_2_1 : w6.cell? ⟨w.heap.size + 1 + 1, 1, none⟩ = some (.int .i64 (0)) := (b6.cell (p := ⟨w.heap.size + 1 + 1, 1, none⟩) (by first | (simp; done) | (simp; omega) | omega)).trans (by first | with_reducible assumption | (simp [go_sem]; done) | (simp [go_sem, *]; done))
          have g6_2_1 : w6.frozen? ⟨w.heap.size + 1 + 1, 1, none⟩ = false := (b6.frozen (p := ⟨w.heap.size + 1 + 1, 1, none⟩) (by first | (simp; done) | (simp; omega) | omega)).trans (by first | with_reducible assumption | (simp [go_sem]; done) | (simp [go_sem, *]; done))
          have z6_3 : w3.heap.size < w6.heap.size := by omega
          have k6_3_0 : w6.cell? ⟨w3.heap.size, 0, none⟩ = some (.int .i64 (X)) := (b6.cell (p := ⟨w3.heap.size, 0, none⟩) (by first | (simp; done) | (simp; omega) | omega)).trans (by first | with_reducible assumption | (simp [go_sem]; done) | (simp [go_sem, *]; done))
          have g6_3_0 : w6.frozen? ⟨w3.heap.size, 0, none⟩ = false := (b6.frozen (p := ⟨w3.heap.size, 0, none⟩) (by first | (simp; done) | (simp; omega) | omega)).trans (by first | with_reducible assumption | (simp [go_sem]; done) | (simp [go_sem, *]; done))
          have k6_3_1 : w6.cell? ⟨w3.heap.size, 1, none⟩ = some (.int .i64 (XD)) := (b6.cell (p := ⟨w3.heap.size, 1, none⟩) (by first | (simp; done) | (simp; omega) | omega)).trans (by first | with_reducible assumption | (simp [go_sem]; done) | (simp [go_sem, *]; done))
          have g6_3_1 : w6.frozen? ⟨w3.heap.size, 1, none⟩ = false := (b6.frozen (p := ⟨w3.heap.size, 1, none⟩) (by first | (simp; done) | (simp; omega) | omega)).trans (by first | with_reducible assumption | (simp [go_sem]; done) | (simp [go_sem, *]; done))
          have z6_4 : w4.heap.size < w6.heap.size := by omega
          have k6_4_0 : w6.cell? ⟨w4.heap.size, 0, none⟩ = some (.int .i64 (Y)) := (b6.cell (p := ⟨w4.heap.size, 0, none⟩) (by first | (simp; done) | (simp; omega) | omega)).trans (by first | with_reducible assumption | (simp [go_sem]; done) | (simp [go_sem, *]; done))
          have g6_4_0 : w6.frozen? ⟨w4.heap.size, 0, none⟩ = false := (b6.frozen (p := ⟨w4.heap.size, 0, none⟩) (by first | (simp; done) | (simp; omega) | omega)).trans (by first | with_reducible assumption | (simp [go_sem]; done) | (simp [go_sem, *]; done))
          have k6_4_1 : w6.cell? ⟨w4.heap.size, 1, none⟩ = some (.int .i64 (YD)) := (b6.cell (p := ⟨w4.heap.size, 1, none⟩) (by first | (simp; done) | (simp; omega) | omega)).trans (by first | with_reducible assumption | (simp [go_sem]; done) | (simp [go_sem, *]; done))
          have g6_4_1 : w6.frozen? ⟨w4.heap.size, 1, none⟩ = false := (b6.frozen (p := ⟨w4.heap.size, 1, none⟩) (by first | (simp; done) | (simp; omega) | omega)).trans (by first | with_reducible assumption | (simp [go_sem]; done) | (simp [go_sem, *]; done))
          clear k5_0_0 g5_0_0 k5_0_1 g5_0_1 k5_1_0 g5_1_0 k5_1_1 g5_1_1 k5_2_0 g5_2_0 k5_2_1 g5_2_1 k5_3_0 g5_3_0 k5_3_1 g5_3_1 k5_4_0 g5_4_0 k5_4_1 g5_4_1
          go_wp2
          refine bodyPost_ret (v := .tuple #[.agg #[.int .i64 (okN (X * Y) (XD * YD)), .int .i64 (okD (X * Y) (XD * YD))], .bool (ratB (X * Y) (XD * YD))]) (by simp [results, Try.results15, go_sem, *]) rfl ⟨rfl, ?_⟩
          (repeat (first | with_reducible exact Below.refl _ _ | with_reducible refine bl_alloc ?_ _ | with_reducible refine bl_drew ?_ | with_reducible refine bl_set ?_ (by first | (simp; done) | (simp; omega)) _ | with_reducible refine bl_call (by assumption) ?_))

set_option maxHeartbeats 4000000 in
theorem impl_MulRats (n : Int) (d : Int) (m : Int) (k : Int) (w : World) :
    Calls Try.prog 17 #[.agg #[.int .i64 n, .int .i64 d], .agg #[.int .i64 m, .int .i64 k]] w fun e w' => e = .returned (.tuple #[.agg #[.int .i64 (MuN n d m k), .int .i64 (MuD n d m k)], .bool (MuB n d m k)]) ∧ Below w.heap.size w w' := by
  cases qa : ratB n d with
  | false =>
    have hk : mulOk n d m k = false := by simp [mulOk, rr, qa]
    have r0 : MuN n d m k = 0 := by simp [MuN, hk]
    have r1 : MuD n d m k = 0 := by simp [MuD, hk]
    have r2 : MuB n d m k = false := by simp [MuB, hk]
    rw [r0, r1, r2]
    clear r0 r1 r2 hk
    have K1 : Hid (∀ W : World, Calls Try.prog 57 #[.agg #[.int .i64 n, .int .i64 d]] W fun e w' => e = .returned (.bool false) ∧ Below W.heap.size W w') := Lib.hid fun W => by
      have h := impl_Rat_valid (n) (d) W
      rw [qa] at h
      exact h
    clear qa
    go_enter Try.func17, Try.ntmps17
    go_wp2_with fail
    refine (K1.out _).mono ?_
    rintro e w1 ⟨rfl, b1⟩
    have s1 := b1.size
    try simp at s1
    have z1_0 : w.heap.size < w1.heap.size := by omega
    have k1_0_0 : w1.cell? ⟨w.heap.size, 0, none⟩ = some (.int .i64 (n)) := (b1.cell (p := ⟨w.heap.size, 0, none⟩) (by first | (simp; done) | (simp; omega) | omega)).trans (by first | with_reducible assumption | (simp [go_sem]; done) | (simp [go_sem, *]; done))
    have g1_0_0 : w1.frozen? ⟨w.heap.size, 0, none⟩ = false := (b1.frozen (p := ⟨w.heap.size, 0, none⟩) (by first | (simp; done) | (simp; omega) | omega)).trans (by first | with_reducible assumption | (simp [go_sem]; done) | (simp [go_sem, *]; done))
    have k1_0_1 : w1.cell? ⟨w.heap.size, 1, none⟩ = some (.int .i64 (d)) := (b1.cell (p := ⟨w.heap.size, 1, none⟩) (by first | (simp; done) | (simp; omega) | omega)).trans (by first | with_reducible assumption | (simp [go_sem]; done) | (simp [go_sem, *]; done))
    have g1_0_1 : w1.frozen? ⟨w.heap.size, 1, none⟩ = false := (b1.frozen (p := ⟨w.heap.size, 1, none⟩) (by first | (simp; done) | (simp; omega) | omega)).trans (by first | with_reducible assumption | (simp [go_sem]; done) | (simp [go_sem, *]; done))
    have z1_1 : w.heap.size + 1 < w1.heap.size := by omega
    have k1_1_0 : w1.cell? ⟨w.heap.size + 1, 0, none⟩ = some (.int .i64 (m)) := (b1.cell (p := ⟨w.heap.size + 1, 0, none⟩) (by first | (simp; done) | (simp; omega) | omega)).trans (by first | with_reducible assumption | (simp [go_sem]; done) | (simp [go_sem, *]; done))
    have g1_1_0 : w1.frozen? ⟨w.heap.size + 1, 0, none⟩ = false := (b1.frozen (p := ⟨w.heap.size + 1, 0, none⟩) (by first | (simp; done) | (simp; omega) | omega)).trans (by first | with_reducible assumption | (simp [go_sem]; done) | (simp [go_sem, *]; done))
    have k1_1_1 : w1.cell? ⟨w.heap.size + 1, 1, none⟩ = some (.int .i64 (k)) := (b1.cell (p := ⟨w.heap.size + 1, 1, none⟩) (by first | (simp; done) | (simp; omega) | omega)).trans (by first | with_reducible assumption | (simp [go_sem]; done) | (simp [go_sem, *]; done))
    have g1_1_1 : w1.frozen? ⟨w.heap.size + 1, 1, none⟩ = false := (b1.frozen (p := ⟨w.heap.size + 1, 1, none⟩) (by first | (simp; done) | (simp; omega) | omega)).trans (by first | with_reducible assumption | (simp [go_sem]; done) | (simp [go_sem, *]; done))
    have z1_2 : w.heap.size + 1 + 1 < w1.heap.size := by omega
    have k1_2_0 : w1.cell? ⟨w.heap.size + 1 + 1, 0, none⟩ = some (.int .i64 (0)) := (b1.cell (p := ⟨w.heap.size + 1 + 1, 0, none⟩) (by first | (simp; done) | (simp; omega) | omega)).trans (by first | with_reducible assumption | (simp [go_sem]; done) | (simp [go_sem, *]; done))
    have g1_2_0 : w1.frozen? ⟨w.heap.size + 1 + 1, 0, none⟩ = false := (b1.frozen (p := ⟨w.heap.size + 1 + 1, 0, none⟩) (by first | (simp; done) | (simp; omega) | omega)).trans (by first | with_reducible assumption | (simp [go_sem]; done) | (simp [go_sem, *]; done))
    have k1_2_1 : w1.cell? ⟨w.heap.size + 1 + 1, 1, none⟩ = some (.int .i64 (0)) := (b1.cell (p := ⟨w.heap.size + 1 + 1, 1, none⟩) (by first | (simp; done) | (simp; omega) | omega)).trans (by first | with_reducible assumption | (simp [go_sem]; done) | (simp [go_sem, *]; done))
    have g1_2_1 : w1.frozen? ⟨w.heap.size + 1 + 1, 1, none⟩ = false := (b1.frozen (p := ⟨w.heap.size + 1 + 1, 1, none⟩) (by first | (simp; done) | (simp; omega) | omega)).trans (by first | with_reducible assumption | (simp [go_sem]; done) | (simp [go_sem, *]; done))
    go_wp2
    refine bodyPost_ret (v := .tuple #[.agg #[.int .i64 0, .int .i64 0], .bool false]) (by simp [results, Try.results17, go_sem, *]) rfl ⟨rfl, ?_⟩
    (repeat (first | with_reducible exact Below.refl _ _ | with_reducible refine bl_alloc ?_ _ | with_reducible refine bl_drew ?_ | with_reducible refine bl_set ?_ (by first | (simp; done) | (simp; omega)) _ | with_reducible refine bl_call (by assumption) ?_))
  
  | true =>
    cases qb : ratB m k with
    | false =>
      have hk : mulOk n d m k = false := by simp [mulOk, rr, qa, qb]
      have r0 : MuN n d m k = 0 := by simp [MuN, hk]
      have r1 : MuD n d m k = 0 := by simp [MuD, hk]
      have r2 : MuB n d m k = false := by simp [MuB, hk]
      rw [r0, r1, r2]
      clear r0 r1 r2 hk
      have K1 : Hid (∀ W : World, Calls Try.prog 57 #[.agg #[.int .i64 n, .int .i64 d]] W fun e w' => e = .returned (.bool true) ∧ Below W.heap.size W w') := Lib.hid fun W => by
        have h := impl_Rat_valid (n) (d) W
        rw [qa] at h
        exact h
      have K2 : Hid (∀ W : World, Calls Try.prog 57 #[.agg #[.int .i64 m, .int .i64 k]] W fun e w' => e = .returned (.bool false) ∧ Below W.heap.size W w') := Lib.hid fun W => by
        have h := impl_Rat_valid (m) (k) W
        rw [qb] at h
        exact h
      clear qa qb
      go_enter Try.func17, Try.ntmps17
      go_wp2_with fail
      refine (K1.out _).mono ?_
      rintro e w1 ⟨rfl, b1⟩
      have s1 := b1.size
      try simp at s1
      have z1_0 : w.heap.size < w1.heap.size := by omega
      have k1_0_0 : w1.cell? ⟨w.heap.size, 0, none⟩ = some (.int .i64 (n)) := (b1.cell (p := ⟨w.heap.size, 0, none⟩) (by first | (simp; done) | (simp; omega) | omega)).trans (by first | with_reducible assumption | (simp [go_sem]; done) | (simp [go_sem, *]; done))
      have g1_0_0 : w1.frozen? ⟨w.heap.size, 0, none⟩ = false := (b1.frozen (p := ⟨w.heap.size, 0, none⟩) (by first | (simp; done) | (simp; omega) | omega)).trans (by first | with_reducible assumption | (simp [go_sem]; done) | (simp [go_sem, *]; done))
      have k1_0_1 : w1.cell? ⟨w.heap.size, 1, none⟩ = some (.int .i64 (d)) := (b1.cell (p := ⟨w.heap.size, 1, none⟩) (by first | (simp; done) | (simp; omega) | omega)).trans (by first | with_reducible assumption | (simp [go_sem]; done) | (simp [go_sem, *]; done))
      have g1_0_1 : w1.frozen? ⟨w.heap.size, 1, none⟩ = false := (b1.frozen (p := ⟨w.heap.size, 1, none⟩) (by first | (simp; done) | (simp; omega) | omega)).trans (by first | with_reducible assumption | (simp [go_sem]; done) | (simp [go_sem, *]; done))
      have z1_1 : w.heap.size + 1 < w1.heap.size := by omega
      have k1_1_0 : w1.cell? ⟨w.heap.size + 1, 0, none⟩ = some (.int .i64 (m)) := (b1.cell (p := ⟨w.heap.size + 1, 0, none⟩) (by first | (simp; done) | (simp; omega) | omega)).trans (by first | with_reducible assumption | (simp [go_sem]; done) | (simp [go_sem, *]; done))
      have g1_1_0 : w1.frozen? ⟨w.heap.size + 1, 0, none⟩ = false := (b1.frozen (p := ⟨w.heap.size + 1, 0, none⟩) (by first | (simp; done) | (simp; omega) | omega)).trans (by first | with_reducible assumption | (simp [go_sem]; done) | (simp [go_sem, *]; done))
      have k1_1_1 : w1.cell? ⟨w.heap.size + 1, 1, none⟩ = some (.int .i64 (k)) := (b1.cell (p := ⟨w.heap.size + 1, 1, none⟩) (by first | (simp; done) | (simp; omega) | omega)).trans (by first | with_reducible assumption | (simp [go_sem]; done) | (simp [go_sem, *]; done))
      have g1_1_1 : w1.frozen? ⟨w.heap.size + 1, 1, none⟩ = false := (b1.frozen (p := ⟨w.heap.size + 1, 1, none⟩) (by first | (simp; done) | (simp; omega) | omega)).trans (by first | with_reducible assumption | (simp [go_sem]; done) | (simp [go_sem, *]; done))
      have z1_2 : w.heap.size + 1 + 1 < w1.heap.size := by omega
      have k1_2_0 : w1.cell? ⟨w.heap.size + 1 + 1, 0, none⟩ = some (.int .i64 (0)) := (b1.cell (p := ⟨w.heap.size + 1 + 1, 0, none⟩) (by first | (simp; done) | (simp; omega) | omega)).trans (by first | with_reducible assumption | (simp [go_sem]; done) | (simp [go_sem, *]; done))
      have g1_2_0 : w1.frozen? ⟨w.heap.size + 1 + 1, 0, none⟩ = false := (b1.frozen (p := ⟨w.heap.size + 1 + 1, 0, none⟩) (by first | (simp; done) | (simp; omega) | omega)).trans (by first | with_reducible assumption | (simp [go_sem]; done) | (simp [go_sem, *]; done))
      have k1_2_1 : w1.cell? ⟨w.heap.size + 1 + 1, 1, none⟩ = some (.int .i64 (0)) := (b1.cell (p := ⟨w.heap.size + 1 + 1, 1, none⟩) (by first | (simp; done) | (simp; omega) | omega)).trans (by first | with_reducible assumption | (simp [go_sem]; done) | (simp [go_sem, *]; done))
      have g1_2_1 : w1.frozen? ⟨w.heap.size + 1 + 1, 1, none⟩ = false := (b1.frozen (p := ⟨w.heap.size + 1 + 1, 1, none⟩) (by first | (simp; done) | (simp; omega) | omega)).trans (by first | with_reducible assumption | (simp [go_sem]; done) | (simp [go_sem, *]; done))
      go_wp2_with fail
      refine (K2.out _).mono ?_
      rintro e w2 ⟨rfl, b2⟩
      have s2 := b2.size
      try simp at s2
      have z2_0 : w.heap.size < w2.heap.size := by omega
      have k2_0_0 : w2.cell? ⟨w.heap.size, 0, none⟩ = some (.int .i64 (n)) := (b2.cell (p := ⟨w.heap.size, 0, none⟩) (by first | (simp; done) | (simp; omega) | omega)).trans (by first | with_reducible assumption | (simp [go_sem]; done) | (simp [go_sem, *]; done))
      have g2_0_0 : w2.frozen? ⟨w.heap.size, 0, none⟩ = false := (b2.frozen (p := ⟨w.heap.size, 0, none⟩) (by first | (simp; done) | (simp; omega) | omega)).trans (by first | with_reducible assumption | (simp [go_sem]; done) | (simp [go_sem, *]; done))
      have k2_0_1 : w2.cell? ⟨w.heap.size, 1, none⟩ = some (.int .i64 (d)) := (b2.cell (p := ⟨w.heap.size, 1, none⟩) (by first | (simp; done) | (simp; omega) | omega)).trans (by first | with_reducible assumption | (simp [go_sem]; done) | (simp [go_sem, *]; done))
      have g2_0_1 : w2.frozen? ⟨w.heap.size, 1, none⟩ = false := (b2.frozen (p := ⟨w.heap.size, 1, none⟩) (by first | (simp; done) | (simp; omega) | omega)).trans (by first | with_reducible assumption | (simp [go_sem]; done) | (simp [go_sem, *]; done))
      have z2_1 : w.heap.size + 1 < w2.heap.size := by omega
      have k2_1_0 : w2.cell? ⟨w.heap.size + 1, 0, none⟩ = some (.int .i64 (m)) := (b2.cell (p := ⟨w.heap.size + 1, 0, none⟩) (by first | (simp; done) | (simp; omega) | omega)).trans (by first | with_reducible assumption | (simp [go_sem]; done) | (simp [go_sem, *]; done))
      have g2_1_0 : w2.frozen? ⟨w.heap.size + 1, 0, none⟩ = false := (b2.frozen (p := ⟨w.heap.size + 1, 0, none⟩) (by first | (simp; done) | (simp; omega) | omega)).trans (by first | with_reducible assumption | (simp [go_sem]; done) | (simp [go_sem, *]; done))
      have k2_1_1 : w2.cell? ⟨w.heap.size + 1, 1, none⟩ = some (.int .i64 (k)) := (b2.cell (p := ⟨w.heap.size + 1, 1, none⟩) (by first | (simp; done) | (simp; omega) | omega)).trans (by first | with_reducible assumption | (simp [go_sem]; done) | (simp [go_sem, *]; done))
      have g2_1_1 : w2.frozen? ⟨w.heap.size + 1, 1, none⟩ = false := (b2.frozen (p := ⟨w.heap.size + 1, 1, none⟩) (by first | (simp; done) | (simp; omega) | omega)).trans (by first | with_reducible assumption | (simp [go_sem]; done) | (simp [go_sem, *]; done))
      have z2_2 : w.heap.size + 1 + 1 < w2.heap.size := by omega
      have k2_2_0 : w2.cell? ⟨w.heap.size + 1 + 1, 0, none⟩ = some (.int .i64 (0)) := (b2.cell (p := ⟨w.heap.size + 1 + 1, 0, none⟩) (by first | (simp; done) | (simp; omega) | omega)).trans (by first | with_reducible assumption | (simp [go_sem]; done) | (simp [go_sem, *]; done))
      have g2_2_0 : w2.frozen? ⟨w.heap.size + 1 + 1, 0, none⟩ = false := (b2.frozen (p := ⟨w.heap.size + 1 + 1, 0, none⟩) (by first | (simp; done) | (simp; omega) | omega)).trans (by first | with_reducible assumption | (simp [go_sem]; done) | (simp [go_sem, *]; done))
      have k2_2_1 : w2.cell? ⟨w.heap.size + 1 + 1, 1, none⟩ = some (.int .i64 (0)) := (b2.cell (p := ⟨w.heap.size + 1 + 1, 1, none⟩) (by first | (simp; done) | (simp; omega) | omega)).trans (by first | with_reducible assumption | (simp [go_sem]; done) | (simp [go_sem, *]; done))
      have g2_2_1 : w2.frozen? ⟨w.heap.size + 1 + 1, 1, none⟩ = false := (b2.frozen (p := ⟨w.heap.size + 1 + 1, 1, none⟩) (by first | (simp; done) | (simp; omega) | omega)).trans (by first | with_reducible assumption | (simp [go_sem]; done) | (simp [go_sem, *]; done))
      clear k1_0_0 g1_0_0 k1_0_1 g1_0_1 k1_1_0 g1_1_0 k1_1_1 g1_1_1 k1_2_0 g1_2_0 k1_2_1 g1_2_1
      go_wp2
      refine bodyPost_ret (v := .tuple #[.agg #[.int .i64 0, .int .i64 0], .bool false]) (by simp [results, Try.results17, go_sem, *]) rfl ⟨rfl, ?_⟩
      (repeat (first | with_reducible exact Below.refl _ _ | with_reducible refine bl_alloc ?_ _ | with_reducible refine bl_drew ?_ | with_reducible refine bl_set ?_ (by first | (simp; done) | (simp; omega)) _ | with_reducible refine bl_call (by assumption) ?_))
  
    | true =>
      obtain ⟨⟨ln, un⟩, ⟨ld, ud⟩⟩ := ratB_true qa
      obtain ⟨⟨lm, um⟩, ⟨lk, uk⟩⟩ := ratB_true qb
      have h0 : mulOk n d m k = !mulBig (redN n k) (redN m d) := by simp [mulOk, rr, qa, qb]
      obtain ⟨bx1, bx2⟩ := redN_bd n k 100000000000 ⟨by omega, by omega⟩
      obtain ⟨by1, by2⟩ := redN_bd m d 100000000000 ⟨by omega, by omega⟩
      obtain ⟨cx1, cx2⟩ := redD_bd n k 20000000 ⟨by omega, by omega⟩
      obtain ⟨cy1, cy2⟩ := redD_bd m d 20000000 ⟨by omega, by omega⟩
      have K1 : Hid (∀ W : World, Calls Try.prog 57 #[.agg #[.int .i64 n, .int .i64 d]] W fun e w' => e = .returned (.bool true) ∧ Below W.heap.size W w') := Lib.hid fun W => by
        have h := impl_Rat_valid (n) (d) W
        rw [qa] at h
        exact h
      have K2 : Hid (∀ W : World, Calls Try.prog 57 #[.agg #[.int .i64 m, .int .i64 k]] W fun e w' => e = .returned (.bool true) ∧ Below W.heap.size W w') := Lib.hid fun W => by
        have h := impl_Rat_valid (m) (k) W
        rw [qb] at h
        exact h
      obtain ⟨X, eX⟩ : ∃ v, redN n k = v := ⟨_, rfl⟩
      obtain ⟨XD, eXD⟩ : ∃ v, redD n k = v := ⟨_, rfl⟩
      obtain ⟨Y, eY⟩ : ∃ v, redN m d = v := ⟨_, rfl⟩
      obtain ⟨YD, eYD⟩ : ∃ v, redD m d = v := ⟨_, rfl⟩
      have P1 : Hid (∀ W : World, Calls Try.prog 58 #[.int .i64 n, .int .i64 k] W fun e w' => e = .returned (.agg #[.int .i64 X, .int .i64 XD]) ∧ Below W.heap.size W w') := Lib.hid fun W => by
        have h := impl_reduced n k W (by omega) (by omega) (by omega) (by omega) (by omega)
        rw [eX, eXD] at h
        exact h
      have P2 : Hid (∀ W : World, Calls Try.prog 58 #[.int .i64 m, .int .i64 d] W fun e w' => e = .returned (.agg #[.int .i64 Y, .int .i64 YD]) ∧ Below W.heap.size W w') := Lib.hid fun W => by
        have h := impl_reduced m d W (by omega) (by omega) (by omega) (by omega) (by omega)
        rw [eY, eYD] at h
        exact h
      rw [eX] at bx1 bx2 h0
      rw [eY] at by1 by2 h0
      rw [eXD] at cx1 cx2
      rw [eYD] at cy1 cy2
      have ix1 := iabs_nn0 X
      have iy1 := iabs_nn0 Y
      have ix2 : iabs X ≤ 100000000000 := by unfold iabs; omega
      have iy2 : iabs Y ≤ 100000000000 := by unfold iabs; omega
      have K3 : Hid (∀ W : World, Calls Try.prog 59 #[.int .i64 X] W fun e w' => e = .returned (.int .i64 (iabs X)) ∧ W = w') := Lib.hid fun W => by
        have h := impl_abs (X) W (by omega) (by omega)
        exact h
      have K4 : Hid (∀ W : World, Calls Try.prog 59 #[.int .i64 Y] W fun e w' => e = .returned (.int .i64 (iabs Y)) ∧ W = w') := Lib.hid fun W => by
        have h := impl_abs (Y) W (by omega) (by omega)
        exact h
      by_cases hX : X = 0
      · subst hX
        have ib : mulBig 0 Y = false := by simp [mulBig]
        rw [ib] at h0
        clear ib
        have r0 : MuN n d m k = okN (0) (XD * YD) := by unfold MuN; rw [h0, eX, eY, eXD, eYD]; simp
        have r1 : MuD n d m k = okD (0) (XD * YD) := by unfold MuD; rw [h0, eX, eY, eXD, eYD]; simp
        have r2 : MuB n d m k = ratB (0) (XD * YD) := by unfold MuB; rw [h0, eX, eY, eXD, eYD]; simp
        rw [r0, r1, r2]
        clear r0 r1 r2
        obtain ⟨s1, s2⟩ := mul_bd XD YD 20000000 20000000 (by omega) (by omega) (by omega) (by omega)
        have K5 : Hid (∀ W : World, Calls Try.prog 60 #[.agg #[.int .i64 0, .int .i64 (XD * YD)]] W fun e w' => e = .returned (.tuple #[.agg #[.int .i64 (okN (0) (XD * YD)), .int .i64 (okD (0) (XD * YD))], .bool (ratB (0) (XD * YD))]) ∧ Below W.heap.size W w') := Lib.hid fun W => by
          have h := impl_Rat_made (0) (XD * YD) W
          exact h
        clear h0 eX eY eXD eYD qa qb
        go_enter Try.func17, Try.ntmps17
        go_wp2_with fail
        refine (K1.out _).mono ?_
        rintro e w1 ⟨rfl, b1⟩
        have s1 := b1.size
        try simp at s1
        have z1_0 : w.heap.size < w1.heap.size := by omega
        have k1_0_0 : w1.cell? ⟨w.heap.size, 0, none⟩ = some (.int .i64 (n)) := (b1.cell (p := ⟨w.heap.size, 0, none⟩) (by first | (simp; done) | (simp; omega) | omega)).trans (by first | with_reducible assumption | (simp [go_sem]; done) | (simp [go_sem, *]; done))
        have g1_0_0 : w1.frozen? ⟨w.heap.size, 0, none⟩ = false := (b1.frozen (p := ⟨w.heap.size, 0, none⟩) (by first | (simp; done) | (simp; omega) | omega)).trans (by first | with_reducible assumption | (simp [go_sem]; done) | (simp [go_sem, *]; done))
        have k1_0_1 : w1.cell? ⟨w.heap.size, 1, none⟩ = some (.int .i64 (d)) := (b1.cell (p := ⟨w.heap.size, 1, none⟩) (by first | (simp; done) | (simp; omega) | omega)).trans (by first | with_reducible assumption | (simp [go_sem]; done) | (simp [go_sem, *]; done))
        have g1_0_1 : w1.frozen? ⟨w.heap.size, 1, none⟩ = false := (b1.frozen (p := ⟨w.heap.size, 1, none⟩) (by first | (simp; done) | (simp; omega) | omega)).trans (by first | with_reducible assumption | (simp [go_sem]; done) | (simp [go_sem, *]; done))
        have z1_1 : w.heap.size + 1 < w1.heap.size := by omega
        have k1_1_0 : w1.cell? ⟨w.heap.size + 1, 0, none⟩ = some (.int .i64 (m)) := (b1.cell (p := ⟨w.heap.size + 1, 0, none⟩) (by first | (simp; done) | (simp; omega) | omega)).trans (by first | with_reducible assumption | (simp [go_sem]; done) | (simp [go_sem, *]; done))
        have g1_1_0 : w1.frozen? ⟨w.heap.size + 1, 0, none⟩ = false := (b1.frozen (p := ⟨w.heap.size + 1, 0, none⟩) (by first | (simp; done) | (simp; omega) | omega)).trans (by first | with_reducible assumption | (simp [go_sem]; done) | (simp [go_sem, *]; done))
        have k1_1_1 : w1.cell? ⟨w.heap.size + 1, 1, none⟩ = some (.int .i64 (k)) := (b1.cell (p := ⟨w.heap.size + 1, 1, none⟩) (by first | (simp; done) | (simp; omega) | omega)).trans (by first | with_reducible assumption | (simp [go_sem]; done) | (simp [go_sem, *]; done))
        have g1_1_1 : w1.frozen? ⟨w.heap.size + 1, 1, none⟩ = false := (b1.frozen (p := ⟨w.heap.size + 1, 1, none⟩) (by first | (simp; done) | (simp; omega) | omega)).trans (by first | with_reducible assumption | (simp [go_sem]; done) | (simp [go_sem, *]; done))
        have z1_2 : w.heap.size + 1 + 1 < w1.heap.size := by omega
        have k1_2_0 : w1.cell? ⟨w.heap.size + 1 + 1, 0, none⟩ = some (.int .i64 (0)) := (b1.cell (p := ⟨w.heap.size + 1 + 1, 0, none⟩) (by first | (simp; done) | (simp; omega) | omega)).trans (by first | with_reducible assumption | (simp [go_sem]; done) | (simp [go_sem, *]; done))
        have g1_2_0 : w1.frozen? ⟨w.heap.size + 1 + 1, 0, none⟩ = false := (b1.frozen (p := ⟨w.heap.size + 1 + 1, 0, none⟩) (by first | (simp; done) | (simp; omega) | omega)).trans (by first | with_reducible assumption | (simp [go_sem]; done) | (simp [go_sem, *]; done))
        have k1_2_1 : w1.cell? ⟨w.heap.size + 1 + 1, 1, none⟩ = some (.int .i64 (0)) := (b1.cell (p := ⟨w.heap.size + 1 + 1, 1, none⟩) (by first | (simp; done) | (simp; omega) | omega)).trans (by first | with_reducible assumption | (simp [go_sem]; done) | (simp [go_sem, *]; done))
        have g1_2_1 : w1.frozen? ⟨w.heap.size + 1 + 1, 1, none⟩ = false := (b1.frozen (p := ⟨w.heap.size + 1 + 1, 1, none⟩) (by first | (simp; done) | (simp; omega) | omega)).trans (by first | with_reducible assumption | (simp [go_sem]; done) | (simp [go_sem, *]; done))
        go_wp2_with fail
        refine (K2.out _).mono ?_
        rintro e w2 ⟨rfl, b2⟩
        have s2 := b2.size
        try simp at s2
        have z2_0 : w.heap.size < w2.heap.size := by omega
        have k2_0_0 : w2.cell? ⟨w.heap.size, 0, none⟩ = some (.int .i64 (n)) := (b2.cell (p := ⟨w.heap.size, 0, none⟩) (by first | (simp; done) | (simp; omega) | omega)).trans (by first | with_reducible assumption | (simp [go_sem]; done) | (simp [go_sem, *]; done))
        have g2_0_0 : w2.frozen? ⟨w.heap.size, 0, none⟩ = false := (b2.frozen (p := ⟨w.heap.size, 0, none⟩) (by first | (simp; done) | (simp; omega) | omega)).trans (by first | with_reducible assumption | (simp [go_sem]; done) | (simp [go_sem, *]; done))
        have k2_0_1 : w2.cell? ⟨w.heap.size, 1, none⟩ = some (.int .i64 (d)) := (b2.cell (p := ⟨w.heap.size, 1, none⟩) (by first | (simp; done) | (simp; omega) | omega)).trans (by first | with_reducible assumption | (simp [go_sem]; done) | (simp [go_sem, *]; done))
        have g2_0_1 : w2.frozen? ⟨w.heap.size, 1, none⟩ = false := (b2.frozen (p := ⟨w.heap.size, 1, none⟩) (by first | (simp; done) | (simp; omega) | omega)).trans (by first | with_reducible assumption | (simp [go_sem]; done) | (simp [go_sem, *]; done))
        have z2_1 : w.heap.size + 1 < w2.heap.size := by omega
        have k2_1_0 : w2.cell? ⟨w.heap.size + 1, 0, none⟩ = some (.int .i64 (m)) := (b2.cell (p := ⟨w.heap.size + 1, 0, none⟩) (by first | (simp; done) | (simp; omega) | omega)).trans (by first | with_reducible assumption | (simp [go_sem]; done) | (simp [go_sem, *]; done))
        have g2_1_0 : w2.frozen? ⟨w.heap.size + 1, 0, none⟩ = false := (b2.frozen (p := ⟨w.heap.size + 1, 0, none⟩) (by first | (simp; done) | (simp; omega) | omega)).trans (by first | with_reducible assumption | (simp [go_sem]; done) | (simp [go_sem, *]; done))
        have k2_1_1 : w2.cell? ⟨w.heap.size + 1, 1, none⟩ = some (.int .i64 (k)) := (b2.cell (p := ⟨w.heap.size + 1, 1, none⟩) (by first | (simp; done) | (simp; omega) | omega)).trans (by first | with_reducible assumption | (simp [go_sem]; done) | (simp [go_sem, *]; done))
        have g2_1_1 : w2.frozen? ⟨w.heap.size + 1, 1, none⟩ = false := (b2.frozen (p := ⟨w.heap.size + 1, 1, none⟩) (by first | (simp; done) | (simp; omega) | omega)).trans (by first | with_reducible assumption | (simp [go_sem]; done) | (simp [go_sem, *]; done))
        have z2_2 : w.heap.size + 1 + 1 < w2.heap.size := by omega
        have k2_2_0 : w2.cell? ⟨w.heap.size + 1 + 1, 0, none⟩ = some (.int .i64 (0)) := (b2.cell (p := ⟨w.heap.size + 1 + 1, 0, none⟩) (by first | (simp; done) | (simp; omega) | omega)).trans (by first | with_reducible assumption | (simp [go_sem]; done) | (simp [go_sem, *]; done))
        have g2_2_0 : w2.frozen? ⟨w.heap.size + 1 + 1, 0, none⟩ = false := (b2.frozen (p := ⟨w.heap.size + 1 + 1, 0, none⟩) (by first | (simp; done) | (simp; omega) | omega)).trans (by first | with_reducible assumption | (simp [go_sem]; done) | (simp [go_sem, *]; done))
        have k2_2_1 : w2.cell? ⟨w.heap.size + 1 + 1, 1, none⟩ = some (.int .i64 (0)) := (b2.cell (p := ⟨w.heap.size + 1 + 1, 1, none⟩) (by first | (simp; done) | (simp; omega) | omega)).trans (by first | with_reducible assumption | (simp [go_sem]; done) | (simp [go_sem, *]; done))
        have g2_2_1 : w2.frozen? ⟨w.heap.size + 1 + 1, 1, none⟩ = false := (b2.frozen (p := ⟨w.heap.size + 1 + 1, 1, none⟩) (by first | (simp; done) | (simp; omega) | omega)).trans (by first | with_reducible assumption | (simp [go_sem]; done) | (simp [go_sem, *]; done))
        clear k1_0_0 g1_0_0 k1_0_1 g1_0_1 k1_1_0 g1_1_0 k1_1_1 g1_1_1 k1_2_0 g1_2_0 k1_2_1 g1_2_1
        have A0 : ∀ w', Hld w2 w' → w'.cell? ⟨w.heap.size, 0, none⟩ = some (.int .i64 n) := fun w' h => (Below.cell h (p := ⟨w.heap.size, 0, none⟩) z2_0).trans k2_0_0
        have A1 : ∀ w', Hld w2 w' → w'.cell? ⟨w.heap.size, 1, none⟩ = some (.int .i64 d) := fun w' h => (Below.cell h (p := ⟨w.heap.size, 1, none⟩) z2_0).trans k2_0_1
        have A2 : ∀ w', Hld w2 w' → w'.cell? ⟨w.heap.size + 1, 0, none⟩ = some (.int .i64 m) := fun w' h => (Below.cell h (p := ⟨w.heap.size + 1, 0, none⟩) z2_1).trans k2_1_0
        have A3 : ∀ w', Hld w2 w' → w'.cell? ⟨w.heap.size + 1, 1, none⟩ = some (.int .i64 k) := fun w' h => (Below.cell h (p := ⟨w.heap.size + 1, 1, none⟩) z2_1).trans k2_1_1
        go_upto_region 3 with fail
        go_cut [6, 7] (fun s6 s7 wx => ∃ g1 g2 : Nat, s6 = .pointer (some ⟨g1, 0, none⟩) ∧ s7 = .pointer (some ⟨g2, 0, none⟩) ∧ wx.cell? ⟨g1, 0, none⟩ = some (.int .i64 0) ∧ wx.cell? ⟨g1, 1, none⟩ = some (.int .i64 XD) ∧ wx.cell? ⟨g2, 0, none⟩ = some (.int .i64 Y) ∧ wx.cell? ⟨g2, 1, none⟩ = some (.int .i64 YD) ∧ g1 < wx.heap.size ∧ g2 < wx.heap.size ∧ Hld w2 wx)
        case first =>
          go_region_held3 (fun w' => Hld w2 w') ((repeat (first | with_reducible assumption | with_reducible exact Hld.start _ | with_reducible exact Hld.refl _ | with_reducible refine Hld.drew ?_ | with_reducible refine Hld.alloc ?_ _ | with_reducible refine Hld.set ?_ (by first | exact Nat.le_refl _ | assumption | (simp; done) | (simp; omega)) _))) (first | (go_at_call 58; (with_reducible refine (P1.out _).mono ?_); rintro e w' ⟨rfl, hb⟩; have HS : Hld w2 w' := Hld.call (by first | with_reducible assumption | with_reducible exact Hld.alloc (by with_reducible assumption) _) hb; have hsz := HS.size; (try (first | have H2 := bl_call hb H1 | have H2 := bl_call hb (bl_alloc H1 _))); (try (first | have H1 := bl_call hb H0 | have H1 := bl_call hb (bl_alloc H0 _))); have H0 := hb; (try (have hc0 := (bcell H0).1; have hf0 := (bcell H0).2)); (try (first | have l0 := lt_al H0 | have l0 := lt_ald H0)); (try (have hc1 := (bcell H1).1; have hf1 := (bcell H1).2)); (try (first | have l1 := lt_al H1 | have l1 := lt_ald H1)); (try (have hc2 := (bcell H2).1; have hf2 := (bcell H2).2)); (try (first | have l2 := lt_al H2 | have l2 := lt_ald H2)); (try (first | have m0 := lt_al2 H0 | have m0 := lt_al2d H0)); (try (have n0 := m0.1; have o0 := m0.2; clear m0)); (try (first | have m1 := lt_al2 H1 | have m1 := lt_al2d H1)); (try (have n1 := m1.1; have o1 := m1.2; clear m1)); (try (first | have m2 := lt_al2 H2 | have m2 := lt_al2d H2)); (try (have n2 := m2.1; have o2 := m2.2; clear m2))) | (go_at_call 58; (with_reducible refine (P2.out _).mono ?_); rintro e w' ⟨rfl, hb⟩; have HS : Hld w2 w' := Hld.call (by first | with_reducible assumption | with_reducible exact Hld.alloc (by with_reducible assumption) _) hb; have hsz := HS.size; (try (first | have H2 := bl_call hb H1 | have H2 := bl_call hb (bl_alloc H1 _))); (try (first | have H1 := bl_call hb H0 | have H1 := bl_call hb (bl_alloc H0 _))); have H0 := hb; (try (have hc0 := (bcell H0).1; have hf0 := (bcell H0).2)); (try (first | have l0 := lt_al H0 | have l0 := lt_ald H0)); (try (have hc1 := (bcell H1).1; have hf1 := (bcell H1).2)); (try (first | have l1 := lt_al H1 | have l1 := lt_ald H1)); (try (have hc2 := (bcell H2).1; have hf2 := (bcell H2).2)); (try (first | have l2 := lt_al H2 | have l2 := lt_ald H2)); (try (first | have m0 := lt_al2 H0 | have m0 := lt_al2d H0)); (try (have n0 := m0.1; have o0 := m0.2; clear m0)); (try (first | have m1 := lt_al2 H1 | have m1 := lt_al2d H1)); (try (have n1 := m1.1; have o1 := m1.2; clear m1)); (try (first | have m2 := lt_al2 H2 | have m2 := lt_al2d H2)); (try (have n2 := m2.1; have o2 := m2.2; clear m2))))
          all_goals (go_wp2_with fail; go_meet; exact ⟨_, _, rfl, rfl, by first | (simp [go_sem]; done) | (simp [go_sem, *]; done) | (simp (maxDischargeDepth := 8) [go_sem, *]; done), by first | (simp [go_sem]; done) | (simp [go_sem, *]; done) | (simp (maxDischargeDepth := 8) [go_sem, *]; done), by first | (simp [go_sem]; done) | (simp [go_sem, *]; done) | (simp (maxDischargeDepth := 8) [go_sem, *]; done), by first | (simp [go_sem]; done) | (simp [go_sem, *]; done) | (simp (maxDischargeDepth := 8) [go_sem, *]; done), by first | (simp; done) | (simp; omega), by first | (simp; done) | (simp; omega), by (repeat (first | with_reducible assumption | with_reducible exact Hld.start _ | with_reducible exact Hld.refl _ | with_reducible refine Hld.drew ?_ | with_reducible refine Hld.alloc ?_ _ | with_reducible refine Hld.set ?_ (by first | exact Nat.le_refl _ | assumption | (simp; done) | (simp; omega)) _))⟩)
        case rest =>
          obtain ⟨g1, g2, rfl, rfl, e0, e1, e2, e3, gz1, gz2, HW⟩ := hcut
          have bW : Below w2.heap.size w2 wc := HW
          clear A0 A1 A2 A3
          have zc_0 : w.heap.size < wc.heap.size := Nat.lt_of_lt_of_le z2_0 bW.size
          have kc_0_0 := (bW.cell (p := ⟨w.heap.size, 0, none⟩) z2_0).trans k2_0_0
          have gc_0_0 := (bW.frozen (p := ⟨w.heap.size, 0, none⟩) z2_0).trans g2_0_0
          have kc_0_1 := (bW.cell (p := ⟨w.heap.size, 1, none⟩) z2_0).trans k2_0_1
          have gc_0_1 := (bW.frozen (p := ⟨w.heap.size, 1, none⟩) z2_0).trans g2_0_1
          have zc_1 : w.heap.size + 1 < wc.heap.size := Nat.lt_of_lt_of_le z2_1 bW.size
          have kc_1_0 := (bW.cell (p := ⟨w.heap.size + 1, 0, none⟩) z2_1).trans k2_1_0
          have gc_1_0 := (bW.frozen (p := ⟨w.heap.size + 1, 0, none⟩) z2_1).trans g2_1_0
          have kc_1_1 := (bW.cell (p := ⟨w.heap.size + 1, 1, none⟩) z2_1).trans k2_1_1
          have gc_1_1 := (bW.frozen (p := ⟨w.heap.size + 1, 1, none⟩) z2_1).trans g2_1_1
          have zc_2 : w.heap.size + 1 + 1 < wc.heap.size := Nat.lt_of_lt_of_le z2_2 bW.size
          have kc_2_0 := (bW.cell (p := ⟨w.heap.size + 1 + 1, 0, none⟩) z2_2).trans k2_2_0
          have gc_2_0 := (bW.frozen (p := ⟨w.heap.size + 1 + 1, 0, none⟩) z2_2).trans g2_2_0
          have kc_2_1 := (bW.cell (p := ⟨w.heap.size + 1 + 1, 1, none⟩) z2_2).trans k2_2_1
          have gc_2_1 := (bW.frozen (p := ⟨w.heap.size + 1 + 1, 1, none⟩) z2_2).trans g2_2_1
          clear HW k2_0_0 g2_0_0 k2_0_1 g2_0_1 k2_1_0 g2_1_0 k2_1_1 g2_1_1 k2_2_0 g2_2_0 k2_2_1 g2_2_1
          go_wp2
          have kc0 := cell_regrown (w := wc) (a := ⟨w.heap.size, 0, none⟩) (v := .int .i64 (n)) (by first | ((repeat (first | with_reducible assumption | with_reducible refine calloc ?_ _)); done) | (simp [go_sem]; done) | (simp [go_sem, *]; done))
          have kc1 := cell_regrown (w := wc) (a := ⟨w.heap.size, 1, none⟩) (v := .int .i64 (d)) (by first | ((repeat (first | with_reducible assumption | with_reducible refine calloc ?_ _)); done) | (simp [go_sem]; done) | (simp [go_sem, *]; done))
          have kc2 := cell_regrown (w := wc) (a := ⟨w.heap.size + 1, 0, none⟩) (v := .int .i64 (m)) (by first | ((repeat (first | with_reducible assumption | with_reducible refine calloc ?_ _)); done) | (simp [go_sem]; done) | (simp [go_sem, *]; done))
          have kc3 := cell_regrown (w := wc) (a := ⟨w.heap.size + 1, 1, none⟩) (v := .int .i64 (k)) (by first | ((repeat (first | with_reducible assumption | with_reducible refine calloc ?_ _)); done) | (simp [go_sem]; done) | (simp [go_sem, *]; done))
          have kc4 := cell_regrown (w := wc) (a := ⟨w.heap.size + 1 + 1, 0, none⟩) (v := .int .i64 (0)) (by first | ((repeat (first | with_reducible assumption | with_reducible refine calloc ?_ _)); done) | (simp [go_sem]; done) | (simp [go_sem, *]; done))
          have kc5 := cell_regrown (w := wc) (a := ⟨w.heap.size + 1 + 1, 1, none⟩) (v := .int .i64 (0)) (by first | ((repeat (first | with_reducible assumption | with_reducible refine calloc ?_ _)); done) | (simp [go_sem]; done) | (simp [go_sem, *]; done))
          have kc6 := cell_regrown (w := wc) (a := ⟨g1, 0, none⟩) (v := .int .i64 (0)) (by first | ((repeat (first | with_reducible assumption | with_reducible refine calloc ?_ _)); done) | (simp [go_sem]; done) | (simp [go_sem, *]; done))
          have kc7 := cell_regrown (w := wc) (a := ⟨g1, 1, none⟩) (v := .int .i64 (XD)) (by first | ((repeat (first | with_reducible assumption | with_reducible refine calloc ?_ _)); done) | (simp [go_sem]; done) | (simp [go_sem, *]; done))
          have kc8 := cell_regrown (w := wc) (a := ⟨g2, 0, none⟩) (v := .int .i64 (Y)) (by first | ((repeat (first | with_reducible assumption | with_reducible refine calloc ?_ _)); done) | (simp [go_sem]; done) | (simp [go_sem, *]; done))
          have kc9 := cell_regrown (w := wc) (a := ⟨g2, 1, none⟩) (v := .int .i64 (YD)) (by first | ((repeat (first | with_reducible assumption | with_reducible refine calloc ?_ _)); done) | (simp [go_sem]; done) | (simp [go_sem, *]; done))
          refine wp_region_quiet_below (by kernel_rfl) (by kernel_rfl) ?_
          repeat (go_big_quiet_step ((fail)))
          refine wpQuiet_nil ?_
          intro w3 hw'
          have b3 : Below wc.heap.size wc w3 := by
            obtain ⟨pp, rfl⟩ := hw'
            exact below_regrown _ _ _
          clear hw' kc0 kc1 kc2 kc3 kc4 kc5 kc6 kc7 kc8 kc9
          have s3 := b3.size
          try simp at s3
          have z3_0 : w.heap.size < w3.heap.size := by omega
          have k3_0_0 : w3.cell? ⟨w.heap.size, 0, none⟩ = some (.int .i64 (n)) := (b3.cell (p := ⟨w.heap.size, 0, none⟩) (by first | (simp; done) | (simp; omega) | omega)).trans (by first | with_reducible assumption | (simp [go_sem]; done) | (simp [go_sem, *]; done))
          have g3_0_0 : w3.frozen? ⟨w.heap.size, 0, none⟩ = false := (b3.frozen (p := ⟨w.heap.size, 0, none⟩) (by first | (simp; done) | (simp; omega) | omega)).trans (by first | with_reducible assumption | (simp [go_sem]; done) | (simp [go_sem, *]; done))
          have k3_0_1 : w3.cell? ⟨w.heap.size, 1, none⟩ = some (.int .i64 (d)) := (b3.cell (p := ⟨w.heap.size, 1, none⟩) (by first | (simp; done) | (simp; omega) | omega)).trans (by first | with_reducible assumption | (simp [go_sem]; done) | (simp [go_sem, *]; done))
          have g3_0_1 : w3.frozen? ⟨w.heap.size, 1, none⟩ = false := (b3.frozen (p := ⟨w.heap.size, 1, none⟩) (by first | (simp; done) | (simp; omega) | omega)).trans (by first | with_reducible assumption | (simp [go_sem]; done) | (simp [go_sem, *]; done))
          have z3_1 : w.heap.size + 1 < w3.heap.size := by omega
          have k3_1_0 : w3.cell? ⟨w.heap.size + 1, 0, none⟩ = some (.int .i64 (m)) := (b3.cell (p := ⟨w.heap.size + 1, 0, none⟩) (by first | (simp; done) | (simp; omega) | omega)).trans (by first | with_reducible assumption | (simp [go_sem]; done) | (simp [go_sem, *]; done))
          have g3_1_0 : w3.frozen? ⟨w.heap.size + 1, 0, none⟩ = false := (b3.frozen (p := ⟨w.heap.size + 1, 0, none⟩) (by first | (simp; done) | (simp; omega) | omega)).trans (by first | with_reducible assumption | (simp [go_sem]; done) | (simp [go_sem, *]; done))
          have k3_1_1 : w3.cell? ⟨w.heap.size + 1, 1, none⟩ = some (.int .i64 (k)) := (b3.cell (p := ⟨w.heap.size + 1, 1, none⟩) (by first | (simp; done) | (simp; omega) | omega)).trans (by first | with_reducible assumption | (simp [go_sem]; done) | (simp [go_sem, *]; done))
          have g3_1_1 : w3.frozen? ⟨w.heap.size + 1, 1, none⟩ = false := (b3.frozen (p := ⟨w.heap.size + 1, 1, none⟩) (by first | (simp; done) | (simp; omega) | omega)).trans (by first | with_reducible assumption | (simp [go_sem]; done) | (simp [go_sem, *]; done))
          have z3_2 : w.heap.size + 1 + 1 < w3.heap.size := by omega
          have k3_2_0 : w3.cell? ⟨w.heap.size + 1 + 1, 0, none⟩ = some (.int .i64 (0)) := (b3.cell (p := ⟨w.heap.size + 1 + 1, 0, none⟩) (by first | (simp; done) | (simp; omega) | omega)).trans (by first | with_reducible assumption | (simp [go_sem]; done) | (simp [go_sem, *]; done))
          have g3_2_0 : w3.frozen? ⟨w.heap.size + 1 + 1, 0, none⟩ = false := (b3.frozen (p := ⟨w.heap.size + 1 + 1, 0, none⟩) (by first | (simp; done) | (simp; omega) | omega)).trans (by first | with_reducible assumption | (simp [go_sem]; done) | (simp [go_sem, *]; done))
          have k3_2_1 : w3.cell? ⟨w.heap.size + 1 + 1, 1, none⟩ = some (.int .i64 (0)) := (b3.cell (p := ⟨w.heap.size + 1 + 1, 1, none⟩) (by first | (simp; done) | (simp; omega) | omega)).trans (by first | with_reducible assumption | (simp [go_sem]; done) | (simp [go_sem, *]; done))
          have g3_2_1 : w3.frozen? ⟨w.heap.size + 1 + 1, 1, none⟩ = false := (b3.frozen (p := ⟨w.heap.size + 1 + 1, 1, none⟩) (by first | (simp; done) | (simp; omega) | omega)).trans (by first | with_reducible assumption | (simp [go_sem]; done) | (simp [go_sem, *]; done))
          have z3_3 : g1 < w3.heap.size := by omega
          have k3_3_0 : w3.cell? ⟨g1, 0, none⟩ = some (.int .i64 (0)) := (b3.cell (p := ⟨g1, 0, none⟩) (by first | (simp; done) | (simp; omega) | omega)).trans (by first | with_reducible assumption | (simp [go_sem]; done) | (simp [go_sem, *]; done))
          have k3_3_1 : w3.cell? ⟨g1, 1, none⟩ = some (.int .i64 (XD)) := (b3.cell (p := ⟨g1, 1, none⟩) (by first | (simp; done) | (simp; omega) | omega)).trans (by first | with_reducible assumption | (simp [go_sem]; done) | (simp [go_sem, *]; done))
          have z3_4 : g2 < w3.heap.size := by omega
          have k3_4_0 : w3.cell? ⟨g2, 0, none⟩ = some (.int .i64 (Y)) := (b3.cell (p := ⟨g2, 0, none⟩) (by first | (simp; done) | (simp; omega) | omega)).trans (by first | with_reducible assumption | (simp [go_sem]; done) | (simp [go_sem, *]; done))
          have k3_4_1 : w3.cell? ⟨g2, 1, none⟩ = some (.int .i64 (YD)) := (b3.cell (p := ⟨g2, 1, none⟩) (by first | (simp; done) | (simp; omega) | omega)).trans (by first | with_reducible assumption | (simp [go_sem]; done) | (simp [go_sem, *]; done))
          clear e0 e1 e2 e3 kc_0_0 gc_0_0 kc_0_1 gc_0_1 kc_1_0 gc_1_0 kc_1_1 gc_1_1 kc_2_0 gc_2_0 kc_2_1 gc_2_1
          go_wp2_with fail
          refine (K5.out _).mono ?_
          rintro e w4 ⟨rfl, b4⟩
          have s4 := b4.size
          try simp at s4
          have z4_0 : w.heap.size < w4.heap.size := by omega
          have k4_0_0 : w4.cell? ⟨w.heap.size, 0, none⟩ = some (.int .i64 (n)) := (b4.cell (p := ⟨w.heap.size, 0, none⟩) (by first | (simp; done) | (simp; omega) | omega)).trans (by first | with_reducible assumption | (simp [go_sem]; done) | (simp [go_sem, *]; done))
          have g4_0_0 : w4.frozen? ⟨w.heap.size, 0, none⟩ = false := (b4.frozen (p := ⟨w.heap.size, 0, none⟩) (by first | (simp; done) | (simp; omega) | omega)).trans (by first | with_reducible assumption | (simp [go_sem]; done) | (simp [go_sem, *]; done))
          have k4_0_1 : w4.cell? ⟨w.heap.size, 1, none⟩ = some (.int .i64 (d)) := (b4.cell (p := ⟨w.heap.size, 1, none⟩) (by first | (simp; done) | (simp; omega) | omega)).trans (by first | with_reducible assumption | (simp [go_sem]; done) | (simp [go_sem, *]; done))
          have g4_0_1 : w4.frozen? ⟨w.heap.size, 1, none⟩ = false := (b4.frozen (p := ⟨w.heap.size, 1, none⟩) (by first | (simp; done) | (simp; omega) | omega)).trans (by first | with_reducible assumption | (simp [go_sem]; done) | (simp [go_sem, *]; done))
          have z4_1 : w.heap.size + 1 < w4.heap.size := by omega
          have k4_1_0 : w4.cell? ⟨w.heap.size + 1, 0, none⟩ = some (.int .i64 (m)) := (b4.cell (p := ⟨w.heap.size + 1, 0, none⟩) (by first | (simp; done) | (simp; omega) | omega)).trans (by first | with_reducible assumption | (simp [go_sem]; done) | (simp [go_sem, *]; done))
          have g4_1_0 : w4.frozen? ⟨w.heap.size + 1, 0, none⟩ = false := (b4.frozen (p := ⟨w.heap.size + 1, 0, none⟩) (by first | (simp; done) | (simp; omega) | omega)).trans (by first | with_reducible assumption | (simp [go_sem]; done) | (simp [go_sem, *]; done))
          have k4_1_1 : w4.cell? ⟨w.heap.size + 1, 1, none⟩ = some (.int .i64 (k)) := (b4.cell (p := ⟨w.heap.size + 1, 1, none⟩) (by first | (simp; done) | (simp; omega) | omega)).trans (by first | with_reducible assumption | (simp [go_sem]; done) | (simp [go_sem, *]; done))
          have g4_1_1 : w4.frozen? ⟨w.heap.size + 1, 1, none⟩ = false := (b4.frozen (p := ⟨w.heap.size + 1, 1, none⟩) (by first | (simp; done) | (simp; omega) | omega)).trans (by first | with_reducible assumption | (simp [go_sem]; done) | (simp [go_sem, *]; done))
          have z4_2 : w.heap.size + 1 + 1 < w4.heap.size := by omega
          have k4_2_0 : w4.cell? ⟨w.heap.size + 1 + 1, 0, none⟩ = some (.int .i64 (0)) := (b4.cell (p := ⟨w.heap.size + 1 + 1, 0, none⟩) (by first | (simp; done) | (simp; omega) | omega)).trans (by first | with_reducible assumption | (simp [go_sem]; done) | (simp [go_sem, *]; done))
          have g4_2_0 : w4.frozen? ⟨w.heap.size + 1 + 1, 0, none⟩ = false := (b4.frozen (p := ⟨w.heap.size + 1 + 1, 0, none⟩) (by first | (simp; done) | (simp; omega) | omega)).trans (by first | with_reducible assumption | (simp [go_sem]; done) | (simp [go_sem, *]; done))
          have k4_2_1 : w4.cell? ⟨w.heap.size + 1 + 1, 1, none⟩ = some (.int .i64 (0)) := (b4.cell (p := ⟨w.heap.size + 1 + 1, 1, none⟩) (by first | (simp; done) | (simp; omega) | omega)).trans (by first | with_reducible assumption | (simp [go_sem]; done) | (simp [go_sem, *]; done))
          have g4_2_1 : w4.frozen? ⟨w.heap.size + 1 + 1, 1, none⟩ = false := (b4.frozen (p := ⟨w.heap.size + 1 + 1, 1, none⟩) (by first | (simp; done) | (simp; omega) | omega)).trans (by first | with_reducible assumption | (simp [go_sem]; done) | (simp [go_sem, *]; done))
          have z4_3 : g1 < w4.heap.size := by omega
          have k4_3_0 : w4.cell? ⟨g1, 0, none⟩ = some (.int .i64 (0)) := (b4.cell (p := ⟨g1, 0, none⟩) (by first | (simp; done) | (simp; omega) | omega)).trans (by first | with_reducible assumption | (simp [go_sem]; done) | (simp [go_sem, *]; done))
          have k4_3_1 : w4.cell? ⟨g1, 1, none⟩ = some (.int .i64 (XD)) := (b4.cell (p := ⟨g1, 1, none⟩) (by first | (simp; done) | (simp; omega) | omega)).trans (by first | with_reducible assumption | (simp [go_sem]; done) | (simp [go_sem, *]; done))
          have z4_4 : g2 < w4.heap.size := by omega
          have k4_4_0 : w4.cell? ⟨g2, 0, none⟩ = some (.int .i64 (Y)) := (b4.cell (p := ⟨g2, 0, none⟩) (by first | (simp; done) | (simp; omega) | omega)).trans (by first | with_reducible assumption | (simp [go_sem]; done) | (simp [go_sem, *]; done))
          have k4_4_1 : w4.cell? ⟨g2, 1, none⟩ = some (.int .i64 (YD)) := (b4.cell (p := ⟨g2, 1, none⟩) (by first | (simp; done) | (simp; omega) | omega)).trans (by first | with_reducible assumption | (simp [go_sem]; done) | (simp [go_sem, *]; done))
          clear k3_0_0 g3_0_0 k3_0_1 g3_0_1 k3_1_0 g3_1_0 k3_1_1 g3_1_1 k3_2_0 g3_2_0 k3_2_1 g3_2_1 k3_3_0 k3_3_1 k3_4_0 k3_4_1
          go_wp2
          refine bodyPost_ret (v := .tuple #[.agg #[.int .i64 (okN (0) (XD * YD)), .int .i64 (okD (0) (XD * YD))], .bool (ratB (0) (XD * YD))]) (by simp [results, Try.results17, go_sem, *]) rfl ⟨rfl, ?_⟩
          (repeat (first | with_reducible exact Below.refl _ _ | with_reducible refine bl_alloc ?_ _ | with_reducible refine bl_drew ?_ | with_reducible refine bl_set ?_ (by first | (simp; done) | (simp; omega)) _ | with_reducible refine bl_call (by assumption) ?_))
      · by_cases hb : 100000000000 / iabs X < iabs Y
        · have j0 : (X == 0) = false := by simp [hX]
          have j1 : (X != 0) = true := by simp [hX]
          have ixp : 0 < iabs X := by unfold iabs; omega
          have dq := Int.ediv_nonneg (a := 100000000000) (b := iabs X) (by omega) (by omega)
          have dq2 : (100000000000 : Int) / iabs X ≤ 100000000000 := Int.ediv_le_self _ (by omega)
          have ib : mulBig X Y = true := by simp [mulBig, j0, hb]
          rw [ib] at h0
          clear ib
          have r0 : MuN n d m k = 0 := by unfold MuN; rw [h0]; simp
          have r1 : MuD n d m k = 0 := by unfold MuD; rw [h0]; simp
          have r2 : MuB n d m k = false := by unfold MuB; rw [h0]; simp
          rw [r0, r1, r2]
          clear r0 r1 r2
          clear h0 eX eY eXD eYD qa qb
          go_enter Try.func17, Try.ntmps17
          go_wp2_with fail
          refine (K1.out _).mono ?_
          rintro e w1 ⟨rfl, b1⟩
          have s1 := b1.size
          try simp at s1
          have z1_0 : w.heap.size < w1.heap.size := by omega
          have k1_0_0 : w1.cell? ⟨w.heap.size, 0, none⟩ = some (.int .i64 (n)) := (b1.cell (p := ⟨w.heap.size, 0, none⟩) (by first | (simp; done) | (simp; omega) | omega)).trans (by first | with_reducible assumption | (simp [go_sem]; done) | (simp [go_sem, *]; done))
          have g1_0_0 : w1.frozen? ⟨w.heap.size, 0, none⟩ = false := (b1.frozen (p := ⟨w.heap.size, 0, none⟩) (by first | (simp; done) | (simp; omega) | omega)).trans (by first | with_reducible assumption | (simp [go_sem]; done) | (simp [go_sem, *]; done))
          have k1_0_1 : w1.cell? ⟨w.heap.size, 1, none⟩ = some (.int .i64 (d)) := (b1.cell (p := ⟨w.heap.size, 1, none⟩) (by first | (simp; done) | (simp; omega) | omega)).trans (by first | with_reducible assumption | (simp [go_sem]; done) | (simp [go_sem, *]; done))
          have g1_0_1 : w1.frozen? ⟨w.heap.size, 1, none⟩ = false := (b1.frozen (p := ⟨w.heap.size, 1, none⟩) (by first | (simp; done) | (simp; omega) | omega)).trans (by first | with_reducible assumption | (simp [go_sem]; done) | (simp [go_sem, *]; done))
          have z1_1 : w.heap.size + 1 < w1.heap.size := by omega
          have k1_1_0 : w1.cell? ⟨w.heap.size + 1, 0, none⟩ = some (.int .i64 (m)) := (b1.cell (p := ⟨w.heap.size + 1, 0, none⟩) (by first | (simp; done) | (simp; omega) | omega)).trans (by first | with_reducible assumption | (simp [go_sem]; done) | (simp [go_sem, *]; done))
          have g1_1_0 : w1.frozen? ⟨w.heap.size + 1, 0, none⟩ = false := (b1.frozen (p := ⟨w.heap.size + 1, 0, none⟩) (by first | (simp; done) | (simp; omega) | omega)).trans (by first | with_reducible assumption | (simp [go_sem]; done) | (simp [go_sem, *]; done))
          have k1_1_1 : w1.cell? ⟨w.heap.size + 1, 1, none⟩ = some (.int .i64 (k)) := (b1.cell (p := ⟨w.heap.size + 1, 1, none⟩) (by first | (simp; done) | (simp; omega) | omega)).trans (by first | with_reducible assumption | (simp [go_sem]; done) | (simp [go_sem, *]; done))
          have g1_1_1 : w1.frozen? ⟨w.heap.size + 1, 1, none⟩ = false := (b1.frozen (p := ⟨w.heap.size + 1, 1, none⟩) (by first | (simp; done) | (simp; omega) | omega)).trans (by first | with_reducible assumption | (simp [go_sem]; done) | (simp [go_sem, *]; done))
          have z1_2 : w.heap.size + 1 + 1 < w1.heap.size := by omega
          have k1_2_0 : w1.cell? ⟨w.heap.size + 1 + 1, 0, none⟩ = some (.int .i64 (0)) := (b1.cell (p := ⟨w.heap.size + 1 + 1, 0, none⟩) (by first | (simp; done) | (simp; omega) | omega)).trans (by first | with_reducible assumption | (simp [go_sem]; done) | (simp [go_sem, *]; done))
          have g1_2_0 : w1.frozen? ⟨w.heap.size + 1 + 1, 0, none⟩ = false := (b1.frozen (p := ⟨w.heap.size + 1 + 1, 0, none⟩) (by first | (simp; done) | (simp; omega) | omega)).trans (by first | with_reducible assumption | (simp [go_sem]; done) | (simp [go_sem, *]; done))
          have k1_2_1 : w1.cell? ⟨w.heap.size + 1 + 1, 1, none⟩ = some (.int .i64 (0)) := (b1.cell (p := ⟨w.heap.size + 1 + 1, 1, none⟩) (by first | (simp; done) | (simp; omega) | omega)).trans (by first | with_reducible assumption | (simp [go_sem]; done) | (simp [go_sem, *]; done))
          have g1_2_1 : w1.frozen? ⟨w.heap.size + 1 + 1, 1, none⟩ = false := (b1.frozen (p := ⟨w.heap.size + 1 + 1, 1, none⟩) (by first | (simp; done) | (simp; omega) | omega)).trans (by first | with_reducible assumption | (simp [go_sem]; done) | (simp [go_sem, *]; done))
          go_wp2_with fail
          refine (K2.out _).mono ?_
          rintro e w2 ⟨rfl, b2⟩
          have s2 := b2.size
          try simp at s2
          have z2_0 : w.heap.size < w2.heap.size := by omega
          have k2_0_0 : w2.cell? ⟨w.heap.size, 0, none⟩ = some (.int .i64 (n)) := (b2.cell (p := ⟨w.heap.size, 0, none⟩) (by first | (simp; done) | (simp; omega) | omega)).trans (by first | with_reducible assumption | (simp [go_sem]; done) | (simp [go_sem, *]; done))
          have g2_0_0 : w2.frozen? ⟨w.heap.size, 0, none⟩ = false := (b2.frozen (p := ⟨w.heap.size, 0, none⟩) (by first | (simp; done) | (simp; omega) | omega)).trans (by first | with_reducible assumption | (simp [go_sem]; done) | (simp [go_sem, *]; done))
          have k2_0_1 : w2.cell? ⟨w.heap.size, 1, none⟩ = some (.int .i64 (d)) := (b2.cell (p := ⟨w.heap.size, 1, none⟩) (by first | (simp; done) | (simp; omega) | omega)).trans (by first | with_reducible assumption | (simp [go_sem]; done) | (simp [go_sem, *]; done))
          have g2_0_1 : w2.frozen? ⟨w.heap.size, 1, none⟩ = false := (b2.frozen (p := ⟨w.heap.size, 1, none⟩) (by first | (simp; done) | (simp; omega) | omega)).trans (by first | with_reducible assumption | (simp [go_sem]; done) | (simp [go_sem, *]; done))
          have z2_1 : w.heap.size + 1 < w2.heap.size := by omega
          have k2_1_0 : w2.cell? ⟨w.heap.size + 1, 0, none⟩ = some (.int .i64 (m)) := (b2.cell (p := ⟨w.heap.size + 1, 0, none⟩) (by first | (simp; done) | (simp; omega) | omega)).trans (by first | with_reducible assumption | (simp [go_sem]; done) | (simp [go_sem, *]; done))
          have g2_1_0 : w2.frozen? ⟨w.heap.size + 1, 0, none⟩ = false := (b2.frozen (p := ⟨w.heap.size + 1, 0, none⟩) (by first | (simp; done) | (simp; omega) | omega)).trans (by first | with_reducible assumption | (simp [go_sem]; done) | (simp [go_sem, *]; done))
          have k2_1_1 : w2.cell? ⟨w.heap.size + 1, 1, none⟩ = some (.int .i64 (k)) := (b2.cell (p := ⟨w.heap.size + 1, 1, none⟩) (by first | (simp; done) | (simp; omega) | omega)).trans (by first | with_reducible assumption | (simp [go_sem]; done) | (simp [go_sem, *]; done))
          have g2_1_1 : w2.frozen? ⟨w.heap.size + 1, 1, none⟩ = false := (b2.frozen (p := ⟨w.heap.size + 1, 1, none⟩) (by first | (simp; done) | (simp; omega) | omega)).trans (by first | with_reducible assumption | (simp [go_sem]; done) | (simp [go_sem, *]; done))
          have z2_2 : w.heap.size + 1 + 1 < w2.heap.size := by omega
          have k2_2_0 : w2.cell? ⟨w.heap.size + 1 + 1, 0, none⟩ = some (.int .i64 (0)) := (b2.cell (p := ⟨w.heap.size + 1 + 1, 0, none⟩) (by first | (simp; done) | (simp; omega) | omega)).trans (by first | with_reducible assumption | (simp [go_sem]; done) | (simp [go_sem, *]; done))
          have g2_2_0 : w2.frozen? ⟨w.heap.size + 1 + 1, 0, none⟩ = false := (b2.frozen (p := ⟨w.heap.size + 1 + 1, 0, none⟩) (by first | (simp; done) | (simp; omega) | omega)).trans (by first | with_reducible assumption | (simp [go_sem]; done) | (simp [go_sem, *]; done))
          have k2_2_1 : w2.cell? ⟨w.heap.size + 1 + 1, 1, none⟩ = some (.int .i64 (0)) := (b2.cell (p := ⟨w.heap.size + 1 + 1, 1, none⟩) (by first | (simp; done) | (simp; omega) | omega)).trans (by first | with_reducible assumption | (simp [go_sem]; done) | (simp [go_sem, *]; done))
          have g2_2_1 : w2.frozen? ⟨w.heap.size + 1 + 1, 1, none⟩ = false := (b2.frozen (p := ⟨w.heap.size + 1 + 1, 1, none⟩) (by first | (simp; done) | (simp; omega) | omega)).trans (by first | with_reducible assumption | (simp [go_sem]; done) | (simp [go_sem, *]; done))
          clear k1_0_0 g1_0_0 k1_0_1 g1_0_1 k1_1_0 g1_1_0 k1_1_1 g1_1_1 k1_2_0 g1_2_0 k1_2_1 g1_2_1
          have A0 : ∀ w', Hld w2 w' → w'.cell? ⟨w.heap.size, 0, none⟩ = some (.int .i64 n) := fun w' h => (Below.cell h (p := ⟨w.heap.size, 0, none⟩) z2_0).trans k2_0_0
          have A1 : ∀ w', Hld w2 w' → w'.cell? ⟨w.heap.size, 1, none⟩ = some (.int .i64 d) := fun w' h => (Below.cell h (p := ⟨w.heap.size, 1, none⟩) z2_0).trans k2_0_1
          have A2 : ∀ w', Hld w2 w' → w'.cell? ⟨w.heap.size + 1, 0, none⟩ = some (.int .i64 m) := fun w' h => (Below.cell h (p := ⟨w.heap.size + 1, 0, none⟩) z2_1).trans k2_1_0
          have A3 : ∀ w', Hld w2 w' → w'.cell? ⟨w.heap.size + 1, 1, none⟩ = some (.int .i64 k) := fun w' h => (Below.cell h (p := ⟨w.heap.size + 1, 1, none⟩) z2_1).trans k2_1_1
          go_upto_region 3 with fail
          go_cut [6, 7] (fun s6 s7 wx => ∃ g1 g2 : Nat, s6 = .pointer (some ⟨g1, 0, none⟩) ∧ s7 = .pointer (some ⟨g2, 0, none⟩) ∧ wx.cell? ⟨g1, 0, none⟩ = some (.int .i64 X) ∧ wx.cell? ⟨g1, 1, none⟩ = some (.int .i64 XD) ∧ wx.cell? ⟨g2, 0, none⟩ = some (.int .i64 Y) ∧ wx.cell? ⟨g2, 1, none⟩ = some (.int .i64 YD) ∧ g1 < wx.heap.size ∧ g2 < wx.heap.size ∧ Hld w2 wx)
          case first =>
            go_region_held3 (fun w' => Hld w2 w') ((repeat (first | with_reducible assumption | with_reducible exact Hld.start _ | with_reducible exact Hld.refl _ | with_reducible refine Hld.drew ?_ | with_reducible refine Hld.alloc ?_ _ | with_reducible refine Hld.set ?_ (by first | exact Nat.le_refl _ | assumption | (simp; done) | (simp; omega)) _))) (first | (go_at_call 58; (with_reducible refine (P1.out _).mono ?_); rintro e w' ⟨rfl, hb⟩; have HS : Hld w2 w' := Hld.call (by first | with_reducible assumption | with_reducible exact Hld.alloc (by with_reducible assumption) _) hb; have hsz := HS.size; (try (first | have H2 := bl_call hb H1 | have H2 := bl_call hb (bl_alloc H1 _))); (try (first | have H1 := bl_call hb H0 | have H1 := bl_call hb (bl_alloc H0 _))); have H0 := hb; (try (have hc0 := (bcell H0).1; have hf0 := (bcell H0).2)); (try (first | have l0 := lt_al H0 | have l0 := lt_ald H0)); (try (have hc1 := (bcell H1).1; have hf1 := (bcell H1).2)); (try (first | have l1 := lt_al H1 | have l1 := lt_ald H1)); (try (have hc2 := (bcell H2).1; have hf2 := (bcell H2).2)); (try (first | have l2 := lt_al H2 | have l2 := lt_ald H2)); (try (first | have m0 := lt_al2 H0 | have m0 := lt_al2d H0)); (try (have n0 := m0.1; have o0 := m0.2; clear m0)); (try (first | have m1 := lt_al2 H1 | have m1 := lt_al2d H1)); (try (have n1 := m1.1; have o1 := m1.2; clear m1)); (try (first | have m2 := lt_al2 H2 | have m2 := lt_al2d H2)); (try (have n2 := m2.1; have o2 := m2.2; clear m2))) | (go_at_call 58; (with_reducible refine (P2.out _).mono ?_); rintro e w' ⟨rfl, hb⟩; have HS : Hld w2 w' := Hld.call (by first | with_reducible assumption | with_reducible exact Hld.alloc (by with_reducible assumption) _) hb; have hsz := HS.size; (try (first | have H2 := bl_call hb H1 | have H2 := bl_call hb (bl_alloc H1 _))); (try (first | have H1 := bl_call hb H0 | have H1 := bl_call hb (bl_alloc H0 _))); have H0 := hb; (try (have hc0 := (bcell H0).1; have hf0 := (bcell H0).2)); (try (first | have l0 := lt_al H0 | have l0 := lt_ald H0)); (try (have hc1 := (bcell H1).1; have hf1 := (bcell H1).2)); (try (first | have l1 := lt_al H1 | have l1 := lt_ald H1)); (try (have hc2 := (bcell H2).1; have hf2 := (bcell H2).2)); (try (first | have l2 := lt_al H2 | have l2 := lt_ald H2)); (try (first | have m0 := lt_al2 H0 | have m0 := lt_al2d H0)); (try (have n0 := m0.1; have o0 := m0.2; clear m0)); (try (first | have m1 := lt_al2 H1 | have m1 := lt_al2d H1)); (try (have n1 := m1.1; have o1 := m1.2; clear m1)); (try (first | have m2 := lt_al2 H2 | have m2 := lt_al2d H2)); (try (have n2 := m2.1; have o2 := m2.2; clear m2))))
            all_goals (go_wp2_with fail; go_meet; exact ⟨_, _, rfl, rfl, by first | (simp [go_sem]; done) | (simp [go_sem, *]; done) | (simp (maxDischargeDepth := 8) [go_sem, *]; done), by first | (simp [go_sem]; done) | (simp [go_sem, *]; done) | (simp (maxDischargeDepth := 8) [go_sem, *]; done), by first | (simp [go_sem]; done) | (simp [go_sem, *]; done) | (simp (maxDischargeDepth := 8) [go_sem, *]; done), by first | (simp [go_sem]; done) | (simp [go_sem, *]; done) | (simp (maxDischargeDepth := 8) [go_sem, *]; done), by first | (simp; done) | (simp; omega), by first | (simp; done) | (simp; omega), by (repeat (first | with_reducible assumption | with_reducible exact Hld.start _ | with_reducible exact Hld.refl _ | with_reducible refine Hld.drew ?_ | with_reducible refine Hld.alloc ?_ _ | with_reducible refine Hld.set ?_ (by first | exact Nat.le_refl _ | assumption | (simp; done) | (simp; omega)) _))⟩)
          case rest =>
            obtain ⟨g1, g2, rfl, rfl, e0, e1, e2, e3, gz1, gz2, HW⟩ := hcut
            have bW : Below w2.heap.size w2 wc := HW
            clear A0 A1 A2 A3
            have zc_0 : w.heap.size < wc.heap.size := Nat.lt_of_lt_of_le z2_0 bW.size
            have kc_0_0 := (bW.cell (p := ⟨w.heap.size, 0, none⟩) z2_0).trans k2_0_0
            have gc_0_0 := (bW.frozen (p := ⟨w.heap.size, 0, none⟩) z2_0).trans g2_0_0
            have kc_0_1 := (bW.cell (p := ⟨w.heap.size, 1, none⟩) z2_0).trans k2_0_1
            have gc_0_1 := (bW.frozen (p := ⟨w.heap.size, 1, none⟩) z2_0).trans g2_0_1
            have zc_1 : w.heap.size + 1 < wc.heap.size := Nat.lt_of_lt_of_le z2_1 bW.size
            have kc_1_0 := (bW.cell (p := ⟨w.heap.size + 1, 0, none⟩) z2_1).trans k2_1_0
            have gc_1_0 := (bW.frozen (p := ⟨w.heap.size + 1, 0, none⟩) z2_1).trans g2_1_0
            have kc_1_1 := (bW.cell (p := ⟨w.heap.size + 1, 1, none⟩) z2_1).trans k2_1_1
            have gc_1_1 := (bW.frozen (p := ⟨w.heap.size + 1, 1, none⟩) z2_1).trans g2_1_1
            have zc_2 : w.heap.size + 1 + 1 < wc.heap.size := Nat.lt_of_lt_of_le z2_2 bW.size
            have kc_2_0 := (bW.cell (p := ⟨w.heap.size + 1 + 1, 0, none⟩) z2_2).trans k2_2_0
            have gc_2_0 := (bW.frozen (p := ⟨w.heap.size + 1 + 1, 0, none⟩) z2_2).trans g2_2_0
            have kc_2_1 := (bW.cell (p := ⟨w.heap.size + 1 + 1, 1, none⟩) z2_2).trans k2_2_1
            have gc_2_1 := (bW.frozen (p := ⟨w.heap.size + 1 + 1, 1, none⟩) z2_2).trans g2_2_1
            clear HW k2_0_0 g2_0_0 k2_0_1 g2_0_1 k2_1_0 g2_1_0 k2_1_1 g2_1_1 k2_2_0 g2_2_0 k2_2_1 g2_2_1
            go_wp2
            have kc0 := cell_regrown (w := wc) (a := ⟨w.heap.size, 0, none⟩) (v := .int .i64 (n)) (by first | ((repeat (first | with_reducible assumption | with_reducible refine calloc ?_ _)); done) | (simp [go_sem]; done) | (simp [go_sem, *]; done))
            have kc1 := cell_regrown (w := wc) (a := ⟨w.heap.size, 1, none⟩) (v := .int .i64 (d)) (by first | ((repeat (first | with_reducible assumption | with_reducible refine calloc ?_ _)); done) | (simp [go_sem]; done) | (simp [go_sem, *]; done))
            have kc2 := cell_regrown (w := wc) (a := ⟨w.heap.size + 1, 0, none⟩) (v := .int .i64 (m)) (by first | ((repeat (first | with_reducible assumption | with_reducible refine calloc ?_ _)); done) | (simp [go_sem]; done) | (simp [go_sem, *]; done))
            have kc3 := cell_regrown (w := wc) (a := ⟨w.heap.size + 1, 1, none⟩) (v := .int .i64 (k)) (by first | ((repeat (first | with_reducible assumption | with_reducible refine calloc ?_ _)); done) | (simp [go_sem]; done) | (simp [go_sem, *]; done))
            have kc4 := cell_regrown (w := wc) (a := ⟨w.heap.size + 1 + 1, 0, none⟩) (v := .int .i64 (0)) (by first | ((repeat (first | with_reducible assumption | with_reducible refine calloc ?_ _)); done) | (simp [go_sem]; done) | (simp [go_sem, *]; done))
            have kc5 := cell_regrown (w := wc) (a := ⟨w.heap.size + 1 + 1, 1, none⟩) (v := .int .i64 (0)) (by first | ((repeat (first | with_reducible assumption | with_reducible refine calloc ?_ _)); done) | (simp [go_sem]; done) | (simp [go_sem, *]; done))
            have kc6 := cell_regrown (w := wc) (a := ⟨g1, 0, none⟩) (v := .int .i64 (X)) (by first | ((repeat (first | with_reducible assumption | with_reducible refine calloc ?_ _)); done) | (simp [go_sem]; done) | (simp [go_sem, *]; done))
            have kc7 := cell_regrown (w := wc) (a := ⟨g1, 1, none⟩) (v := .int .i64 (XD)) (by first | ((repeat (first | with_reducible assumption | with_reducible refine calloc ?_ _)); done) | (simp [go_sem]; done) | (simp [go_sem, *]; done))
            have kc8 := cell_regrown (w := wc) (a := ⟨g2, 0, none⟩) (v := .int .i64 (Y)) (by first | ((repeat (first | with_reducible assumption | with_reducible refine calloc ?_ _)); done) | (simp [go_sem]; done) | (simp [go_sem, *]; done))
            have kc9 := cell_regrown (w := wc) (a := ⟨g2, 1, none⟩) (v := .int .i64 (YD)) (by first | ((repeat (first | with_reducible assumption | with_reducible refine calloc ?_ _)); done) | (simp [go_sem]; done) | (simp [go_sem, *]; done))
            refine wp_region_quiet_below (by kernel_rfl) (by kernel_rfl) ?_
            repeat (go_big_quiet_step ((first | (go_at_call 59; with_reducible exact Calls.regrown_of (qb_same (K3.out _))) | (go_at_call 59; with_reducible exact Calls.regrown_of (qb_same (K4.out _))))))
            refine wpQuiet_nil ?_
            intro w3 hw'
            have b3 : Below wc.heap.size wc w3 := by
              obtain ⟨pp, rfl⟩ := hw'
              exact below_regrown _ _ _
            clear hw' kc0 kc1 kc2 kc3 kc4 kc5 kc6 kc7 kc8 kc9
            have s3 := b3.size
            try simp at s3
            have z3_0 : w.heap.size < w3.heap.size := by omega
            have k3_0_0 : w3.cell? ⟨w.heap.size, 0, none⟩ = some (.int .i64 (n)) := (b3.cell (p := ⟨w.heap.size, 0, none⟩) (by first | (simp; done) | (simp; omega) | omega)).trans (by first | with_reducible assumption | (simp [go_sem]; done) | (simp [go_sem, *]; done))
            have g3_0_0 : w3.frozen? ⟨w.heap.size, 0, none⟩ = false := (b3.frozen (p := ⟨w.heap.size, 0, none⟩) (by first | (simp; done) | (simp; omega) | omega)).trans (by first | with_reducible assumption | (simp [go_sem]; done) | (simp [go_sem, *]; done))
            have k3_0_1 : w3.cell? ⟨w.heap.size, 1, none⟩ = some (.int .i64 (d)) := (b3.cell (p := ⟨w.heap.size, 1, none⟩) (by first | (simp; done) | (simp; omega) | omega)).trans (by first | with_reducible assumption | (simp [go_sem]; done) | (simp [go_sem, *]; done))
            have g3_0_1 : w3.frozen? ⟨w.heap.size, 1, none⟩ = false := (b3.frozen (p := ⟨w.heap.size, 1, none⟩) (by first | (simp; done) | (simp; omega) | omega)).trans (by first | with_reducible assumption | (simp [go_sem]; done) | (simp [go_sem, *]; done))
            have z3_1 : w.heap.size + 1 < w3.heap.size := by omega
            have k3_1_0 : w3.cell? ⟨w.heap.size + 1, 0, none⟩ = some (.int .i64 (m)) := (b3.cell (p := ⟨w.heap.size + 1, 0, none⟩) (by first | (simp; done) | (simp; omega) | omega)).trans (by first | with_reducible assumption | (simp [go_sem]; done) | (simp [go_sem, *]; done))
            have g3_1_0 : w3.frozen? ⟨w.heap.size + 1, 0, none⟩ = false := (b3.frozen (p := ⟨w.heap.size + 1, 0, none⟩) (by first | (simp; done) | (simp; omega) | omega)).trans (by first | with_reducible assumption | (simp [go_sem]; done) | (simp [go_sem, *]; done))
            have k3_1_1 : w3.cell? ⟨w.heap.size + 1, 1, none⟩ = some (.int .i64 (k)) := (b3.cell (p := ⟨w.heap.size + 1, 1, none⟩) (by first | (simp; done) | (simp; omega) | omega)).trans (by first | with_reducible assumption | (simp [go_sem]; done) | (simp [go_sem, *]; done))
            have g3_1_1 : w3.frozen? ⟨w.heap.size + 1, 1, none⟩ = false := (b3.frozen (p := ⟨w.heap.size + 1, 1, none⟩) (by first | (simp; done) | (simp; omega) | omega)).trans (by first | with_reducible assumption | (simp [go_sem]; done) | (simp [go_sem, *]; done))
            have z3_2 : w.heap.size + 1 + 1 < w3.heap.size := by omega
            have k3_2_0 : w3.cell? ⟨w.heap.size + 1 + 1, 0, none⟩ = some (.int .i64 (0)) := (b3.cell (p := ⟨w.heap.size + 1 + 1, 0, none⟩) (by first | (simp; done) | (simp; omega) | omega)).trans (by first | with_reducible assumption | (simp [go_sem]; done) | (simp [go_sem, *]; done))
            have g3_2_0 : w3.frozen? ⟨w.heap.size + 1 + 1, 0, none⟩ = false := (b3.frozen (p := ⟨w.heap.size + 1 + 1, 0, none⟩) (by first | (simp; done) | (simp; omega) | omega)).trans (by first | with_reducible assumption | (simp [go_sem]; done) | (simp [go_sem, *]; done))
            have k3_2_1 : w3.cell? ⟨w.heap.size + 1 + 1, 1, none⟩ = some (.int .i64 (0)) := (b3.cell (p := ⟨w.heap.size + 1 + 1, 1, none⟩) (by first | (simp; done) | (simp; omega) | omega)).trans (by first | with_reducible assumption | (simp [go_sem]; done) | (simp [go_sem, *]; done))
            have g3_2_1 : w3.frozen? ⟨w.heap.size + 1 + 1, 1, none⟩ = false := (b3.frozen (p := ⟨w.heap.size + 1 + 1, 1, none⟩) (by first | (simp; done) | (simp; omega) | omega)).trans (by first | with_reducible assumption | (simp [go_sem]; done) | (simp [go_sem, *]; done))
            have z3_3 : g1 < w3.heap.size := by omega
            have k3_3_0 : w3.cell? ⟨g1, 0, none⟩ = some (.int .i64 (X)) := (b3.cell (p := ⟨g1, 0, none⟩) (by first | (simp; done) | (simp; omega) | omega)).trans (by first | with_reducible assumption | (simp [go_sem]; done) | (simp [go_sem, *]; done))
            have k3_3_1 : w3.cell? ⟨g1, 1, none⟩ = some (.int .i64 (XD)) := (b3.cell (p := ⟨g1, 1, none⟩) (by first | (simp; done) | (simp; omega) | omega)).trans (by first | with_reducible assumption | (simp [go_sem]; done) | (simp [go_sem, *]; done))
            have z3_4 : g2 < w3.heap.size := by omega
            have k3_4_0 : w3.cell? ⟨g2, 0, none⟩ = some (.int .i64 (Y)) := (b3.cell (p := ⟨g2, 0, none⟩) (by first | (simp; done) | (simp; omega) | omega)).trans (by first | with_reducible assumption | (simp [go_sem]; done) | (simp [go_sem, *]; done))
            have k3_4_1 : w3.cell? ⟨g2, 1, none⟩ = some (.int .i64 (YD)) := (b3.cell (p := ⟨g2, 1, none⟩) (by first | (simp; done) | (simp; omega) | omega)).trans (by first | with_reducible assumption | (simp [go_sem]; done) | (simp [go_sem, *]; done))
            clear e0 e1 e2 e3 kc_0_0 gc_0_0 kc_0_1 gc_0_1 kc_1_0 gc_1_0 kc_1_1 gc_1_1 kc_2_0 gc_2_0 kc_2_1 gc_2_1
            go_wp2
            refine bodyPost_ret (v := .tuple #[.agg #[.int .i64 0, .int .i64 0], .bool false]) (by simp [results, Try.results17, go_sem, *]) rfl ⟨rfl, ?_⟩
            (repeat (first | with_reducible exact Below.refl _ _ | with_reducible refine bl_alloc ?_ _ | with_reducible refine bl_drew ?_ | with_reducible refine bl_set ?_ (by first | (simp; done) | (simp; omega)) _ | with_reducible refine bl_call (by assumption) ?_))
        · have j0 : (X == 0) = false := by simp [hX]
          have j1 : (X != 0) = true := by simp [hX]
          have ixp : 0 < iabs X := by unfold iabs; omega
          have dq := Int.ediv_nonneg (a := 100000000000) (b := iabs X) (by omega) (by omega)
          have dq2 : (100000000000 : Int) / iabs X ≤ 100000000000 := Int.ediv_le_self _ (by omega)
          have ib : mulBig X Y = false := by simp [mulBig, hb]
          obtain ⟨p1, p2⟩ := mul_small X Y (Or.inr (by omega))
          rw [ib] at h0
          clear ib
          have r0 : MuN n d m k = okN (X * Y) (XD * YD) := by unfold MuN; rw [h0, eX, eY, eXD, eYD]; simp
          have r1 : MuD n d m k = okD (X * Y) (XD * YD) := by unfold MuD; rw [h0, eX, eY, eXD, eYD]; simp
          have r2 : MuB n d m k = ratB (X * Y) (XD * YD) := by unfold MuB; rw [h0, eX, eY, eXD, eYD]; simp
          rw [r0, r1, r2]
          clear r0 r1 r2
          obtain ⟨s1, s2⟩ := mul_bd XD YD 20000000 20000000 (by omega) (by omega) (by omega) (by omega)
          have K5 : Hid (∀ W : World, Calls Try.prog 60 #[.agg #[.int .i64 (X * Y), .int .i64 (XD * YD)]] W fun e w' => e = .returned (.tuple #[.agg #[.int .i64 (okN (X * Y) (XD * YD)), .int .i64 (okD (X * Y) (XD * YD))], .bool (ratB (X * Y) (XD * YD))]) ∧ Below W.heap.size W w') := Lib.hid fun W => by
            have h := impl_Rat_made (X * Y) (XD * YD) W
            exact h
          clear h0 eX eY eXD eYD qa qb
          go_enter Try.func17, Try.ntmps17
          go_wp2_with fail
          refine (K1.out _).mono ?_
          rintro e w1 ⟨rfl, b1⟩
          have s1 := b1.size
          try simp at s1
          have z1_0 : w.heap.size < w1.heap.size := by omega
          have k1_0_0 : w1.cell? ⟨w.heap.size, 0, none⟩ = some (.int .i64 (n)) := (b1.cell (p := ⟨w.heap.size, 0, none⟩) (by first | (simp; done) | (simp; omega) | omega)).trans (by first | with_reducible assumption | (simp [go_sem]; done) | (simp [go_sem, *]; done))
          have g1_0_0 : w1.frozen? ⟨w.heap.size, 0, none⟩ = false := (b1.frozen (p := ⟨w.heap.size, 0, none⟩) (by first | (simp; done) | (simp; omega) | omega)).trans (by first | with_reducible assumption | (simp [go_sem]; done) | (simp [go_sem, *]; done))
          have k1_0_1 : w1.cell? ⟨w.heap.size, 1, none⟩ = some (.int .i64 (d)) := (b1.cell (p := ⟨w.heap.size, 1, none⟩) (by first | (simp; done) | (simp; omega) | omega)).trans (by first | with_reducible assumption | (simp [go_sem]; done) | (simp [go_sem, *]; done))
          have g1_0_1 : w1.frozen? ⟨w.heap.size, 1, none⟩ = false := (b1.frozen (p := ⟨w.heap.size, 1, none⟩) (by first | (simp; done) | (simp; omega) | omega)).trans (by first | with_reducible assumption | (simp [go_sem]; done) | (simp [go_sem, *]; done))
          have z1_1 : w.heap.size + 1 < w1.heap.size := by omega
          have k1_1_0 : w1.cell? ⟨w.heap.size + 1, 0, none⟩ = some (.int .i64 (m)) := (b1.cell (p := ⟨w.heap.size + 1, 0, none⟩) (by first | (simp; done) | (simp; omega) | omega)).trans (by first | with_reducible assumption | (simp [go_sem]; done) | (simp [go_sem, *]; done))
          have g1_1_0 : w1.frozen? ⟨w.heap.size + 1, 0, none⟩ = false := (b1.frozen (p := ⟨w.heap.size + 1, 0, none⟩) (by first | (simp; done) | (simp; omega) | omega)).trans (by first | with_reducible assumption | (simp [go_sem]; done) | (simp [go_sem, *]; done))
          have k1_1_1 : w1.cell? ⟨w.heap.size + 1, 1, none⟩ = some (.int .i64 (k)) := (b1.cell (p := ⟨w.heap.size + 1, 1, none⟩) (by first | (simp; done) | (simp; omega) | omega)).trans (by first | with_reducible assumption | (simp [go_sem]; done) | (simp [go_sem, *]; done))
          have g1_1_1 : w1.frozen? ⟨w.heap.size + 1, 1, none⟩ = false := (b1.frozen (p := ⟨w.heap.size + 1, 1, none⟩) (by first | (simp; done) | (simp; omega) | omega)).trans (by first | with_reducible assumption | (simp [go_sem]; done) | (simp [go_sem, *]; done))
          have z1_2 : w.heap.size + 1 + 1 < w1.heap.size := by omega
          have k1_2_0 : w1.cell? ⟨w.heap.size + 1 + 1, 0, none⟩ = some (.int .i64 (0)) := (b1.cell (p := ⟨w.heap.size + 1 + 1, 0, none⟩) (by first | (simp; done) | (simp; omega) | omega)).trans (by first | with_reducible assumption | (simp [go_sem]; done) | (simp [go_sem, *]; done))
          have g1_2_0 : w1.frozen? ⟨w.heap.size + 1 + 1, 0, none⟩ = false := (b1.frozen (p := ⟨w.heap.size + 1 + 1, 0, none⟩) (by first | (simp; done) | (simp; omega) | omega)).trans (by first | with_reducible assumption | (simp [go_sem]; done) | (simp [go_sem, *]; done))
          have k1_2_1 : w1.cell? ⟨w.heap.size + 1 + 1, 1, none⟩ = some (.int .i64 (0)) := (b1.cell (p := ⟨w.heap.size + 1 + 1, 1, none⟩) (by first | (simp; done) | (simp; omega) | omega)).trans (by first | with_reducible assumption | (simp [go_sem]; done) | (simp [go_sem, *]; done))
          have g1_2_1 : w1.frozen? ⟨w.heap.size + 1 + 1, 1, none⟩ = false := (b1.frozen (p := ⟨w.heap.size + 1 + 1, 1, none⟩) (by first | (simp; done) | (simp; omega) | omega)).trans (by first | with_reducible assumption | (simp [go_sem]; done) | (simp [go_sem, *]; done))
          go_wp2_with fail
          refine (K2.out _).mono ?_
          rintro e w2 ⟨rfl, b2⟩
          have s2 := b2.size
          try simp at s2
          have z2_0 : w.heap.size < w2.heap.size := by omega
          have k2_0_0 : w2.cell? ⟨w.heap.size, 0, none⟩ = some (.int .i64 (n)) := (b2.cell (p := ⟨w.heap.size, 0, none⟩) (by first | (simp; done) | (simp; omega) | omega)).trans (by first | with_reducible assumption | (simp [go_sem]; done) | (simp [go_sem, *]; done))
          have g2_0_0 : w2.frozen? ⟨w.heap.size, 0, none⟩ = false := (b2.frozen (p := ⟨w.heap.size, 0, none⟩) (by first | (simp; done) | (simp; omega) | omega)).trans (by first | with_reducible assumption | (simp [go_sem]; done) | (simp [go_sem, *]; done))
          have k2_0_1 : w2.cell? ⟨w.heap.size, 1, none⟩ = some (.int .i64 (d)) := (b2.cell (p := ⟨w.heap.size, 1, none⟩) (by first | (simp; done) | (simp; omega) | omega)).trans (by first | with_reducible assumption | (simp [go_sem]; done) | (simp [go_sem, *]; done))
          have g2_0_1 : w2.frozen? ⟨w.heap.size, 1, none⟩ = false := (b2.frozen (p := ⟨w.heap.size, 1, none⟩) (by first | (simp; done) | (simp; omega) | omega)).trans (by first | with_reducible assumption | (simp [go_sem]; done) | (simp [go_sem, *]; done))
          have z2_1 : w.heap.size + 1 < w2.heap.size := by omega
          have k2_1_0 : w2.cell? ⟨w.heap.size + 1, 0, none⟩ = some (.int .i64 (m)) := (b2.cell (p := ⟨w.heap.size + 1, 0, none⟩) (by first | (simp; done) | (simp; omega) | omega)).trans (by first | with_reducible assumption | (simp [go_sem]; done) | (simp [go_sem, *]; done))
          have g2_1_0 : w2.frozen? ⟨w.heap.size + 1, 0, none⟩ = false := (b2.frozen (p := ⟨w.heap.size + 1, 0, none⟩) (by first | (simp; done) | (simp; omega) | omega)).trans (by first | with_reducible assumption | (simp [go_sem]; done) | (simp [go_sem, *]; done))
          have k2_1_1 : w2.cell? ⟨w.heap.size + 1, 1, none⟩ = some (.int .i64 (k)) := (b2.cell (p := ⟨w.heap.size + 1, 1, none⟩) (by first | (simp; done) | (simp; omega) | omega)).trans (by first | with_reducible assumption | (simp [go_sem]; done) | (simp [go_sem, *]; done))
          have g2_1_1 : w2.frozen? ⟨w.heap.size + 1, 1, none⟩ = false := (b2.frozen (p := ⟨w.heap.size + 1, 1, none⟩) (by first | (simp; done) | (simp; omega) | omega)).trans (by first | with_reducible assumption | (simp [go_sem]; done) | (simp [go_sem, *]; done))
          have z2_2 : w.heap.size + 1 + 1 < w2.heap.size := by omega
          have k2_2_0 : w2.cell? ⟨w.heap.size + 1 + 1, 0, none⟩ = some (.int .i64 (0)) := (b2.cell (p := ⟨w.heap.size + 1 + 1, 0, none⟩) (by first | (simp; done) | (simp; omega) | omega)).trans (by first | with_reducible assumption | (simp [go_sem]; done) | (simp [go_sem, *]; done))
          have g2_2_0 : w2.frozen? ⟨w.heap.size + 1 + 1, 0, none⟩ = false := (b2.frozen (p := ⟨w.heap.size + 1 + 1, 0, none⟩) (by first | (simp; done) | (simp; omega) | omega)).trans (by first | with_reducible assumption | (simp [go_sem]; done) | (simp [go_sem, *]; done))
          have k2_2_1 : w2.cell? ⟨w.heap.size + 1 + 1, 1, none⟩ = some (.int .i64 (0)) := (b2.cell (p := ⟨w.heap.size + 1 + 1, 1, none⟩) (by first | (simp; done) | (simp; omega) | omega)).trans (by first | with_reducible assumption | (simp [go_sem]; done) | (simp [go_sem, *]; done))
          have g2_2_1 : w2.frozen? ⟨w.heap.size + 1 + 1, 1, none⟩ = false := (b2.frozen (p := ⟨w.heap.size + 1 + 1, 1, none⟩) (by first | (simp; done) | (simp; omega) | omega)).trans (by first | with_reducible assumption | (simp [go_sem]; done) | (simp [go_sem, *]; done))
          clear k1_0_0 g1_0_0 k1_0_1 g1_0_1 k1_1_0 g1_1_0 k1_1_1 g1_1_1 k1_2_0 g1_2_0 k1_2_1 g1_2_1
          have A0 : ∀ w', Hld w2 w' → w'.cell? ⟨w.heap.size, 0, none⟩ = some (.int .i64 n) := fun w' h => (Below.cell h (p := ⟨w.heap.size, 0, none⟩) z2_0).trans k2_0_0
          have A1 : ∀ w', Hld w2 w' → w'.cell? ⟨w.heap.size, 1, none⟩ = some (.int .i64 d) := fun w' h => (Below.cell h (p := ⟨w.heap.size, 1, none⟩) z2_0).trans k2_0_1
          have A2 : ∀ w', Hld w2 w' → w'.cell? ⟨w.heap.size + 1, 0, none⟩ = some (.int .i64 m) := fun w' h => (Below.cell h (p := ⟨w.heap.size + 1, 0, none⟩) z2_1).trans k2_1_0
          have A3 : ∀ w', Hld w2 w' → w'.cell? ⟨w.heap.size + 1, 1, none⟩ = some (.int .i64 k) := fun w' h => (Below.cell h (p := ⟨w.heap.size + 1, 1, none⟩) z2_1).trans k2_1_1
          go_upto_region 3 with fail
          go_cut [6, 7] (fun s6 s7 wx => ∃ g1 g2 : Nat, s6 = .pointer (some ⟨g1, 0, none⟩) ∧ s7 = .pointer (some ⟨g2, 0, none⟩) ∧ wx.cell? ⟨g1, 0, none⟩ = some (.int .i64 X) ∧ wx.cell? ⟨g1, 1, none⟩ = some (.int .i64 XD) ∧ wx.cell? ⟨g2, 0, none⟩ = some (.int .i64 Y) ∧ wx.cell? ⟨g2, 1, none⟩ = some (.int .i64 YD) ∧ g1 < wx.heap.size ∧ g2 < wx.heap.size ∧ Hld w2 wx)
          case first =>
            go_region_held3 (fun w' => Hld w2 w') ((repeat (first | with_reducible assumption | with_reducible exact Hld.start _ | with_reducible exact Hld.refl _ | with_reducible refine Hld.drew ?_ | with_reducible refine Hld.alloc ?_ _ | with_reducible refine Hld.set ?_ (by first | exact Nat.le_refl _ | assumption | (simp; done) | (simp; omega)) _))) (first | (go_at_call 58; (with_reducible refine (P1.out _).mono ?_); rintro e w' ⟨rfl, hb⟩; have HS : Hld w2 w' := Hld.call (by first | with_reducible assumption | with_reducible exact Hld.alloc (by with_reducible assumption) _) hb; have hsz := HS.size; (try (first | have H2 := bl_call hb H1 | have H2 := bl_call hb (bl_alloc H1 _))); (try (first | have H1 := bl_call hb H0 | have H1 := bl_call hb (bl_alloc H0 _))); have H0 := hb; (try (have hc0 := (bcell H0).1; have hf0 := (bcell H0).2)); (try (first | have l0 := lt_al H0 | have l0 := lt_ald H0)); (try (have hc1 := (bcell H1).1; have hf1 := (bcell H1).2)); (try (first | have l1 := lt_al H1 | have l1 := lt_ald H1)); (try (have hc2 := (bcell H2).1; have hf2 := (bcell H2).2)); (try (first | have l2 := lt_al H2 | have l2 := lt_ald H2)); (try (first | have m0 := lt_al2 H0 | have m0 := lt_al2d H0)); (try (have n0 := m0.1; have o0 := m0.2; clear m0)); (try (first | have m1 := lt_al2 H1 | have m1 := lt_al2d H1)); (try (have n1 := m1.1; have o1 := m1.2; clear m1)); (try (first | have m2 := lt_al2 H2 | have m2 := lt_al2d H2)); (try (have n2 := m2.1; have o2 := m2.2; clear m2))) | (go_at_call 58; (with_reducible refine (P2.out _).mono ?_); rintro e w' ⟨rfl, hb⟩; have HS : Hld w2 w' := Hld.call (by first | with_reducible assumption | with_reducible exact Hld.alloc (by with_reducible assumption) _) hb; have hsz := HS.size; (try (first | have H2 := bl_call hb H1 | have H2 := bl_call hb (bl_alloc H1 _))); (try (first | have H1 := bl_call hb H0 | have H1 := bl_call hb (bl_alloc H0 _))); have H0 := hb; (try (have hc0 := (bcell H0).1; have hf0 := (bcell H0).2)); (try (first | have l0 := lt_al H0 | have l0 := lt_ald H0)); (try (have hc1 := (bcell H1).1; have hf1 := (bcell H1).2)); (try (first | have l1 := lt_al H1 | have l1 := lt_ald H1)); (try (have hc2 := (bcell H2).1; have hf2 := (bcell H2).2)); (try (first | have l2 := lt_al H2 | have l2 := lt_ald H2)); (try (first | have m0 := lt_al2 H0 | have m0 := lt_al2d H0)); (try (have n0 := m0.1; have o0 := m0.2; clear m0)); (try (first | have m1 := lt_al2 H1 | have m1 := lt_al2d H1)); (try (have n1 := m1.1; have o1 := m1.2; clear m1)); (try (first | have m2 := lt_al2 H2 | have m2 := lt_al2d H2)); (try (have n2 := m2.1; have o2 := m2.2; clear m2))))
            all_goals (go_wp2_with fail; go_meet; exact ⟨_, _, rfl, rfl, by first | (simp [go_sem]; done) | (simp [go_sem, *]; done) | (simp (maxDischargeDepth := 8) [go_sem, *]; done), by first | (simp [go_sem]; done) | (simp [go_sem, *]; done) | (simp (maxDischargeDepth := 8) [go_sem, *]; done), by first | (simp [go_sem]; done) | (simp [go_sem, *]; done) | (simp (maxDischargeDepth := 8) [go_sem, *]; done), by first | (simp [go_sem]; done) | (simp [go_sem, *]; done) | (simp (maxDischargeDepth := 8) [go_sem, *]; done), by first | (simp; done) | (simp; omega), by first | (simp; done) | (simp; omega), by (repeat (first | with_reducible assumption | with_reducible exact Hld.start _ | with_reducible exact Hld.refl _ | with_reducible refine Hld.drew ?_ | with_reducible refine Hld.alloc ?_ _ | with_reducible refine Hld.set ?_ (by first | exact Nat.le_refl _ | assumption | (simp; done) | (simp; omega)) _))⟩)
          case rest =>
            obtain ⟨g1, g2, rfl, rfl, e0, e1, e2, e3, gz1, gz2, HW⟩ := hcut
            have bW : Below w2.heap.size w2 wc := HW
            clear A0 A1 A2 A3
            have zc_0 : w.heap.size < wc.heap.size := Nat.lt_of_lt_of_le z2_0 bW.size
            have kc_0_0 := (bW.cell (p := ⟨w.heap.size, 0, none⟩) z2_0).trans k2_0_0
            have gc_0_0 := (bW.frozen (p := ⟨w.heap.size, 0, none⟩) z2_0).trans g2_0_0
            have kc_0_1 := (bW.cell (p := ⟨w.heap.size, 1, none⟩) z2_0).trans k2_0_1
            have gc_0_1 := (bW.frozen (p := ⟨w.heap.size, 1, none⟩) z2_0).trans g2_0_1
            have zc_1 : w.heap.size + 1 < wc.heap.size := Nat.lt_of_lt_of_le z2_1 bW.size
            have kc_1_0 := (bW.cell (p := ⟨w.heap.size + 1, 0, none⟩) z2_1).trans k2_1_0
            have gc_1_0 := (bW.frozen (p := ⟨w.heap.size + 1, 0, none⟩) z2_1).trans g2_1_0
            have kc_1_1 := (bW.cell (p := ⟨w.heap.size + 1, 1, none⟩) z2_1).trans k2_1_1
            have gc_1_1 := (bW.frozen (p := ⟨w.heap.size + 1, 1, none⟩) z2_1).trans g2_1_1
            have zc_2 : w.heap.size + 1 + 1 < wc.heap.size := Nat.lt_of_lt_of_le z2_2 bW.size
            have kc_2_0 := (bW.cell (p := ⟨w.heap.size + 1 + 1, 0, none⟩) z2_2).trans k2_2_0
            have gc_2_0 := (bW.frozen (p := ⟨w.heap.size + 1 + 1, 0, none⟩) z2_2).trans g2_2_0
            have kc_2_1 := (bW.cell (p := ⟨w.heap.size + 1 + 1, 1, none⟩) z2_2).trans k2_2_1
            have gc_2_1 := (bW.frozen (p := ⟨w.heap.size + 1 + 1, 1, none⟩) z2_2).trans g2_2_1
            clear HW k2_0_0 g2_0_0 k2_0_1 g2_0_1 k2_1_0 g2_1_0 k2_1_1 g2_1_1 k2_2_0 g2_2_0 k2_2_1 g2_2_1
            go_wp2
            have kc0 := cell_regrown (w := wc) (a := ⟨w.heap.size, 0, none⟩) (v := .int .i64 (n)) (by first | ((repeat (first | with_reducible assumption | with_reducible refine calloc ?_ _)); done) | (simp [go_sem]; done) | (simp [go_sem, *]; done))
            have kc1 := cell_regrown (w := wc) (a := ⟨w.heap.size, 1, none⟩) (v := .int .i64 (d)) (by first | ((repeat (first | with_reducible assumption | with_reducible refine calloc ?_ _)); done) | (simp [go_sem]; done) | (simp [go_sem, *]; done))
            have kc2 := cell_regrown (w := wc) (a := ⟨w.heap.size + 1, 0, none⟩) (v := .int .i64 (m)) (by first | ((repeat (first | with_reducible assumption | with_reducible refine calloc ?_ _)); done) | (simp [go_sem]; done) | (simp [go_sem, *]; done))
            have kc3 := cell_regrown (w := wc) (a := ⟨w.heap.size + 1, 1, none⟩) (v := .int .i64 (k)) (by first | ((repeat (first | with_reducible assumption | with_reducible refine calloc ?_ _)); done) | (simp [go_sem]; done) | (simp [go_sem, *]; done))
            have kc4 := cell_regrown (w := wc) (a := ⟨w.heap.size + 1 + 1, 0, none⟩) (v := .int .i64 (0)) (by first | ((repeat (first | with_reducible assumption | with_reducible refine calloc ?_ _)); done) | (simp [go_sem]; done) | (simp [go_sem, *]; done))
            have kc5 := cell_regrown (w := wc) (a := ⟨w.heap.size + 1 + 1, 1, none⟩) (v := .int .i64 (0)) (by first | ((repeat (first | with_reducible assumption | with_reducible refine calloc ?_ _)); done) | (simp [go_sem]; done) | (simp [go_sem, *]; done))
            have kc6 := cell_regrown (w := wc) (a := ⟨g1, 0, none⟩) (v := .int .i64 (X)) (by first | ((repeat (first | with_reducible assumption | with_reducible refine calloc ?_ _)); done) | (simp [go_sem]; done) | (simp [go_sem, *]; done))
            have kc7 := cell_regrown (w := wc) (a := ⟨g1, 1, none⟩) (v := .int .i64 (XD)) (by first | ((repeat (first | with_reducible assumption | with_reducible refine calloc ?_ _)); done) | (simp [go_sem]; done) | (simp [go_sem, *]; done))
            have kc8 := cell_regrown (w := wc) (a := ⟨g2, 0, none⟩) (v := .int .i64 (Y)) (by first | ((repeat (first | with_reducible assumption | with_reducible refine calloc ?_ _)); done) | (simp [go_sem]; done) | (simp [go_sem, *]; done))
            have kc9 := cell_regrown (w := wc) (a := ⟨g2, 1, none⟩) (v := .int .i64 (YD)) (by first | ((repeat (first | with_reducible assumption | with_reducible refine calloc ?_ _)); done) | (simp [go_sem]; done) | (simp [go_sem, *]; done))
            refine wp_region_quiet_below (by kernel_rfl) (by kernel_rfl) ?_
            repeat (go_big_quiet_step ((first | (go_at_call 59; with_reducible exact Calls.regrown_of (qb_same (K3.out _))) | (go_at_call 59; with_reducible exact Calls.regrown_of (qb_same (K4.out _))))))
            refine wpQuiet_nil ?_
            intro w3 hw'
            have b3 : Below wc.heap.size wc w3 := by
              obtain ⟨pp, rfl⟩ := hw'
              exact below_regrown _ _ _
            clear hw' kc0 kc1 kc2 kc3 kc4 kc5 kc6 kc7 kc8 kc9
            have s3 := b3.size
            try simp at s3
            have z3_0 : w.heap.size < w3.heap.size := by omega
            have k3_0_0 : w3.cell? ⟨w.heap.size, 0, none⟩ = some (.int .i64 (n)) := (b3.cell (p := ⟨w.heap.size, 0, none⟩) (by first | (simp; done) | (simp; omega) | omega)).trans (by first | with_reducible assumption | (simp [go_sem]; done) | (simp [go_sem, *]; done))
            have g3_0_0 : w3.frozen? ⟨w.heap.size, 0, none⟩ = false := (b3.frozen (p := ⟨w.heap.size, 0, none⟩) (by first | (simp; done) | (simp; omega) | omega)).trans (by first | with_reducible assumption | (simp [go_sem]; done) | (simp [go_sem, *]; done))
            have k3_0_1 : w3.cell? ⟨w.heap.size, 1, none⟩ = some (.int .i64 (d)) := (b3.cell (p := ⟨w.heap.size, 1, none⟩) (by first | (simp; done) | (simp; omega) | omega)).trans (by first | with_reducible assumption | (simp [go_sem]; done) | (simp [go_sem, *]; done))
            have g3_0_1 : w3.frozen? ⟨w.heap.size, 1, none⟩ = false := (b3.frozen (p := ⟨w.heap.size, 1, none⟩) (by first | (simp; done) | (simp; omega) | omega)).trans (by first | with_reducible assumption | (simp [go_sem]; done) | (simp [go_sem, *]; done))
            have z3_1 : w.heap.size + 1 < w3.heap.size := by omega
            have k3_1_0 : w3.cell? ⟨w.heap.size + 1, 0, none⟩ = some (.int .i64 (m)) := (b3.cell (p := ⟨w.heap.size + 1, 0, none⟩) (by first | (simp; done) | (simp; omega) | omega)).trans (by first | with_reducible assumption | (simp [go_sem]; done) | (simp [go_sem, *]; done))
            have g3_1_0 : w3.frozen? ⟨w.heap.size + 1, 0, none⟩ = false := (b3.frozen (p := ⟨w.heap.size + 1, 0, none⟩) (by first | (simp; done) | (simp; omega) | omega)).trans (by first | with_reducible assumption | (simp [go_sem]; done) | (simp [go_sem, *]; done))
            have k3_1_1 : w3.cell? ⟨w.heap.size + 1, 1, none⟩ = some (.int .i64 (k)) := (b3.cell (p := ⟨w.heap.size + 1, 1, none⟩) (by first | (simp; done) | (simp; omega) | omega)).trans (by first | with_reducible assumption | (simp [go_sem]; done) | (simp [go_sem, *]; done))
            have g3_1_1 : w3.frozen? ⟨w.heap.size + 1, 1, none⟩ = false := (b3.frozen (p := ⟨w.heap.size + 1, 1, none⟩) (by first | (simp; done) | (simp; omega) | omega)).trans (by first | with_reducible assumption | (simp [go_sem]; done) | (simp [go_sem, *]; done))
            have z3_2 : w.heap.size + 1 + 1 < w3.heap.size := by omega
            have k3_2_0 : w3.cell? ⟨w.heap.size + 1 + 1, 0, none⟩ = some (.int .i64 (0)) := (b3.cell (p := ⟨w.heap.size + 1 + 1, 0, none⟩) (by first | (simp; done) | (simp; omega) | omega)).trans (by first | with_reducible assumption | (simp [go_sem]; done) | (simp [go_sem, *]; done))
            have g3_2_0 : w3.frozen? ⟨w.heap.size + 1 + 1, 0, none⟩ = false := (b3.frozen (p := ⟨w.heap.size + 1 + 1, 0, none⟩) (by first | (simp; done) | (simp; omega) | omega)).trans (by first | with_reducible assumption | (simp [go_sem]; done) | (simp [go_sem, *]; done))
            have k3_2_1 : w3.cell? ⟨w.heap.size + 1 + 1, 1, none⟩ = some (.int .i64 (0)) := (b3.cell (p := ⟨w.heap.size + 1 + 1, 1, none⟩) (by first | (simp; done) | (simp; omega) | omega)).trans (by first | with_reducible assumption | (simp [go_sem]; done) | (simp [go_sem, *]; done))
            have g3_2_1 : w3.frozen? ⟨w.heap.size + 1 + 1, 1, none⟩ = false := (b3.frozen (p := ⟨w.heap.size + 1 + 1, 1, none⟩) (by first | (simp; done) | (simp; omega) | omega)).trans (by first | with_reducible assumption | (simp [go_sem]; done) | (simp [go_sem, *]; done))
            have z3_3 : g1 < w3.heap.size := by omega
            have k3_3_0 : w3.cell? ⟨g1, 0, none⟩ = some (.int .i64 (X)) := (b3.cell (p := ⟨g1, 0, none⟩) (by first | (simp; done) | (simp; omega) | omega)).trans (by first | with_reducible assumption | (simp [go_sem]; done) | (simp [go_sem, *]; done))
            have k3_3_1 : w3.cell? ⟨g1, 1, none⟩ = some (.int .i64 (XD)) := (b3.cell (p := ⟨g1, 1, none⟩) (by first | (simp; done) | (simp; omega) | omega)).trans (by first | with_reducible assumption | (simp [go_sem]; done) | (simp [go_sem, *]; done))
            have z3_4 : g2 < w3.heap.size := by omega
            have k3_4_0 : w3.cell? ⟨g2, 0, none⟩ = some (.int .i64 (Y)) := (b3.cell (p := ⟨g2, 0, none⟩) (by first | (simp; done) | (simp; omega) | omega)).trans (by first | with_reducible assumption | (simp [go_sem]; done) | (simp [go_sem, *]; done))
            have k3_4_1 : w3.cell? ⟨g2, 1, none⟩ = some (.int .i64 (YD)) := (b3.cell (p := ⟨g2, 1, none⟩) (by first | (simp; done) | (simp; omega) | omega)).trans (by first | with_reducible assumption | (simp [go_sem]; done) | (simp [go_sem, *]; done))
            clear e0 e1 e2 e3 kc_0_0 gc_0_0 kc_0_1 gc_0_1 kc_1_0 gc_1_0 kc_1_1 gc_1_1 kc_2_0 gc_2_0 kc_2_1 gc_2_1
            go_wp2_with fail
            refine (K5.out _).mono ?_
            rintro e w4 ⟨rfl, b4⟩
            have s4 := b4.size
            try simp at s4
            have z4_0 : w.heap.size < w4.heap.size := by omega
            have k4_0_0 : w4.cell? ⟨w.heap.size, 0, none⟩ = some (.int .i64 (n)) := (b4.cell (p := ⟨w.heap.size, 0, none⟩) (by first | (simp; done) | (simp; omega) | omega)).trans (by first | with_reducible assumption | (simp [go_sem]; done) | (simp [go_sem, *]; done))
            have g4_0_0 : w4.frozen? ⟨w.heap.size, 0, none⟩ = false := (b4.frozen (p := ⟨w.heap.size, 0, none⟩) (by first | (simp; done) | (simp; omega) | omega)).trans (by first | with_reducible assumption | (simp [go_sem]; done) | (simp [go_sem, *]; done))
            have k4_0_1 : w4.cell? ⟨w.heap.size, 1, none⟩ = some (.int .i64 (d)) := (b4.cell (p := ⟨w.heap.size, 1, none⟩) (by first | (simp; done) | (simp; omega) | omega)).trans (by first | with_reducible assumption | (simp [go_sem]; done) | (simp [go_sem, *]; done))
            have g4_0_1 : w4.frozen? ⟨w.heap.size, 1, none⟩ = false := (b4.frozen (p := ⟨w.heap.size, 1, none⟩) (by first | (simp; done) | (simp; omega) | omega)).trans (by first | with_reducible assumption | (simp [go_sem]; done) | (simp [go_sem, *]; done))
            have z4_1 : w.heap.size + 1 < w4.heap.size := by omega
            have k4_1_0 : w4.cell? ⟨w.heap.size + 1, 0, none⟩ = some (.int .i64 (m)) := (b4.cell (p := ⟨w.heap.size + 1, 0, none⟩) (by first | (simp; done) | (simp; omega) | omega)).trans (by first | with_reducible assumption | (simp [go_sem]; done) | (simp [go_sem, *]; done))
            have g4_1_0 : w4.frozen? ⟨w.heap.size + 1, 0, none⟩ = false := (b4.frozen (p := ⟨w.heap.size + 1, 0, none⟩) (by first | (simp; done) | (simp; omega) | omega)).trans (by first | with_reducible assumption | (simp [go_sem]; done) | (simp [go_sem, *]; done))
            have k4_1_1 : w4.cell? ⟨w.heap.size + 1, 1, none⟩ = some (.int .i64 (k)) := (b4.cell (p := ⟨w.heap.size + 1, 1, none⟩) (by first | (simp; done) | (simp; omega) | omega)).trans (by first | with_reducible assumption | (simp [go_sem]; done) | (simp [go_sem, *]; done))
            have g4_1_1 : w4.frozen? ⟨w.heap.size + 1, 1, none⟩ = false := (b4.frozen (p := ⟨w.heap.size + 1, 1, none⟩) (by first | (simp; done) | (simp; omega) | omega)).trans (by first | with_reducible assumption | (simp [go_sem]; done) | (simp [go_sem, *]; done))
            have z4_2 : w.heap.size + 1 + 1 < w4.heap.size := by omega
            have k4_2_0 : w4.cell? ⟨w.heap.size + 1 + 1, 0, none⟩ = some (.int .i64 (0)) := (b4.cell (p := ⟨w.heap.size + 1 + 1, 0, none⟩) (by first | (simp; done) | (simp; omega) | omega)).trans (by first | with_reducible assumption | (simp [go_sem]; done) | (simp [go_sem, *]; done))
            have g4_2_0 : w4.frozen? ⟨w.heap.size + 1 + 1, 0, none⟩ = false := (b4.frozen (p := ⟨w.heap.size + 1 + 1, 0, none⟩) (by first | (simp; done) | (simp; omega) | omega)).trans (by first | with_reducible assumption | (simp [go_sem]; done) | (simp [go_sem, *]; done))
            have k4_2_1 : w4.cell? ⟨w.heap.size + 1 + 1, 1, none⟩ = some (.int .i64 (0)) := (b4.cell (p := ⟨w.heap.size + 1 + 1, 1, none⟩) (by first | (simp; done) | (simp; omega) | omega)).trans (by first | with_reducible assumption | (simp [go_sem]; done) | (simp [go_sem, *]; done))
            have g4_2_1 : w4.frozen? ⟨w.heap.size + 1 + 1, 1, none⟩ = false := (b4.frozen (p := ⟨w.heap.size + 1 + 1, 1, none⟩) (by first | (simp; done) | (simp; omega) | omega)).trans (by first | with_reducible assumption | (simp [go_sem]; done) | (simp [go_sem, *]; done))
            have z4_3 : g1 < w4.heap.size := by omega
            have k4_3_0 : w4.cell? ⟨g1, 0, none⟩ = some (.int .i64 (X)) := (b4.cell (p := ⟨g1, 0, none⟩) (by first | (simp; done) | (simp; omega) | omega)).trans (by first | with_reducible assumption | (simp [go_sem]; done) | (simp [go_sem, *]; done))
            have k4_3_1 : w4.cell? ⟨g1, 1, none⟩ = some (.int .i64 (XD)) := (b4.cell (p := ⟨g1, 1, none⟩) (by first | (simp; done) | (simp; omega) | omega)).trans (by first | with_reducible assumption | (simp [go_sem]; done) | (simp [go_sem, *]; done))
            have z4_4 : g2 < w4.heap.size := by omega
            have k4_4_0 : w4.cell? ⟨g2, 0, none⟩ = some (.int .i64 (Y)) := (b4.cell (p := ⟨g2, 0, none⟩) (by first | (simp; done) | (simp; omega) | omega)).trans (by first | with_reducible assumption | (simp [go_sem]; done) | (simp [go_sem, *]; done))
            have k4_4_1 : w4.cell? ⟨g2, 1, none⟩ = some (.int .i64 (YD)) := (b4.cell (p := ⟨g2, 1, none⟩) (by first | (simp; done) | (simp; omega) | omega)).trans (by first | with_reducible assumption | (simp [go_sem]; done) | (simp [go_sem, *]; done))
            clear k3_0_0 g3_0_0 k3_0_1 g3_0_1 k3_1_0 g3_1_0 k3_1_1 g3_1_1 k3_2_0 g3_2_0 k3_2_1 g3_2_1 k3_3_0 k3_3_1 k3_4_0 k3_4_1
            go_wp2
            refine bodyPost_ret (v := .tuple #[.agg #[.int .i64 (okN (X * Y) (XD * YD)), .int .i64 (okD (X * Y) (XD * YD))], .bool (ratB (X * Y) (XD * YD))]) (by simp [results, Try.results17, go_sem, *]) rfl ⟨rfl, ?_⟩
            (repeat (first | with_reducible exact Below.refl _ _ | with_reducible refine bl_alloc ?_ _ | with_reducible refine bl_drew ?_ | with_reducible refine bl_set ?_ (by first | (simp; done) | (simp; omega)) _ | with_reducible refine bl_call (by assumption) ?_))

end Go.Proofs.Ytbhcodmpcknllaa
