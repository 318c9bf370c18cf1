/- FnDeterminant returns true for every argument, and leaves its arguments as they were. No conditions. -/
import Derived.Test.YtkhocfoggjdccaaFrame
import Derived.Test.YtkhocfoggjdccaaRdr9
import Derived.Test.YtkhocfoggjdccaaB6
import Derived.Test.YtkhocfoggjdccaaB7
import Derived.Test.YtkhocfoggjdccaaPlainQ6
namespace Go.Proofs.Ytkhocfoggjdccaa
open Go.RowKit
set_option linter.unusedVariables false

open Go.ChangeShapes Go.WideShapes Go.ChangeAt
namespace FnDeterminant

open Go.Sort
set_option maxRecDepth 100000 in
set_option maxHeartbeats 8000000 in
theorem walk (a : Option Addr) (n c : Nat) (w : World) (hs : BytesOf w.heap.size w a n) (hc : n ≤ c) (hc2 : c ≤ 9223372036854775807) :
    Calls Try.prog 10 #[.slice a n c] w fun e w' => e = .returned (.bool true) ∧ Below w.heap.size w w' := by
  by_cases hn : n ≤ 1048576
  · have hnz : ¬ (1048576 : Int) < (n : Int) := by omega
    have HS := Lib.hid hs
    clear hs
    go_enter Try.func10, Try.ntmps10
    go_wp2_with fail
    refine (rdr_DrawComposeMatrices w.heap.size a n c w (Nat.le_refl _) HS.out hc hc2).mono ?_
    rintro e w1 ⟨x, y, z, u, p, q, r, s, rfl, ⟨lx, ux⟩, ⟨ly, uy⟩, ⟨lz, uz⟩, ⟨lu, uu⟩, ⟨lp, up⟩, ⟨lq, uq⟩, ⟨lr, ur⟩, ⟨ls, us⟩, b1⟩
    have s1 := b1.size
    try simp at s1
    cases hok : cmB x y z u p q r s with
    | false =>
      obtain ⟨m0, e0⟩ : ∃ v, CmA x y z u p q r s = v := ⟨_, rfl⟩
      obtain ⟨m1, e1⟩ : ∃ v, CmB x y z u p q r s = v := ⟨_, rfl⟩
      obtain ⟨m2, e2⟩ : ∃ v, CmC x y z u p q r s = v := ⟨_, rfl⟩
      obtain ⟨m3, e3⟩ : ∃ v, CmD x y z u p q r s = v := ⟨_, rfl⟩
      have K1 : Hid (∀ W : World, Calls Try.prog 32 #[.agg #[.int .i64 x, .int .i64 y, .int .i64 z, .int .i64 u], .agg #[.int .i64 p, .int .i64 q, .int .i64 r, .int .i64 s]] W fun e w' => e = .returned (.tuple #[.agg #[.int .i64 m0, .int .i64 m1, .int .i64 m2, .int .i64 m3], .bool false]) ∧ Below W.heap.size W w') := Lib.hid fun W => by
        have h := impl_ComposeMatrices (x) (y) (z) (u) (p) (q) (r) (s) W
        rw [e0, e1, e2, e3, hok] at h
        exact h
      have K2 : Hid (∀ W : World, Calls Try.prog 33 #[.agg #[.int .i64 x, .int .i64 y, .int .i64 z, .int .i64 u], .agg #[.int .i64 p, .int .i64 q, .int .i64 r, .int .i64 s]] W fun e w' => e = .returned (.tuple #[.agg #[.int .i64 m0, .int .i64 m1, .int .i64 m2, .int .i64 m3], .bool false]) ∧ Below W.heap.size W w') := Lib.hid fun W => by
        have h := spec_ComposeMatrices (x) (y) (z) (u) (p) (q) (r) (s) W
        rw [e0, e1, e2, e3, hok] at h
        exact h
      clear e0 e1 e2 e3 hok
      go_wp2_with fail
      refine (K1.out _).mono ?_
      rintro e w2 ⟨rfl, b2⟩
      have s2 := b2.size
      try simp at s2
      have z2_0 : w1.heap.size < w2.heap.size := by omega
      have k2_0_0 : w2.cell? ⟨w1.heap.size, 0, none⟩ = some (.int .i64 (x)) := (b2.cell (p := ⟨w1.heap.size, 0, none⟩) (by first | (simp; done) | (simp; omega) | omega)).trans (by first | with_reducible assumption | (simp [go_sem]; done) | (simp [go_sem, *]; done))
      have g2_0_0 : w2.frozen? ⟨w1.heap.size, 0, none⟩ = false := (b2.frozen (p := ⟨w1.heap.size, 0, none⟩) (by first | (simp; done) | (simp; omega) | omega)).trans (by first | with_reducible assumption | (simp [go_sem]; done) | (simp [go_sem, *]; done))
      have k2_0_1 : w2.cell? ⟨w1.heap.size, 1, none⟩ = some (.int .i64 (y)) := (b2.cell (p := ⟨w1.heap.size, 1, none⟩) (by first | (simp; done) | (simp; omega) | omega)).trans (by first | with_reducible assumption | (simp [go_sem]; done) | (simp [go_sem, *]; done))
      have g2_0_1 : w2.frozen? ⟨w1.heap.size, 1, none⟩ = false := (b2.frozen (p := ⟨w1.heap.size, 1, none⟩) (by first | (simp; done) | (simp; omega) | omega)).trans (by first | with_reducible assumption | (simp [go_sem]; done) | (simp [go_sem, *]; done))
      have k2_0_2 : w2.cell? ⟨w1.heap.size, 2, none⟩ = some (.int .i64 (z)) := (b2.cell (p := ⟨w1.heap.size, 2, none⟩) (by first | (simp; done) | (simp; omega) | omega)).trans (by first | with_reducible assumption | (simp [go_sem]; done) | (simp [go_sem, *]; done))
      have g2_0_2 : w2.frozen? ⟨w1.heap.size, 2, none⟩ = false := (b2.frozen (p := ⟨w1.heap.size, 2, none⟩) (by first | (simp; done) | (simp; omega) | omega)).trans (by first | with_reducible assumption | (simp [go_sem]; done) | (simp [go_sem, *]; done))
      have k2_0_3 : w2.cell? ⟨w1.heap.size, 3, none⟩ = some (.int .i64 (u)) := (b2.cell (p := ⟨w1.heap.size, 3, none⟩) (by first | (simp; done) | (simp; omega) | omega)).trans (by first | with_reducible assumption | (simp [go_sem]; done) | (simp [go_sem, *]; done))
      have g2_0_3 : w2.frozen? ⟨w1.heap.size, 3, none⟩ = false := (b2.frozen (p := ⟨w1.heap.size, 3, none⟩) (by first | (simp; done) | (simp; omega) | omega)).trans (by first | with_reducible assumption | (simp [go_sem]; done) | (simp [go_sem, *]; done))
      have z2_1 : w1.heap.size + 1 < w2.heap.size := by omega
      have k2_1_0 : w2.cell? ⟨w1.heap.size + 1, 0, none⟩ = some (.int .i64 (p)) := (b2.cell (p := ⟨w1.heap.size + 1, 0, none⟩) (by first | (simp; done) | (simp; omega) | omega)).trans (by first | with_reducible assumption | (simp [go_sem]; done) | (simp [go_sem, *]; done))
      have g2_1_0 : w2.frozen? ⟨w1.heap.size + 1, 0, none⟩ = false := (b2.frozen (p := ⟨w1.heap.size + 1, 0, none⟩) (by first | (simp; done) | (simp; omega) | omega)).trans (by first | with_reducible assumption | (simp [go_sem]; done) | (simp [go_sem, *]; done))
      have k2_1_1 : w2.cell? ⟨w1.heap.size + 1, 1, none⟩ = some (.int .i64 (q)) := (b2.cell (p := ⟨w1.heap.size + 1, 1, none⟩) (by first | (simp; done) | (simp; omega) | omega)).trans (by first | with_reducible assumption | (simp [go_sem]; done) | (simp [go_sem, *]; done))
      have g2_1_1 : w2.frozen? ⟨w1.heap.size + 1, 1, none⟩ = false := (b2.frozen (p := ⟨w1.heap.size + 1, 1, none⟩) (by first | (simp; done) | (simp; omega) | omega)).trans (by first | with_reducible assumption | (simp [go_sem]; done) | (simp [go_sem, *]; done))
      have k2_1_2 : w2.cell? ⟨w1.heap.size + 1, 2, none⟩ = some (.int .i64 (r)) := (b2.cell (p := ⟨w1.heap.size + 1, 2, none⟩) (by first | (simp; done) | (simp; omega) | omega)).trans (by first | with_reducible assumption | (simp [go_sem]; done) | (simp [go_sem, *]; done))
      have g2_1_2 : w2.frozen? ⟨w1.heap.size + 1, 2, none⟩ = false := (b2.frozen (p := ⟨w1.heap.size + 1, 2, none⟩) (by first | (simp; done) | (simp; omega) | omega)).trans (by first | with_reducible assumption | (simp [go_sem]; done) | (simp [go_sem, *]; done))
      have k2_1_3 : w2.cell? ⟨w1.heap.size + 1, 3, none⟩ = some (.int .i64 (s)) := (b2.cell (p := ⟨w1.heap.size + 1, 3, none⟩) (by first | (simp; done) | (simp; omega) | omega)).trans (by first | with_reducible assumption | (simp [go_sem]; done) | (simp [go_sem, *]; done))
      have g2_1_3 : w2.frozen? ⟨w1.heap.size + 1, 3, none⟩ = false := (b2.frozen (p := ⟨w1.heap.size + 1, 3, none⟩) (by first | (simp; done) | (simp; omega) | omega)).trans (by first | with_reducible assumption | (simp [go_sem]; done) | (simp [go_sem, *]; done))
      go_wp2_with fail
      refine (K2.out _).mono ?_
      rintro e w3 ⟨rfl, b3⟩
      have s3 := b3.size
      try simp at s3
      have z3_0 : w1.heap.size < w3.heap.size := by omega
      have k3_0_0 : w3.cell? ⟨w1.heap.size, 0, none⟩ = some (.int .i64 (x)) := (b3.cell (p := ⟨w1.heap.size, 0, none⟩) (by first | (simp; done) | (simp; omega) | omega)).trans (by first | with_reducible assumption | (simp [go_sem]; done) | (simp [go_sem, *]; done))
      have g3_0_0 : w3.frozen? ⟨w1.heap.size, 0, none⟩ = false := (b3.frozen (p := ⟨w1.heap.size, 0, none⟩) (by first | (simp; done) | (simp; omega) | omega)).trans (by first | with_reducible assumption | (simp [go_sem]; done) | (simp [go_sem, *]; done))
      have k3_0_1 : w3.cell? ⟨w1.heap.size, 1, none⟩ = some (.int .i64 (y)) := (b3.cell (p := ⟨w1.heap.size, 1, none⟩) (by first | (simp; done) | (simp; omega) | omega)).trans (by first | with_reducible assumption | (simp [go_sem]; done) | (simp [go_sem, *]; done))
      have g3_0_1 : w3.frozen? ⟨w1.heap.size, 1, none⟩ = false := (b3.frozen (p := ⟨w1.heap.size, 1, none⟩) (by first | (simp; done) | (simp; omega) | omega)).trans (by first | with_reducible assumption | (simp [go_sem]; done) | (simp [go_sem, *]; done))
      have k3_0_2 : w3.cell? ⟨w1.heap.size, 2, none⟩ = some (.int .i64 (z)) := (b3.cell (p := ⟨w1.heap.size, 2, none⟩) (by first | (simp; done) | (simp; omega) | omega)).trans (by first | with_reducible assumption | (simp [go_sem]; done) | (simp [go_sem, *]; done))
      have g3_0_2 : w3.frozen? ⟨w1.heap.size, 2, none⟩ = false := (b3.frozen (p := ⟨w1.heap.size, 2, none⟩) (by first | (simp; done) | (simp; omega) | omega)).trans (by first | with_reducible assumption | (simp [go_sem]; done) | (simp [go_sem, *]; done))
      have k3_0_3 : w3.cell? ⟨w1.heap.size, 3, none⟩ = some (.int .i64 (u)) := (b3.cell (p := ⟨w1.heap.size, 3, none⟩) (by first | (simp; done) | (simp; omega) | omega)).trans (by first | with_reducible assumption | (simp [go_sem]; done) | (simp [go_sem, *]; done))
      have g3_0_3 : w3.frozen? ⟨w1.heap.size, 3, none⟩ = false := (b3.frozen (p := ⟨w1.heap.size, 3, none⟩) (by first | (simp; done) | (simp; omega) | omega)).trans (by first | with_reducible assumption | (simp [go_sem]; done) | (simp [go_sem, *]; done))
      have z3_1 : w1.heap.size + 1 < w3.heap.size := by omega
      have k3_1_0 : w3.cell? ⟨w1.heap.size + 1, 0, none⟩ = some (.int .i64 (p)) := (b3.cell (p := ⟨w1.heap.size + 1, 0, none⟩) (by first | (simp; done) | (simp; omega) | omega)).trans (by first | with_reducible assumption | (simp [go_sem]; done) | (simp [go_sem, *]; done))
      have g3_1_0 : w3.frozen? ⟨w1.heap.size + 1, 0, none⟩ = false := (b3.frozen (p := ⟨w1.heap.size + 1, 0, none⟩) (by first | (simp; done) | (simp; omega) | omega)).trans (by first | with_reducible assumption | (simp [go_sem]; done) | (simp [go_sem, *]; done))
      have k3_1_1 : w3.cell? ⟨w1.heap.size + 1, 1, none⟩ = some (.int .i64 (q)) := (b3.cell (p := ⟨w1.heap.size + 1, 1, none⟩) (by first | (simp; done) | (simp; omega) | omega)).trans (by first | with_reducible assumption | (simp [go_sem]; done) | (simp [go_sem, *]; done))
      have g3_1_1 : w3.frozen? ⟨w1.heap.size + 1, 1, none⟩ = false := (b3.frozen (p := ⟨w1.heap.size + 1, 1, none⟩) (by first | (simp; done) | (simp; omega) | omega)).trans (by first | with_reducible assumption | (simp [go_sem]; done) | (simp [go_sem, *]; done))
      have k3_1_2 : w3.cell? ⟨w1.heap.size + 1, 2, none⟩ = some (.int .i64 (r)) := (b3.cell (p := ⟨w1.heap.size + 1, 2, none⟩) (by first | (simp; done) | (simp; omega) | omega)).trans (by first | with_reducible assumption | (simp [go_sem]; done) | (simp [go_sem, *]; done))
      have g3_1_2 : w3.frozen? ⟨w1.heap.size + 1, 2, none⟩ = false := (b3.frozen (p := ⟨w1.heap.size + 1, 2, none⟩) (by first | (simp; done) | (simp; omega) | omega)).trans (by first | with_reducible assumption | (simp [go_sem]; done) | (simp [go_sem, *]; done))
      have k3_1_3 : w3.cell? ⟨w1.heap.size + 1, 3, none⟩ = some (.int .i64 (s)) := (b3.cell (p := ⟨w1.heap.size + 1, 3, none⟩) (by first | (simp; done) | (simp; omega) | omega)).trans (by first | with_reducible assumption | (simp [go_sem]; done) | (simp [go_sem, *]; done))
      have g3_1_3 : w3.frozen? ⟨w1.heap.size + 1, 3, none⟩ = false := (b3.frozen (p := ⟨w1.heap.size + 1, 3, none⟩) (by first | (simp; done) | (simp; omega) | omega)).trans (by first | with_reducible assumption | (simp [go_sem]; done) | (simp [go_sem, *]; done))
      have z3_2 : w2.heap.size < w3.heap.size := by omega
      have k3_2_0 : w3.cell? ⟨w2.heap.size, 0, none⟩ = some (.int .i64 (m0)) := (b3.cell (p := ⟨w2.heap.size, 0, none⟩) (by first | (simp; done) | (simp; omega) | omega)).trans (by first | with_reducible assumption | (simp [go_sem]; done) | (simp [go_sem, *]; done))
      have g3_2_0 : w3.frozen? ⟨w2.heap.size, 0, none⟩ = false := (b3.frozen (p := ⟨w2.heap.size, 0, none⟩) (by first | (simp; done) | (simp; omega) | omega)).trans (by first | with_reducible assumption | (simp [go_sem]; done) | (simp [go_sem, *]; done))
      have k3_2_1 : w3.cell? ⟨w2.heap.size, 1, none⟩ = some (.int .i64 (m1)) := (b3.cell (p := ⟨w2.heap.size, 1, none⟩) (by first | (simp; done) | (simp; omega) | omega)).trans (by first | with_reducible assumption | (simp [go_sem]; done) | (simp [go_sem, *]; done))
      have g3_2_1 : w3.frozen? ⟨w2.heap.size, 1, none⟩ = false := (b3.frozen (p := ⟨w2.heap.size, 1, none⟩) (by first | (simp; done) | (simp; omega) | omega)).trans (by first | with_reducible assumption | (simp [go_sem]; done) | (simp [go_sem, *]; done))
      have k3_2_2 : w3.cell? ⟨w2.heap.size, 2, none⟩ = some (.int .i64 (m2)) := (b3.cell (p := ⟨w2.heap.size, 2, none⟩) (by first | (simp; done) | (simp; omega) | omega)).trans (by first | with_reducible assumption | (simp [go_sem]; done) | (simp [go_sem, *]; done))
      have g3_2_2 : w3.frozen? ⟨w2.heap.size, 2, none⟩ = false := (b3.frozen (p := ⟨w2.heap.size, 2, none⟩) (by first | (simp; done) | (simp; omega) | omega)).trans (by first | with_reducible assumption | (simp [go_sem]; done) | (simp [go_sem, *]; done))
      have k3_2_3 : w3.cell? ⟨w2.heap.size, 3, none⟩ = some (.int .i64 (m3)) := (b3.cell (p := ⟨w2.heap.size, 3, none⟩) (by first | (simp; done) | (simp; omega) | omega)).trans (by first | with_reducible assumption | (simp [go_sem]; done) | (simp [go_sem, *]; done))
      have g3_2_3 : w3.frozen? ⟨w2.heap.size, 3, none⟩ = false := (b3.frozen (p := ⟨w2.heap.size, 3, none⟩) (by first | (simp; done) | (simp; omega) | omega)).trans (by first | with_reducible assumption | (simp [go_sem]; done) | (simp [go_sem, *]; done))
      clear k2_0_0 g2_0_0 k2_0_1 g2_0_1 k2_0_2 g2_0_2 k2_0_3 g2_0_3 k2_1_0 g2_1_0 k2_1_1 g2_1_1 k2_1_2 g2_1_2 k2_1_3 g2_1_3
      go_wp2
      go_ret
      exact ⟨rfl, (by (repeat (first | with_reducible exact Below.refl _ _ | with_reducible refine bl_alloc ?_ _ | with_reducible refine bl_drew ?_ | with_reducible refine bl_set ?_ (by first | (simp; done) | (simp; omega)) _ | with_reducible refine bl_call (by assumption) ?_)))⟩

    | true =>
      obtain ⟨ha, hb, hm, c0, c1, c2, c3⟩ := cmB_t hok
      have d1 : DetF x y z u = detV x y z u := by simp [DetF, ha]
      have d2 : DetF p q r s = detV p q r s := by simp [DetF, hb]
      have d3 := det_mul x y z u p q r s
      have b1_ := det_bd x y z u ha
      have b2_ := det_bd p q r s hb
      rw [← c0, ← c1, ← c2, ← c3] at hm d3
      clear c0 c1 c2 c3
      obtain ⟨m0, e0⟩ : ∃ v, CmA x y z u p q r s = v := ⟨_, rfl⟩
      obtain ⟨m1, e1⟩ : ∃ v, CmB x y z u p q r s = v := ⟨_, rfl⟩
      obtain ⟨m2, e2⟩ : ∃ v, CmC x y z u p q r s = v := ⟨_, rfl⟩
      obtain ⟨m3, e3⟩ : ∃ v, CmD x y z u p q r s = v := ⟨_, rfl⟩
      rw [e0, e1, e2, e3] at hm d3
      have d4 : DetF m0 m1 m2 m3 = detV m0 m1 m2 m3 := by simp [DetF, hm]
      rw [d3] at d4
      generalize detV x y z u = D at d1 d4 b1_
      generalize detV p q r s = E at d2 d4 b2_
      obtain ⟨_, _⟩ := b1_
      obtain ⟨_, _⟩ := b2_
      obtain ⟨_, _⟩ := mul_bd D E 2000000 2000000 (by omega) (by omega) (by omega) (by omega)
      have K1 : Hid (∀ W : World, Calls Try.prog 32 #[.agg #[.int .i64 x, .int .i64 y, .int .i64 z, .int .i64 u], .agg #[.int .i64 p, .int .i64 q, .int .i64 r, .int .i64 s]] W fun e w' => e = .returned (.tuple #[.agg #[.int .i64 m0, .int .i64 m1, .int .i64 m2, .int .i64 m3], .bool true]) ∧ Below W.heap.size W w') := Lib.hid fun W => by
        have h := impl_ComposeMatrices (x) (y) (z) (u) (p) (q) (r) (s) W
        rw [e0, e1, e2, e3, hok] at h
        exact h
      have K2 : Hid (∀ W : World, Calls Try.prog 33 #[.agg #[.int .i64 x, .int .i64 y, .int .i64 z, .int .i64 u], .agg #[.int .i64 p, .int .i64 q, .int .i64 r, .int .i64 s]] W fun e w' => e = .returned (.tuple #[.agg #[.int .i64 m0, .int .i64 m1, .int .i64 m2, .int .i64 m3], .bool true]) ∧ Below W.heap.size W w') := Lib.hid fun W => by
        have h := spec_ComposeMatrices (x) (y) (z) (u) (p) (q) (r) (s) W
        rw [e0, e1, e2, e3, hok] at h
        exact h
      have K3 : Hid (∀ W : World, Calls Try.prog 34 #[.agg #[.int .i64 m0, .int .i64 m1, .int .i64 m2, .int .i64 m3]] W fun e w' => e = .returned (.int .i64 (D * E)) ∧ Below W.heap.size W w') := Lib.hid fun W => by
        have h := impl_Determinant (m0) (m1) (m2) (m3) W
        rw [d4] at h
        exact h
      have K4 : Hid (∀ W : World, Calls Try.prog 34 #[.agg #[.int .i64 x, .int .i64 y, .int .i64 z, .int .i64 u]] W fun e w' => e = .returned (.int .i64 D) ∧ Below W.heap.size W w') := Lib.hid fun W => by
        have h := impl_Determinant (x) (y) (z) (u) W
        rw [d1] at h
        exact h
      have K5 : Hid (∀ W : World, Calls Try.prog 34 #[.agg #[.int .i64 p, .int .i64 q, .int .i64 r, .int .i64 s]] W fun e w' => e = .returned (.int .i64 E) ∧ Below W.heap.size W w') := Lib.hid fun W => by
        have h := impl_Determinant (p) (q) (r) (s) W
        rw [d2] at h
        exact h
      have K6 : Hid (∀ W : World, Calls Try.prog 34 #[.agg #[.int .i64 1, .int .i64 0, .int .i64 0, .int .i64 1]] W fun e w' => e = .returned (.int .i64 1) ∧ Below W.heap.size W w') := Lib.hid fun W => by
        have h := impl_Determinant (1) (0) (0) (1) W
        rw [det_unit] at h
        exact h
      clear e0 e1 e2 e3 hok hm d1 d2 d3 d4 ha hb
      go_wp2_with fail
      refine (K1.out _).mono ?_
      rintro e w2 ⟨rfl, b2⟩
      have s2 := b2.size
      try simp at s2
      have z2_0 : w1.heap.size < w2.heap.size := by omega
      have k2_0_0 : w2.cell? ⟨w1.heap.size, 0, none⟩ = some (.int .i64 (x)) := (b2.cell (p := ⟨w1.heap.size, 0, none⟩) (by first | (simp; done) | (simp; omega) | omega)).trans (by first | with_reducible assumption | (simp [go_sem]; done) | (simp [go_sem, *]; done))
      have g2_0_0 : w2.frozen? ⟨w1.heap.size, 0, none⟩ = false := (b2.frozen (p := ⟨w1.heap.size, 0, none⟩) (by first | (simp; done) | (simp; omega) | omega)).trans (by first | with_reducible assumption | (simp [go_sem]; done) | (simp [go_sem, *]; done))
      have k2_0_1 : w2.cell? ⟨w1.heap.size, 1, none⟩ = some (.int .i64 (y)) := (b2.cell (p := ⟨w1.heap.size, 1, none⟩) (by first | (simp; done) | (simp; omega) | omega)).trans (by first | with_reducible assumption | (simp [go_sem]; done) | (simp [go_sem, *]; done))
      have g2_0_1 : w2.frozen? ⟨w1.heap.size, 1, none⟩ = false := (b2.frozen (p := ⟨w1.heap.size, 1, none⟩) (by first | (simp; done) | (simp; omega) | omega)).trans (by first | with_reducible assumption | (simp [go_sem]; done) | (simp [go_sem, *]; done))
      have k2_0_2 : w2.cell? ⟨w1.heap.size, 2, none⟩ = some (.int .i64 (z)) := (b2.cell (p := ⟨w1.heap.size, 2, none⟩) (by first | (simp; done) | (simp; omega) | omega)).trans (by first | with_reducible assumption | (simp [go_sem]; done) | (simp [go_sem, *]; done))
      have g2_0_2 : w2.frozen? ⟨w1.heap.size, 2, none⟩ = false := (b2.frozen (p := ⟨w1.heap.size, 2, none⟩) (by first | (simp; done) | (simp; omega) | omega)).trans (by first | with_reducible assumption | (simp [go_sem]; done) | (simp [go_sem, *]; done))
      have k2_0_3 : w2.cell? ⟨w1.heap.size, 3, none⟩ = some (.int .i64 (u)) := (b2.cell (p := ⟨w1.heap.size, 3, none⟩) (by first | (simp; done) | (simp; omega) | omega)).trans (by first | with_reducible assumption | (simp [go_sem]; done) | (simp [go_sem, *]; done))
      have g2_0_3 : w2.frozen? ⟨w1.heap.size, 3, none⟩ = false := (b2.frozen (p := ⟨w1.heap.size, 3, none⟩) (by first | (simp; done) | (simp; omega) | omega)).trans (by first | with_reducible assumption | (simp [go_sem]; done) | (simp [go_sem, *]; done))
      have z2_1 : w1.heap.size + 1 < w2.heap.size := by omega
      have k2_1_0 : w2.cell? ⟨w1.heap.size + 1, 0, none⟩ = some (.int .i64 (p)) := (b2.cell (p := ⟨w1.heap.size + 1, 0, none⟩) (by first | (simp; done) | (simp; omega) | omega)).trans (by first | with_reducible assumption | (simp [go_sem]; done) | (simp [go_sem, *]; done))
      have g2_1_0 : w2.frozen? ⟨w1.heap.size + 1, 0, none⟩ = false := (b2.frozen (p := ⟨w1.heap.size + 1, 0, none⟩) (by first | (simp; done) | (simp; omega) | omega)).trans (by first | with_reducible assumption | (simp [go_sem]; done) | (simp [go_sem, *]; done))
      have k2_1_1 : w2.cell? ⟨w1.heap.size + 1, 1, none⟩ = some (.int .i64 (q)) := (b2.cell (p := ⟨w1.heap.size + 1, 1, none⟩) (by first | (simp; done) | (simp; omega) | omega)).trans (by first | with_reducible assumption | (simp [go_sem]; done) | (simp [go_sem, *]; done))
      have g2_1_1 : w2.frozen? ⟨w1.heap.size + 1, 1, none⟩ = false := (b2.frozen (p := ⟨w1.heap.size + 1, 1, none⟩) (by first | (simp; done) | (simp; omega) | omega)).trans (by first | with_reducible assumption | (simp [go_sem]; done) | (simp [go_sem, *]; done))
      have k2_1_2 : w2.cell? ⟨w1.heap.size + 1, 2, none⟩ = some (.int .i64 (r)) := (b2.cell (p := ⟨w1.heap.size + 1, 2, none⟩) (by first | (simp; done) | (simp; omega) | omega)).trans (by first | with_reducible assumption | (simp [go_sem]; done) | (simp [go_sem, *]; done))
      have g2_1_2 : w2.frozen? ⟨w1.heap.size + 1, 2, none⟩ = false := (b2.frozen (p := ⟨w1.heap.size + 1, 2, none⟩) (by first | (simp; done) | (simp; omega) | omega)).trans (by first | with_reducible assumption | (simp [go_sem]; done) | (simp [go_sem, *]; done))
      have k2_1_3 : w2.cell? ⟨w1.heap.size + 1, 3, none⟩ = some (.int .i64 (s)) := (b2.cell (p := ⟨w1.heap.size + 1, 3, none⟩) (by first | (simp; done) | (simp; omega) | omega)).trans (by first | with_reducible assumption | (simp [go_sem]; done) | (simp [go_sem, *]; done))
      have g2_1_3 : w2.frozen? ⟨w1.heap.size + 1, 3, none⟩ = false := (b2.frozen (p := ⟨w1.heap.size + 1, 3, none⟩) (by first | (simp; done) | (simp; omega) | omega)).trans (by first | with_reducible assumption | (simp [go_sem]; done) | (simp [go_sem, *]; done))
      go_wp2_with fail
      refine (K2.out _).mono ?_
      rintro e w3 ⟨rfl, b3⟩
      have s3 := b3.size
      try simp at s3
      have z3_0 : w1.heap.size < w3.heap.size := by omega
      have k3_0_0 : w3.cell? ⟨w1.heap.size, 0, none⟩ = some (.int .i64 (x)) := (b3.cell (p := ⟨w1.heap.size, 0, none⟩) (by first | (simp; done) | (simp; omega) | omega)).trans (by first | with_reducible assumption | (simp [go_sem]; done) | (simp [go_sem, *]; done))
      have g3_0_0 : w3.frozen? ⟨w1.heap.size, 0, none⟩ = false := (b3.frozen (p := ⟨w1.heap.size, 0, none⟩) (by first | (simp; done) | (simp; omega) | omega)).trans (by first | with_reducible assumption | (simp [go_sem]; done) | (simp [go_sem, *]; done))
      have k3_0_1 : w3.cell? ⟨w1.heap.size, 1, none⟩ = some (.int .i64 (y)) := (b3.cell (p := ⟨w1.heap.size, 1, none⟩) (by first | (simp; done) | (simp; omega) | omega)).trans (by first | with_reducible assumption | (simp [go_sem]; done) | (simp [go_sem, *]; done))
      have g3_0_1 : w3.frozen? ⟨w1.heap.size, 1, none⟩ = false := (b3.frozen (p := ⟨w1.heap.size, 1, none⟩) (by first | (simp; done) | (simp; omega) | omega)).trans (by first | with_reducible assumption | (simp [go_sem]; done) | (simp [go_sem, *]; done))
      have k3_0_2 : w3.cell? ⟨w1.heap.size, 2, none⟩ = some (.int .i64 (z)) := (b3.cell (p := ⟨w1.heap.size, 2, none⟩) (by first | (simp; done) | (simp; omega) | omega)).trans (by first | with_reducible assumption | (simp [go_sem]; done) | (simp [go_sem, *]; done))
      have g3_0_2 : w3.frozen? ⟨w1.heap.size, 2, none⟩ = false := (b3.frozen (p := ⟨w1.heap.size, 2, none⟩) (by first | (simp; done) | (simp; omega) | omega)).trans (by first | with_reducible assumption | (simp [go_sem]; done) | (simp [go_sem, *]; done))
      have k3_0_3 : w3.cell? ⟨w1.heap.size, 3, none⟩ = some (.int .i64 (u)) := (b3.cell (p := ⟨w1.heap.size, 3, none⟩) (by first | (simp; done) | (simp; omega) | omega)).trans (by first | with_reducible assumption | (simp [go_sem]; done) | (simp [go_sem, *]; done))
      have g3_0_3 : w3.frozen? ⟨w1.heap.size, 3, none⟩ = false := (b3.frozen (p := ⟨w1.heap.size, 3, none⟩) (by first | (simp; done) | (simp; omega) | omega)).trans (by first | with_reducible assumption | (simp [go_sem]; done) | (simp [go_sem, *]; done))
      have z3_1 : w1.heap.size + 1 < w3.heap.size := by omega
      have k3_1_0 : w3.cell? ⟨w1.heap.size + 1, 0, none⟩ = some (.int .i64 (p)) := (b3.cell (p := ⟨w1.heap.size + 1, 0, none⟩) (by first | (simp; done) | (simp; omega) | omega)).trans (by first | with_reducible assumption | (simp [go_sem]; done) | (simp [go_sem, *]; done))
      have g3_1_0 : w3.frozen? ⟨w1.heap.size + 1, 0, none⟩ = false := (b3.frozen (p := ⟨w1.heap.size + 1, 0, none⟩) (by first | (simp; done) | (simp; omega) | omega)).trans (by first | with_reducible assumption | (simp [go_sem]; done) | (simp [go_sem, *]; done))
      have k3_1_1 : w3.cell? ⟨w1.heap.size + 1, 1, none⟩ = some (.int .i64 (q)) := (b3.cell (p := ⟨w1.heap.size + 1, 1, none⟩) (by first | (simp; done) | (simp; omega) | omega)).trans (by first | with_reducible assumption | (simp [go_sem]; done) | (simp [go_sem, *]; done))
      have g3_1_1 : w3.frozen? ⟨w1.heap.size + 1, 1, none⟩ = false := (b3.frozen (p := ⟨w1.heap.size + 1, 1, none⟩) (by first | (simp; done) | (simp; omega) | omega)).trans (by first | with_reducible assumption | (simp [go_sem]; done) | (simp [go_sem, *]; done))
      have k3_1_2 : w3.cell? ⟨w1.heap.size + 1, 2, none⟩ = some (.int .i64 (r)) := (b3.cell (p := ⟨w1.heap.size + 1, 2, none⟩) (by first | (simp; done) | (simp; omega) | omega)).trans (by first | with_reducible assumption | (simp [go_sem]; done) | (simp [go_sem, *]; done))
      have g3_1_2 : w3.frozen? ⟨w1.heap.size + 1, 2, none⟩ = false := (b3.frozen (p := ⟨w1.heap.size + 1, 2, none⟩) (by first | (simp; done) | (simp; omega) | omega)).trans (by first | with_reducible assumption | (simp [go_sem]; done) | (simp [go_sem, *]; done))
      have k3_1_3 : w3.cell? ⟨w1.heap.size + 1, 3, none⟩ = some (.int .i64 (s)) := (b3.cell (p := ⟨w1.heap.size + 1, 3, none⟩) (by first | (simp; done) | (simp; omega) | omega)).trans (by first | with_reducible assumption | (simp [go_sem]; done) | (simp [go_sem, *]; done))
      have g3_1_3 : w3.frozen? ⟨w1.heap.size + 1, 3, none⟩ = false := (b3.frozen (p := ⟨w1.heap.size + 1, 3, none⟩) (by first | (simp; done) | (simp; omega) | omega)).trans (by first | with_reducible assumption | (simp [go_sem]; done) | (simp [go_sem, *]; done))
      have z3_2 : w2.heap.size < w3.heap.size := by omega
      have k3_2_0 : w3.cell? ⟨w2.heap.size, 0, none⟩ = some (.int .i64 (m0)) := (b3.cell (p := ⟨w2.heap.size, 0, none⟩) (by first | (simp; done) | (simp; omega) | omega)).trans (by first | with_reducible assumption | (simp [go_sem]; done) | (simp [go_sem, *]; done))
      have g3_2_0 : w3.frozen? ⟨w2.heap.size, 0, none⟩ = false := (b3.frozen (p := ⟨w2.heap.size, 0, none⟩) (by first | (simp; done) | (simp; omega) | omega)).trans (by first | with_reducible assumption | (simp [go_sem]; done) | (simp [go_sem, *]; done))
      have k3_2_1 : w3.cell? ⟨w2.heap.size, 1, none⟩ = some (.int .i64 (m1)) := (b3.cell (p := ⟨w2.heap.size, 1, none⟩) (by first | (simp; done) | (simp; omega) | omega)).trans (by first | with_reducible assumption | (simp [go_sem]; done) | (simp [go_sem, *]; done))
      have g3_2_1 : w3.frozen? ⟨w2.heap.size, 1, none⟩ = false := (b3.frozen (p := ⟨w2.heap.size, 1, none⟩) (by first | (simp; done) | (simp; omega) | omega)).trans (by first | with_reducible assumption | (simp [go_sem]; done) | (simp [go_sem, *]; done))
      have k3_2_2 : w3.cell? ⟨w2.heap.size, 2, none⟩ = some (.int .i64 (m2)) := (b3.cell (p := ⟨w2.heap.size, 2, none⟩) (by first | (simp; done) | (simp; omega) | omega)).trans (by first | with_reducible assumption | (simp [go_sem]; done) | (simp [go_sem, *]; done))
      have g3_2_2 : w3.frozen? ⟨w2.heap.size, 2, none⟩ = false := (b3.frozen (p := ⟨w2.heap.size, 2, none⟩) (by first | (simp; done) | (simp; omega) | omega)).trans (by first | with_reducible assumption | (simp [go_sem]; done) | (simp [go_sem, *]; done))
      have k3_2_3 : w3.cell? ⟨w2.heap.size, 3, none⟩ = some (.int .i64 (m3)) := (b3.cell (p := ⟨w2.heap.size, 3, none⟩) (by first | (simp; done) | (simp; omega) | omega)).trans (by first | with_reducible assumption | (simp [go_sem]; done) | (simp [go_sem, *]; done))
      have g3_2_3 : w3.frozen? ⟨w2.heap.size, 3, none⟩ = false := (b3.frozen (p := ⟨w2.heap.size, 3, none⟩) (by first | (simp; done) | (simp; omega) | omega)).trans (by first | with_reducible assumption | (simp [go_sem]; done) | (simp [go_sem, *]; done))
      clear k2_0_0 g2_0_0 k2_0_1 g2_0_1 k2_0_2 g2_0_2 k2_0_3 g2_0_3 k2_1_0 g2_1_0 k2_1_1 g2_1_1 k2_1_2 g2_1_2 k2_1_3 g2_1_3
      go_wp2
      have wU : IntKind.i64.wrap (D * E) = D * E := IntWalk.i64_in _ (by omega)
      go_wp2
      have kc0 := cell_regrown (w := (w3.alloc (Obj.cells #[.int .i64 (m0), .int .i64 (m1), .int .i64 (m2), .int .i64 (m3)] 38))) (a := ⟨w1.heap.size, 0, none⟩) (v := .int .i64 (x)) (by first | ((repeat (first | with_reducible assumption | with_reducible refine calloc ?_ _)); done) | (simp [go_sem]; done) | (simp [go_sem, *]; done))
      have kc1 := cell_regrown (w := (w3.alloc (Obj.cells #[.int .i64 (m0), .int .i64 (m1), .int .i64 (m2), .int .i64 (m3)] 38))) (a := ⟨w1.heap.size, 1, none⟩) (v := .int .i64 (y)) (by first | ((repeat (first | with_reducible assumption | with_reducible refine calloc ?_ _)); done) | (simp [go_sem]; done) | (simp [go_sem, *]; done))
      have kc2 := cell_regrown (w := (w3.alloc (Obj.cells #[.int .i64 (m0), .int .i64 (m1), .int .i64 (m2), .int .i64 (m3)] 38))) (a := ⟨w1.heap.size, 2, none⟩) (v := .int .i64 (z)) (by first | ((repeat (first | with_reducible assumption | with_reducible refine calloc ?_ _)); done) | (simp [go_sem]; done) | (simp [go_sem, *]; done))
      have kc3 := cell_regrown (w := (w3.alloc (Obj.cells #[.int .i64 (m0), .int .i64 (m1), .int .i64 (m2), .int .i64 (m3)] 38))) (a := ⟨w1.heap.size, 3, none⟩) (v := .int .i64 (u)) (by first | ((repeat (first | with_reducible assumption | with_reducible refine calloc ?_ _)); done) | (simp [go_sem]; done) | (simp [go_sem, *]; done))
      have kc4 := cell_regrown (w := (w3.alloc (Obj.cells #[.int .i64 (m0), .int .i64 (m1), .int .i64 (m2), .int .i64 (m3)] 38))) (a := ⟨w1.heap.size + 1, 0, none⟩) (v := .int .i64 (p)) (by first | ((repeat (first | with_reducible assumption | with_reducible refine calloc ?_ _)); done) | (simp [go_sem]; done) | (simp [go_sem, *]; done))
      have kc5 := cell_regrown (w := (w3.alloc (Obj.cells #[.int .i64 (m0), .int .i64 (m1), .int .i64 (m2), .int .i64 (m3)] 38))) (a := ⟨w1.heap.size + 1, 1, none⟩) (v := .int .i64 (q)) (by first | ((repeat (first | with_reducible assumption | with_reducible refine calloc ?_ _)); done) | (simp [go_sem]; done) | (simp [go_sem, *]; done))
      have kc6 := cell_regrown (w := (w3.alloc (Obj.cells #[.int .i64 (m0), .int .i64 (m1), .int .i64 (m2), .int .i64 (m3)] 38))) (a := ⟨w1.heap.size + 1, 2, none⟩) (v := .int .i64 (r)) (by first | ((repeat (first | with_reducible assumption | with_reducible refine calloc ?_ _)); done) | (simp [go_sem]; done) | (simp [go_sem, *]; done))
      have kc7 := cell_regrown (w := (w3.alloc (Obj.cells #[.int .i64 (m0), .int .i64 (m1), .int .i64 (m2), .int .i64 (m3)] 38))) (a := ⟨w1.heap.size + 1, 3, none⟩) (v := .int .i64 (s)) (by first | ((repeat (first | with_reducible assumption | with_reducible refine calloc ?_ _)); done) | (simp [go_sem]; done) | (simp [go_sem, *]; done))
      have kc8 := cell_regrown (w := (w3.alloc (Obj.cells #[.int .i64 (m0), .int .i64 (m1), .int .i64 (m2), .int .i64 (m3)] 38))) (a := ⟨w2.heap.size, 0, none⟩) (v := .int .i64 (m0)) (by first | ((repeat (first | with_reducible assumption | with_reducible refine calloc ?_ _)); done) | (simp [go_sem]; done) | (simp [go_sem, *]; done))
      have kc9 := cell_regrown (w := (w3.alloc (Obj.cells #[.int .i64 (m0), .int .i64 (m1), .int .i64 (m2), .int .i64 (m3)] 38))) (a := ⟨w2.heap.size, 1, none⟩) (v := .int .i64 (m1)) (by first | ((repeat (first | with_reducible assumption | with_reducible refine calloc ?_ _)); done) | (simp [go_sem]; done) | (simp [go_sem, *]; done))
      have kc10 := cell_regrown (w := (w3.alloc (Obj.cells #[.int .i64 (m0), .int .i64 (m1), .int .i64 (m2), .int .i64 (m3)] 38))) (a := ⟨w2.heap.size, 2, none⟩) (v := .int .i64 (m2)) (by first | ((repeat (first | with_reducible assumption | with_reducible refine calloc ?_ _)); done) | (simp [go_sem]; done) | (simp [go_sem, *]; done))
      have kc11 := cell_regrown (w := (w3.alloc (Obj.cells #[.int .i64 (m0), .int .i64 (m1), .int .i64 (m2), .int .i64 (m3)] 38))) (a := ⟨w2.heap.size, 3, none⟩) (v := .int .i64 (m3)) (by first | ((repeat (first | with_reducible assumption | with_reducible refine calloc ?_ _)); done) | (simp [go_sem]; done) | (simp [go_sem, *]; done))
      have kc12 := cell_regrown (w := (w3.alloc (Obj.cells #[.int .i64 (m0), .int .i64 (m1), .int .i64 (m2), .int .i64 (m3)] 38))) (a := ⟨w3.heap.size, 0, none⟩) (v := .int .i64 (m0)) (by first | ((repeat (first | with_reducible assumption | with_reducible refine calloc ?_ _)); done) | (simp [go_sem]; done) | (simp [go_sem, *]; done))
      have kc13 := cell_regrown (w := (w3.alloc (Obj.cells #[.int .i64 (m0), .int .i64 (m1), .int .i64 (m2), .int .i64 (m3)] 38))) (a := ⟨w3.heap.size, 1, none⟩) (v := .int .i64 (m1)) (by first | ((repeat (first | with_reducible assumption | with_reducible refine calloc ?_ _)); done) | (simp [go_sem]; done) | (simp [go_sem, *]; done))
      have kc14 := cell_regrown (w := (w3.alloc (Obj.cells #[.int .i64 (m0), .int .i64 (m1), .int .i64 (m2), .int .i64 (m3)] 38))) (a := ⟨w3.heap.size, 2, none⟩) (v := .int .i64 (m2)) (by first | ((repeat (first | with_reducible assumption | with_reducible refine calloc ?_ _)); done) | (simp [go_sem]; done) | (simp [go_sem, *]; done))
      have kc15 := cell_regrown (w := (w3.alloc (Obj.cells #[.int .i64 (m0), .int .i64 (m1), .int .i64 (m2), .int .i64 (m3)] 38))) (a := ⟨w3.heap.size, 3, none⟩) (v := .int .i64 (m3)) (by first | ((repeat (first | with_reducible assumption | with_reducible refine calloc ?_ _)); done) | (simp [go_sem]; done) | (simp [go_sem, *]; done))
      refine wp_region_quiet_below (by kernel_rfl) (by kernel_rfl) ?_
      repeat (go_big_quiet_step ((first | (go_at_call 34; with_reducible exact Calls.regrown_of (K3.out _)) | (go_at_call 34; with_reducible exact Calls.regrown_of (K4.out _)) | (go_at_call 34; with_reducible exact Calls.regrown_of (K5.out _)) | (go_at_call 34; with_reducible exact Calls.regrown_of (K6.out _)))))
      refine wpQuiet_nil ?_
      intro w4 hw'
      have b4 : Below (w3.alloc (Obj.cells #[.int .i64 (m0), .int .i64 (m1), .int .i64 (m2), .int .i64 (m3)] 38)).heap.size (w3.alloc (Obj.cells #[.int .i64 (m0), .int .i64 (m1), .int .i64 (m2), .int .i64 (m3)] 38)) w4 := by
        obtain ⟨pp, rfl⟩ := hw'
        exact below_regrown _ _ _
      clear hw' kc0 kc1 kc2 kc3 kc4 kc5 kc6 kc7 kc8 kc9 kc10 kc11 kc12 kc13 kc14 kc15
      have s4 := b4.size
      try simp at s4
      have z4_0 : w1.heap.size < w4.heap.size := by omega
      have k4_0_0 : w4.cell? ⟨w1.heap.size, 0, none⟩ = some (.int .i64 (x)) := (b4.cell (p := ⟨w1.heap.size, 0, none⟩) (by first | (simp; done) | (simp; omega) | omega)).trans (by first | with_reducible assumption | (simp [go_sem]; done) | (simp [go_sem, *]; done))
      have g4_0_0 : w4.frozen? ⟨w1.heap.size, 0, none⟩ = false := (b4.frozen (p := ⟨w1.heap.size, 0, none⟩) (by first | (simp; done) | (simp; omega) | omega)).trans (by first | with_reducible assumption | (simp [go_sem]; done) | (simp [go_sem, *]; done))
      have k4_0_1 : w4.cell? ⟨w1.heap.size, 1, none⟩ = some (.int .i64 (y)) := (b4.cell (p := ⟨w1.heap.size, 1, none⟩) (by first | (simp; done) | (simp; omega) | omega)).trans (by first | with_reducible assumption | (simp [go_sem]; done) | (simp [go_sem, *]; done))
      have g4_0_1 : w4.frozen? ⟨w1.heap.size, 1, none⟩ = false := (b4.frozen (p := ⟨w1.heap.size, 1, none⟩) (by first | (simp; done) | (simp; omega) | omega)).trans (by first | with_reducible assumption | (simp [go_sem]; done) | (simp [go_sem, *]; done))
      have k4_0_2 : w4.cell? ⟨w1.heap.size, 2, none⟩ = some (.int .i64 (z)) := (b4.cell (p := ⟨w1.heap.size, 2, none⟩) (by first | (simp; done) | (simp; omega) | omega)).trans (by first | with_reducible assumption | (simp [go_sem]; done) | (simp [go_sem, *]; done))
      have g4_0_2 : w4.frozen? ⟨w1.heap.size, 2, none⟩ = false := (b4.frozen (p := ⟨w1.heap.size, 2, none⟩) (by first | (simp; done) | (simp; omega) | omega)).trans (by first | with_reducible assumption | (simp [go_sem]; done) | (simp [go_sem, *]; done))
      have k4_0_3 : w4.cell? ⟨w1.heap.size, 3, none⟩ = some (.int .i64 (u)) := (b4.cell (p := ⟨w1.heap.size, 3, none⟩) (by first | (simp; done) | (simp; omega) | omega)).trans (by first | with_reducible assumption | (simp [go_sem]; done) | (simp [go_sem, *]; done))
      have g4_0_3 : w4.frozen? ⟨w1.heap.size, 3, none⟩ = false := (b4.frozen (p := ⟨w1.heap.size, 3, none⟩) (by first | (simp; done) | (simp; omega) | omega)).trans (by first | with_reducible assumption | (simp [go_sem]; done) | (simp [go_sem, *]; done))
      have z4_1 : w1.heap.size + 1 < w4.heap.size := by omega
      have k4_1_0 : w4.cell? ⟨w1.heap.size + 1, 0, none⟩ = some (.int .i64 (p)) := (b4.cell (p := ⟨w1.heap.size + 1, 0, none⟩) (by first | (simp; done) | (simp; omega) | omega)).trans (by first | with_reducible assumption | (simp [go_sem]; done) | (simp [go_sem, *]; done))
      have g4_1_0 : w4.frozen? ⟨w1.heap.size + 1, 0, none⟩ = false := (b4.frozen (p := ⟨w1.heap.size + 1, 0, none⟩) (by first | (simp; done) | (simp; omega) | omega)).trans (by first | with_reducible assumption | (simp [go_sem]; done) | (simp [go_sem, *]; done))
      have k4_1_1 : w4.cell? ⟨w1.heap.size + 1, 1, none⟩ = some (.int .i64 (q)) := (b4.cell (p := ⟨w1.heap.size + 1, 1, none⟩) (by first | (simp; done) | (simp; omega) | omega)).trans (by first | with_reducible assumption | (simp [go_sem]; done) | (simp [go_sem, *]; done))
      have g4_1_1 : w4.frozen? ⟨w1.heap.size + 1, 1, none⟩ = false := (b4.frozen (p := ⟨w1.heap.size + 1, 1, none⟩) (by first | (simp; done) | (simp; omega) | omega)).trans (by first | with_reducible assumption | (simp [go_sem]; done) | (simp [go_sem, *]; done))
      have k4_1_2 : w4.cell? ⟨w1.heap.size + 1, 2, none⟩ = some (.int .i64 (r)) := (b4.cell (p := ⟨w1.heap.size + 1, 2, none⟩) (by first | (simp; done) | (simp; omega) | omega)).trans (by first | with_reducible assumption | (simp [go_sem]; done) | (simp [go_sem, *]; done))
      have g4_1_2 : w4.frozen? ⟨w1.heap.size + 1, 2, none⟩ = false := (b4.frozen (p := ⟨w1.heap.size + 1, 2, none⟩) (by first | (simp; done) | (simp; omega) | omega)).trans (by first | with_reducible assumption | (simp [go_sem]; done) | (simp [go_sem, *]; done))
      have k4_1_3 : w4.cell? ⟨w1.heap.size + 1, 3, none⟩ = some (.int .i64 (s)) := (b4.cell (p := ⟨w1.heap.size + 1, 3, none⟩) (by first | (simp; done) | (simp; omega) | omega)).trans (by first | with_reducible assumption | (simp [go_sem]; done) | (simp [go_sem, *]; done))
      have g4_1_3 : w4.frozen? ⟨w1.heap.size + 1, 3, none⟩ = false := (b4.frozen (p := ⟨w1.heap.size + 1, 3, none⟩) (by first | (simp; done) | (simp; omega) | omega)).trans (by first | with_reducible assumption | (simp [go_sem]; done) | (simp [go_sem, *]; done))
      have z4_2 : w2.heap.size < w4.heap.size := by omega
      have k4_2_0 : w4.cell? ⟨w2.heap.size, 0, none⟩ = some (.int .i64 (m0)) := (b4.cell (p := ⟨w2.heap.size, 0, none⟩) (by first | (simp; done) | (simp; omega) | omega)).trans (by first | with_reducible assumption | (simp [go_sem]; done) | (simp [go_sem, *]; done))
      have g4_2_0 : w4.frozen? ⟨w2.heap.size, 0, none⟩ = false := (b4.frozen (p := ⟨w2.heap.size, 0, none⟩) (by first | (simp; done) | (simp; omega) | omega)).trans (by first | with_reducible assumption | (simp [go_sem]; done) | (simp [go_sem, *]; done))
      have k4_2_1 : w4.cell? ⟨w2.heap.size, 1, none⟩ = some (.int .i64 (m1)) := (b4.cell (p := ⟨w2.heap.size, 1, none⟩) (by first | (simp; done) | (simp; omega) | omega)).trans (by first | with_reducible assumption | (simp [go_sem]; done) | (simp [go_sem, *]; done))
      have g4_2_1 : w4.frozen? ⟨w2.heap.size, 1, none⟩ = false := (b4.frozen (p := ⟨w2.heap.size, 1, none⟩) (by first | (simp; done) | (simp; omega) | omega)).trans (by first | with_reducible assumption | (simp [go_sem]; done) | (simp [go_sem, *]; done))
      have k4_2_2 : w4.cell? ⟨w2.heap.size, 2, none⟩ = some (.int .i64 (m2)) := (b4.cell (p := ⟨w2.heap.size, 2, none⟩) (by first | (simp; done) | (simp; omega) | omega)).trans (by first | with_reducible assumption | (simp [go_sem]; done) | (simp [go_sem, *]; done))
      have g4_2_2 : w4.frozen? ⟨w2.heap.size, 2, none⟩ = false := (b4.frozen (p := ⟨w2.heap.size, 2, none⟩) (by first | (simp; done) | (simp; omega) | omega)).trans (by first | with_reducible assumption | (simp [go_sem]; done) | (simp [go_sem, *]; done))
      have k4_2_3 : w4.cell? ⟨w2.heap.size, 3, none⟩ = some (.int .i64 (m3)) := (b4.cell (p := ⟨w2.heap.size, 3, none⟩) (by first | (simp; done) | (simp; omega) | omega)).trans (by first | with_reducible assumption | (simp [go_sem]; done) | (simp [go_sem, *]; done))
      have g4_2_3 : w4.frozen? ⟨w2.heap.size, 3, none⟩ = false := (b4.frozen (p := ⟨w2.heap.size, 3, none⟩) (by first | (simp; done) | (simp; omega) | omega)).trans (by first | with_reducible assumption | (simp [go_sem]; done) | (simp [go_sem, *]; done))
      have z4_3 : w3.heap.size < w4.heap.size := by omega
      have k4_3_0 : w4.cell? ⟨w3.heap.size, 0, none⟩ = some (.int .i64 (m0)) := (b4.cell (p := ⟨w3.heap.size, 0, none⟩) (by first | (simp; done) | (simp; omega) | omega)).trans (by first | with_reducible assumption | (simp [go_sem]; done) | (simp [go_sem, *]; done))
      have g4_3_0 : w4.frozen? ⟨w3.heap.size, 0, none⟩ = false := (b4.frozen (p := ⟨w3.heap.size, 0, none⟩) (by first | (simp; done) | (simp; omega) | omega)).trans (by first | with_reducible assumption | (simp [go_sem]; done) | (simp [go_sem, *]; done))
      have k4_3_1 : w4.cell? ⟨w3.heap.size, 1, none⟩ = some (.int .i64 (m1)) := (b4.cell (p := ⟨w3.heap.size, 1, none⟩) (by first | (simp; done) | (simp; omega) | omega)).trans (by first | with_reducible assumption | (simp [go_sem]; done) | (simp [go_sem, *]; done))
      have g4_3_1 : w4.frozen? ⟨w3.heap.size, 1, none⟩ = false := (b4.frozen (p := ⟨w3.heap.size, 1, none⟩) (by first | (simp; done) | (simp; omega) | omega)).trans (by first | with_reducible assumption | (simp [go_sem]; done) | (simp [go_sem, *]; done))
      have k4_3_2 : w4.cell? ⟨w3.heap.size, 2, none⟩ = some (.int .i64 (m2)) := (b4.cell (p := ⟨w3.heap.size, 2, none⟩) (by first | (simp; done) | (simp; omega) | omega)).trans (by first | with_reducible assumption | (simp [go_sem]; done) | (simp [go_sem, *]; done))
      have g4_3_2 : w4.frozen? ⟨w3.heap.size, 2, none⟩ = false := (b4.frozen (p := ⟨w3.heap.size, 2, none⟩) (by first | (simp; done) | (simp; omega) | omega)).trans (by first | with_reducible assumption | (simp [go_sem]; done) | (simp [go_sem, *]; done))
      have k4_3_3 : w4.cell? ⟨w3.heap.size, 3, none⟩ = some (.int .i64 (m3)) := (b4.cell (p := ⟨w3.heap.size, 3, none⟩) (by first | (simp; done) | (simp; omega) | omega)).trans (by first | with_reducible assumption | (simp [go_sem]; done) | (simp [go_sem, *]; done))
      have g4_3_3 : w4.frozen? ⟨w3.heap.size, 3, none⟩ = false := (b4.frozen (p := ⟨w3.heap.size, 3, none⟩) (by first | (simp; done) | (simp; omega) | omega)).trans (by first | with_reducible assumption | (simp [go_sem]; done) | (simp [go_sem, *]; done))
      clear k3_0_0 g3_0_0 k3_0_1 g3_0_1 k3_0_2 g3_0_2 k3_0_3 g3_0_3 k3_1_0 g3_1_0 k3_1_1 g3_1_1 k3_1_2 g3_1_2 k3_1_3 g3_1_3 k3_2_0 g3_2_0 k3_2_1 g3_2_1 k3_2_2 g3_2_2 k3_2_3 g3_2_3
      clear wU
      go_wp2
      go_ret
      exact ⟨rfl, (by (repeat (first | with_reducible exact Below.refl _ _ | with_reducible refine bl_alloc ?_ _ | with_reducible refine bl_drew ?_ | with_reducible refine bl_set ?_ (by first | (simp; done) | (simp; omega)) _ | with_reducible refine bl_call (by assumption) ?_)))⟩

  · have hnz : (1048576 : Int) < (n : Int) := by omega
    go_enter Try.func10, Try.ntmps10
    go_wp2
    go_ret
    exact ⟨rfl, Below.refl _ _⟩

set_option maxRecDepth 100000 in
theorem lifted (os : Os) (started : os.Started) (H : Type) (enc : TypeId × Value → H) :
    ReturnsInHanded {} Try.checked os 10 .any (Rows.fnDeterminantSpec.pre6 enc Try.prog Try.f10 Rows.fnDeterminantRow.domain false) (Rows.fnDeterminantSpec.post enc Try.prog Try.f10 false true false false) := by
  refine returnsInHanded_of_change (C := Try.checked) own started (by kernel_rfl) Try.func10
    (ChangeSpec.witness6 (enc := enc) (C := Try.checked) false ⟨#[], #[.slice none 0 0], []⟩ 8 (by kernel_rfl) (by kernel_rfl) (by kernel_rfl) (by kernel_rfl)) ?_
  intro W base args ds gs before hval0 hW hcnd _
  have hval : ∀ (j : Nat) t v, Try.f10.params[j]? = some t → args[j]? = some v → Value.okWide Try.prog W .any base t v := hval0
  have hW' := hW
  obtain ⟨p, q, hA0, hV, rfl, hfz, hnd⟩ := hW
  have hA : DataW.TrodAll enc Try.prog W 0 (fun _ => true) true Try.f10.params.toList args.toList ds p := hA0
  rw [Try.params10] at hA hval
  obtain ⟨v0, vs0, d0, ds0, p0, q0, hargs, rfl, rfl, h0, r0⟩ := trodAll_cons hA
  obtain ⟨rfl, rfl, rfl⟩ := trodAll_nil r0
  obtain rfl : args = #[v0] := by cases args; simp_all
  obtain ⟨rfl, rfl⟩ := trodVars_none hV
  have k0 := h0
  have lt0 : ∀ x ∈ p0, x.block < W.heap.size := by obtain ⟨m, hm⟩ := k0; exact DataW.trod_lt m _ _ _ hm
  obtain ⟨a0, n0, c0, rfl⟩ := okWide_slice Try.underlying22 (hval 0 22 v0 rfl rfl)
  obtain ⟨hs0, hl0, hm0⟩ := open_bytes Try.underlying22 Try.underlying5 (by kernel_rfl) h0
  clear hA0 hval0
  refine (walk a0 n0 c0 W hs0 hl0 hm0).mono fun e W' ⟨he, bel⟩ => ?_
  subst he
  exact ⟨_, rfl, _, _, _, [], _, [], hW', trodAll_mk1 (shut_bool Try.underlying4 _), (trodAll_cons_mk (Below.trod laidOut (by kernel_rfl) (of_decide_eq_true (by kernel_rfl)) k0 bel lt0) trodAll_mk0), rfl, bel.frame _, fun h => by cases h⟩

theorem proved : Rows.FnDeterminantSaid :=
  OpenClaim.holds_of_wide 10 Try.f10 rfl rfl rfl rfl rfl rfl rfl ⟨rfl, rfl, rfl, rfl, rfl⟩ rfl rfl rfl rfl rfl (by kernel_rfl) Try.func10 (by kernel_rfl)
    (of_decide_eq_true (by kernel_rfl)) (by unfold Func.isWrapper; first | (rw [if_pos (by decide +kernel)]; kernel_rfl) | (rw [if_neg (by decide +kernel)]; exact ⟨rfl, rfl⟩))
    (fun os started H enc _ => lifted os started H enc)

end FnDeterminant

end Go.Proofs.Ytkhocfoggjdccaa
