/- FnComposeMatrices returns true for every argument, and leaves its arguments as they were. No conditions. -/
import Derived.Test.YtbfeaiaoelkggaaFrame
import Derived.Test.YtbfeaiaoelkggaaFrameB
import Derived.Test.YtbfeaiaoelkggaaRdr9
import Derived.Test.YtbfeaiaoelkggaaB6
import Derived.Test.YtbfeaiaoelkggaaB7
import Derived.Test.YtbfeaiaoelkggaaPlainQ6
import Derived.Test.YtbfeaiaoelkggaaPlainQ8
import Derived.Test.YtbfeaiaoelkggaaMp
import Derived.Test.YtbfeaiaoelkggaaEqp
import Derived.Test.YtbfeaiaoelkggaaOneR
namespace Go.Proofs.Ytbfeaiaoelkggaa
open Go.RowKit
set_option linter.unusedVariables false

open Go.ChangeShapes Go.WideShapes Go.ChangeAt
namespace FnComposeMatrices

open Go.Sort
set_option maxRecDepth 100000 in
set_option maxHeartbeats 16000000 in
theorem walk (a : Option Addr) (n c : Nat) (a2 : Option Addr) (n2 c2 : Nat) (w : World) (hs : BytesOf w.heap.size w a n) (hc : n ≤ c) (hc2 : c ≤ 9223372036854775807) (hs2 : BytesOf w.heap.size w a2 n2) (hd : n2 ≤ c2) (hd2 : c2 ≤ 9223372036854775807) :
    Calls Try.prog 3 #[.slice a n c, .slice a2 n2 c2] w fun e w' => e = .returned (.bool true) ∧ Below w.heap.size w w' := by
  by_cases hn : n ≤ 1048576
  · have hnz : ¬ (1048576 : Int) < (n : Int) := by omega
    by_cases hn2 : n2 ≤ 1048576
    · have hnz2 : ¬ (1048576 : Int) < (n2 : Int) := by omega
      have HS := Lib.hid hs
      clear hs
      go_enter Try.func3, Try.ntmps3
      go_wp2_with fail
      refine (rdr_DrawComposeMatrices w.heap.size a n c w (Nat.le_refl _) HS.out hc hc2).mono ?_
      rintro e w1 ⟨x, y, z, u, p, q, r, s, rfl, ⟨lx, ux⟩, ⟨ly, uy⟩, ⟨lz, uz⟩, ⟨lu, uu⟩, ⟨lp, up⟩, ⟨lq, uq⟩, ⟨lr, ur⟩, ⟨ls, us⟩, b1⟩
      have s1 := b1.size
      try simp at s1
      cases hok : cmB x y z u p q r s with
      | false =>
        obtain ⟨m0, e0⟩ : ∃ v, CmA x y z u p q r s = v := ⟨_, rfl⟩
        obtain ⟨m1, e1⟩ : ∃ v, CmB x y z u p q r s = v := ⟨_, rfl⟩
        obtain ⟨m2, e2⟩ : ∃ v, CmC x y z u p q r s = v := ⟨_, rfl⟩
        obtain ⟨m3, e3⟩ : ∃ v, CmD x y z u p q r s = v := ⟨_, rfl⟩
        have K1 : Hid (∀ W : World, Calls Try.prog 8 #[.agg #[.int .i64 x, .int .i64 y, .int .i64 z, .int .i64 u], .agg #[.int .i64 p, .int .i64 q, .int .i64 r, .int .i64 s]] W fun e w' => e = .returned (.tuple #[.agg #[.int .i64 m0, .int .i64 m1, .int .i64 m2, .int .i64 m3], .bool false]) ∧ Below W.heap.size W w') := Lib.hid fun W => by
          have h := impl_ComposeMatrices (x) (y) (z) (u) (p) (q) (r) (s) W
          rw [e0, e1, e2, e3, hok] at h
          exact h
        have K2 : Hid (∀ W : World, Calls Try.prog 9 #[.agg #[.int .i64 x, .int .i64 y, .int .i64 z, .int .i64 u], .agg #[.int .i64 p, .int .i64 q, .int .i64 r, .int .i64 s]] W fun e w' => e = .returned (.tuple #[.agg #[.int .i64 m0, .int .i64 m1, .int .i64 m2, .int .i64 m3], .bool false]) ∧ Below W.heap.size W w') := Lib.hid fun W => by
          have h := spec_ComposeMatrices (x) (y) (z) (u) (p) (q) (r) (s) W
          rw [e0, e1, e2, e3, hok] at h
          exact h
        clear e0 e1 e2 e3 hok
        go_wp2_with fail
        refine (K1.out _).mono ?_
        rintro e w2 ⟨rfl, b2⟩
        have s2 := b2.size
        try simp at s2
        have z2_0 : w1.heap.size < w2.heap.size := by omega
        have k2_0_0 : w2.cell? ⟨w1.heap.size, 0, none⟩ = some (.int .i64 (x)) := (b2.cell (p := ⟨w1.heap.size, 0, none⟩) (by first | (simp; done) | (simp; omega) | omega)).trans (by first | with_reducible assumption | (simp [go_sem]; done) | (simp [go_sem, *]; done))
        have g2_0_0 : w2.frozen? ⟨w1.heap.size, 0, none⟩ = false := (b2.frozen (p := ⟨w1.heap.size, 0, none⟩) (by first | (simp; done) | (simp; omega) | omega)).trans (by first | with_reducible assumption | (simp [go_sem]; done) | (simp [go_sem, *]; done))
        have k2_0_1 : w2.cell? ⟨w1.heap.size, 1, none⟩ = some (.int .i64 (y)) := (b2.cell (p := ⟨w1.heap.size, 1, none⟩) (by first | (simp; done) | (simp; omega) | omega)).trans (by first | with_reducible assumption | (simp [go_sem]; done) | (simp [go_sem, *]; done))
        have g2_0_1 : w2.frozen? ⟨w1.heap.size, 1, none⟩ = false := (b2.frozen (p := ⟨w1.heap.size, 1, none⟩) (by first | (simp; done) | (simp; omega) | omega)).trans (by first | with_reducible assumption | (simp [go_sem]; done) | (simp [go_sem, *]; done))
        have k2_0_2 : w2.cell? ⟨w1.heap.size, 2, none⟩ = some (.int .i64 (z)) := (b2.cell (p := ⟨w1.heap.size, 2, none⟩) (by first | (simp; done) | (simp; omega) | omega)).trans (by first | with_reducible assumption | (simp [go_sem]; done) | (simp [go_sem, *]; done))
        have g2_0_2 : w2.frozen? ⟨w1.heap.size, 2, none⟩ = false := (b2.frozen (p := ⟨w1.heap.size, 2, none⟩) (by first | (simp; done) | (simp; omega) | omega)).trans (by first | with_reducible assumption | (simp [go_sem]; done) | (simp [go_sem, *]; done))
        have k2_0_3 : w2.cell? ⟨w1.heap.size, 3, none⟩ = some (.int .i64 (u)) := (b2.cell (p := ⟨w1.heap.size, 3, none⟩) (by first | (simp; done) | (simp; omega) | omega)).trans (by first | with_reducible assumption | (simp [go_sem]; done) | (simp [go_sem, *]; done))
        have g2_0_3 : w2.frozen? ⟨w1.heap.size, 3, none⟩ = false := (b2.frozen (p := ⟨w1.heap.size, 3, none⟩) (by first | (simp; done) | (simp; omega) | omega)).trans (by first | with_reducible assumption | (simp [go_sem]; done) | (simp [go_sem, *]; done))
        have z2_1 : w1.heap.size + 1 < w2.heap.size := by omega
        have k2_1_0 : w2.cell? ⟨w1.heap.size + 1, 0, none⟩ = some (.int .i64 (p)) := (b2.cell (p := ⟨w1.heap.size + 1, 0, none⟩) (by first | (simp; done) | (simp; omega) | omega)).trans (by first | with_reducible assumption | (simp [go_sem]; done) | (simp [go_sem, *]; done))
        have g2_1_0 : w2.frozen? ⟨w1.heap.size + 1, 0, none⟩ = false := (b2.frozen (p := ⟨w1.heap.size + 1, 0, none⟩) (by first | (simp; done) | (simp; omega) | omega)).trans (by first | with_reducible assumption | (simp [go_sem]; done) | (simp [go_sem, *]; done))
        have k2_1_1 : w2.cell? ⟨w1.heap.size + 1, 1, none⟩ = some (.int .i64 (q)) := (b2.cell (p := ⟨w1.heap.size + 1, 1, none⟩) (by first | (simp; done) | (simp; omega) | omega)).trans (by first | with_reducible assumption | (simp [go_sem]; done) | (simp [go_sem, *]; done))
        have g2_1_1 : w2.frozen? ⟨w1.heap.size + 1, 1, none⟩ = false := (b2.frozen (p := ⟨w1.heap.size + 1, 1, none⟩) (by first | (simp; done) | (simp; omega) | omega)).trans (by first | with_reducible assumption | (simp [go_sem]; done) | (simp [go_sem, *]; done))
        have k2_1_2 : w2.cell? ⟨w1.heap.size + 1, 2, none⟩ = some (.int .i64 (r)) := (b2.cell (p := ⟨w1.heap.size + 1, 2, none⟩) (by first | (simp; done) | (simp; omega) | omega)).trans (by first | with_reducible assumption | (simp [go_sem]; done) | (simp [go_sem, *]; done))
        have g2_1_2 : w2.frozen? ⟨w1.heap.size + 1, 2, none⟩ = false := (b2.frozen (p := ⟨w1.heap.size + 1, 2, none⟩) (by first | (simp; done) | (simp; omega) | omega)).trans (by first | with_reducible assumption | (simp [go_sem]; done) | (simp [go_sem, *]; done))
        have k2_1_3 : w2.cell? ⟨w1.heap.size + 1, 3, none⟩ = some (.int .i64 (s)) := (b2.cell (p := ⟨w1.heap.size + 1, 3, none⟩) (by first | (simp; done) | (simp; omega) | omega)).trans (by first | with_reducible assumption | (simp [go_sem]; done) | (simp [go_sem, *]; done))
        have g2_1_3 : w2.frozen? ⟨w1.heap.size + 1, 3, none⟩ = false := (b2.frozen (p := ⟨w1.heap.size + 1, 3, none⟩) (by first | (simp; done) | (simp; omega) | omega)).trans (by first | with_reducible assumption | (simp [go_sem]; done) | (simp [go_sem, *]; done))
        go_wp2_with fail
        refine (K2.out _).mono ?_
        rintro e w3 ⟨rfl, b3⟩
        have s3 := b3.size
        try simp at s3
        have z3_0 : w1.heap.size < w3.heap.size := by omega
        have k3_0_0 : w3.cell? ⟨w1.heap.size, 0, none⟩ = some (.int .i64 (x)) := (b3.cell (p := ⟨w1.heap.size, 0, none⟩) (by first | (simp; done) | (simp; omega) | omega)).trans (by first | with_reducible assumption | (simp [go_sem]; done) | (simp [go_sem, *]; done))
        have g3_0_0 : w3.frozen? ⟨w1.heap.size, 0, none⟩ = false := (b3.frozen (p := ⟨w1.heap.size, 0, none⟩) (by first | (simp; done) | (simp; omega) | omega)).trans (by first | with_reducible assumption | (simp [go_sem]; done) | (simp [go_sem, *]; done))
        have k3_0_1 : w3.cell? ⟨w1.heap.size, 1, none⟩ = some (.int .i64 (y)) := (b3.cell (p := ⟨w1.heap.size, 1, none⟩) (by first | (simp; done) | (simp; omega) | omega)).trans (by first | with_reducible assumption | (simp [go_sem]; done) | (simp [go_sem, *]; done))
        have g3_0_1 : w3.frozen? ⟨w1.heap.size, 1, none⟩ = false := (b3.frozen (p := ⟨w1.heap.size, 1, none⟩) (by first | (simp; done) | (simp; omega) | omega)).trans (by first | with_reducible assumption | (simp [go_sem]; done) | (simp [go_sem, *]; done))
        have k3_0_2 : w3.cell? ⟨w1.heap.size, 2, none⟩ = some (.int .i64 (z)) := (b3.cell (p := ⟨w1.heap.size, 2, none⟩) (by first | (simp; done) | (simp; omega) | omega)).trans (by first | with_reducible assumption | (simp [go_sem]; done) | (simp [go_sem, *]; done))
        have g3_0_2 : w3.frozen? ⟨w1.heap.size, 2, none⟩ = false := (b3.frozen (p := ⟨w1.heap.size, 2, none⟩) (by first | (simp; done) | (simp; omega) | omega)).trans (by first | with_reducible assumption | (simp [go_sem]; done) | (simp [go_sem, *]; done))
        have k3_0_3 : w3.cell? ⟨w1.heap.size, 3, none⟩ = some (.int .i64 (u)) := (b3.cell (p := ⟨w1.heap.size, 3, none⟩) (by first | (simp; done) | (simp; omega) | omega)).trans (by first | with_reducible assumption | (simp [go_sem]; done) | (simp [go_sem, *]; done))
        have g3_0_3 : w3.frozen? ⟨w1.heap.size, 3, none⟩ = false := (b3.frozen (p := ⟨w1.heap.size, 3, none⟩) (by first | (simp; done) | (simp; omega) | omega)).trans (by first | with_reducible assumption | (simp [go_sem]; done) | (simp [go_sem, *]; done))
        have z3_1 : w1.heap.size + 1 < w3.heap.size := by omega
        have k3_1_0 : w3.cell? ⟨w1.heap.size + 1, 0, none⟩ = some (.int .i64 (p)) := (b3.cell (p := ⟨w1.heap.size + 1, 0, none⟩) (by first | (simp; done) | (simp; omega) | omega)).trans (by first | with_reducible assumption | (simp [go_sem]; done) | (simp [go_sem, *]; done))
        have g3_1_0 : w3.frozen? ⟨w1.heap.size + 1, 0, none⟩ = false := (b3.frozen (p := ⟨w1.heap.size + 1, 0, none⟩) (by first | (simp; done) | (simp; omega) | omega)).trans (by first | with_reducible assumption | (simp [go_sem]; done) | (simp [go_sem, *]; done))
        have k3_1_1 : w3.cell? ⟨w1.heap.size + 1, 1, none⟩ = some (.int .i64 (q)) := (b3.cell (p := ⟨w1.heap.size + 1, 1, none⟩) (by first | (simp; done) | (simp; omega) | omega)).trans (by first | with_reducible assumption | (simp [go_sem]; done) | (simp [go_sem, *]; done))
        have g3_1_1 : w3.frozen? ⟨w1.heap.size + 1, 1, none⟩ = false := (b3.frozen (p := ⟨w1.heap.size + 1, 1, none⟩) (by first | (simp; done) | (simp; omega) | omega)).trans (by first | with_reducible assumption | (simp [go_sem]; done) | (simp [go_sem, *]; done))
        have k3_1_2 : w3.cell? ⟨w1.heap.size + 1, 2, none⟩ = some (.int .i64 (r)) := (b3.cell (p := ⟨w1.heap.size + 1, 2, none⟩) (by first | (simp; done) | (simp; omega) | omega)).trans (by first | with_reducible assumption | (simp [go_sem]; done) | (simp [go_sem, *]; done))
        have g3_1_2 : w3.frozen? ⟨w1.heap.size + 1, 2, none⟩ = false := (b3.frozen (p := ⟨w1.heap.size + 1, 2, none⟩) (by first | (simp; done) | (simp; omega) | omega)).trans (by first | with_reducible assumption | (simp [go_sem]; done) | (simp [go_sem, *]; done))
        have k3_1_3 : w3.cell? ⟨w1.heap.size + 1, 3, none⟩ = some (.int .i64 (s)) := (b3.cell (p := ⟨w1.heap.size + 1, 3, none⟩) (by first | (simp; done) | (simp; omega) | omega)).trans (by first | with_reducible assumption | (simp [go_sem]; done) | (simp [go_sem, *]; done))
        have g3_1_3 : w3.frozen? ⟨w1.heap.size + 1, 3, none⟩ = false := (b3.frozen (p := ⟨w1.heap.size + 1, 3, none⟩) (by first | (simp; done) | (simp; omega) | omega)).trans (by first | with_reducible assumption | (simp [go_sem]; done) | (simp [go_sem, *]; done))
        have z3_2 : w2.heap.size < w3.heap.size := by omega
        have k3_2_0 : w3.cell? ⟨w2.heap.size, 0, none⟩ = some (.int .i64 (m0)) := (b3.cell (p := ⟨w2.heap.size, 0, none⟩) (by first | (simp; done) | (simp; omega) | omega)).trans (by first | with_reducible assumption | (simp [go_sem]; done) | (simp [go_sem, *]; done))
        have g3_2_0 : w3.frozen? ⟨w2.heap.size, 0, none⟩ = false := (b3.frozen (p := ⟨w2.heap.size, 0, none⟩) (by first | (simp; done) | (simp; omega) | omega)).trans (by first | with_reducible assumption | (simp [go_sem]; done) | (simp [go_sem, *]; done))
        have k3_2_1 : w3.cell? ⟨w2.heap.size, 1, none⟩ = some (.int .i64 (m1)) := (b3.cell (p := ⟨w2.heap.size, 1, none⟩) (by first | (simp; done) | (simp; omega) | omega)).trans (by first | with_reducible assumption | (simp [go_sem]; done) | (simp [go_sem, *]; done))
        have g3_2_1 : w3.frozen? ⟨w2.heap.size, 1, none⟩ = false := (b3.frozen (p := ⟨w2.heap.size, 1, none⟩) (by first | (simp; done) | (simp; omega) | omega)).trans (by first | with_reducible assumption | (simp [go_sem]; done) | (simp [go_sem, *]; done))
        have k3_2_2 : w3.cell? ⟨w2.heap.size, 2, none⟩ = some (.int .i64 (m2)) := (b3.cell (p := ⟨w2.heap.size, 2, none⟩) (by first | (simp; done) | (simp; omega) | omega)).trans (by first | with_reducible assumption | (simp [go_sem]; done) | (simp [go_sem, *]; done))
        have g3_2_2 : w3.frozen? ⟨w2.heap.size, 2, none⟩ = false := (b3.frozen (p := ⟨w2.heap.size, 2, none⟩) (by first | (simp; done) | (simp; omega) | omega)).trans (by first | with_reducible assumption | (simp [go_sem]; done) | (simp [go_sem, *]; done))
        have k3_2_3 : w3.cell? ⟨w2.heap.size, 3, none⟩ = some (.int .i64 (m3)) := (b3.cell (p := ⟨w2.heap.size, 3, none⟩) (by first | (simp; done) | (simp; omega) | omega)).trans (by first | with_reducible assumption | (simp [go_sem]; done) | (simp [go_sem, *]; done))
        have g3_2_3 : w3.frozen? ⟨w2.heap.size, 3, none⟩ = false := (b3.frozen (p := ⟨w2.heap.size, 3, none⟩) (by first | (simp; done) | (simp; omega) | omega)).trans (by first | with_reducible assumption | (simp [go_sem]; done) | (simp [go_sem, *]; done))
        clear k2_0_0 g2_0_0 k2_0_1 g2_0_1 k2_0_2 g2_0_2 k2_0_3 g2_0_3 k2_1_0 g2_1_0 k2_1_1 g2_1_1 k2_1_2 g2_1_2 k2_1_3 g2_1_3
        go_wp2
        go_ret
        exact ⟨rfl, (by (repeat (first | with_reducible exact Below.refl _ _ | with_reducible refine bl_alloc ?_ _ | with_reducible refine bl_drew ?_ | with_reducible refine bl_set ?_ (by first | (simp; done) | (simp; omega)) _ | with_reducible refine bl_call (by assumption) ?_)))⟩

      | true =>
        obtain ⟨ha, hb, hm, c0, c1, c2, c3⟩ := cmB_t hok
        have hass := mm_assoc x y z u p q r s ((n2 : Int) % 9 - 4) ((n2 : Int) / 9 % 9 - 4)
        rw [← c0, ← c1, ← c2, ← c3] at hm hass
        clear c0 c1 c2 c3
        obtain ⟨m0, e0⟩ : ∃ v, CmA x y z u p q r s = v := ⟨_, rfl⟩
        obtain ⟨m1, e1⟩ : ∃ v, CmB x y z u p q r s = v := ⟨_, rfl⟩
        obtain ⟨m2, e2⟩ : ∃ v, CmC x y z u p q r s = v := ⟨_, rfl⟩
        obtain ⟨m3, e3⟩ : ∃ v, CmD x y z u p q r s = v := ⟨_, rfl⟩
        rw [e0, e1, e2, e3] at hm hass
        have K1 : Hid (∀ W : World, Calls Try.prog 8 #[.agg #[.int .i64 x, .int .i64 y, .int .i64 z, .int .i64 u], .agg #[.int .i64 p, .int .i64 q, .int .i64 r, .int .i64 s]] W fun e w' => e = .returned (.tuple #[.agg #[.int .i64 m0, .int .i64 m1, .int .i64 m2, .int .i64 m3], .bool true]) ∧ Below W.heap.size W w') := Lib.hid fun W => by
          have h := impl_ComposeMatrices (x) (y) (z) (u) (p) (q) (r) (s) W
          rw [e0, e1, e2, e3, hok] at h
          exact h
        have K2 : Hid (∀ W : World, Calls Try.prog 9 #[.agg #[.int .i64 x, .int .i64 y, .int .i64 z, .int .i64 u], .agg #[.int .i64 p, .int .i64 q, .int .i64 r, .int .i64 s]] W fun e w' => e = .returned (.tuple #[.agg #[.int .i64 m0, .int .i64 m1, .int .i64 m2, .int .i64 m3], .bool true]) ∧ Below W.heap.size W w') := Lib.hid fun W => by
          have h := spec_ComposeMatrices (x) (y) (z) (u) (p) (q) (r) (s) W
          rw [e0, e1, e2, e3, hok] at h
          exact h
        have g1 := mod_lt (n2 : Int) 9 (by omega)
        have g2 := div_bd0 (n2 : Int) 9 (by omega) (by omega)
        have g3 := mod_lt ((n2 : Int) / 9) 9 (by omega)
        have hl := Lib.hid (one_list ((n2 : Int) % 9 - 4) ((n2 : Int) / 9 % 9 - 4) (by omega) (by omega))
        have HAS := Lib.hid hass
        have HHA := Lib.hid ha
        have HHB := Lib.hid hb
        have HHM := Lib.hid hm
        clear e0 e1 e2 e3 hok hass ha hb hm
        go_wp2_with fail
        refine (K1.out _).mono ?_
        rintro e w2 ⟨rfl, b2⟩
        have s2 := b2.size
        try simp at s2
        have z2_0 : w1.heap.size < w2.heap.size := by omega
        have k2_0_0 : w2.cell? ⟨w1.heap.size, 0, none⟩ = some (.int .i64 (x)) := (b2.cell (p := ⟨w1.heap.size, 0, none⟩) (by first | (simp; done) | (simp; omega) | omega)).trans (by first | with_reducible assumption | (simp [go_sem]; done) | (simp [go_sem, *]; done))
        have g2_0_0 : w2.frozen? ⟨w1.heap.size, 0, none⟩ = false := (b2.frozen (p := ⟨w1.heap.size, 0, none⟩) (by first | (simp; done) | (simp; omega) | omega)).trans (by first | with_reducible assumption | (simp [go_sem]; done) | (simp [go_sem, *]; done))
        have k2_0_1 : w2.cell? ⟨w1.heap.size, 1, none⟩ = some (.int .i64 (y)) := (b2.cell (p := ⟨w1.heap.size, 1, none⟩) (by first | (simp; done) | (simp; omega) | omega)).trans (by first | with_reducible assumption | (simp [go_sem]; done) | (simp [go_sem, *]; done))
        have g2_0_1 : w2.frozen? ⟨w1.heap.size, 1, none⟩ = false := (b2.frozen (p := ⟨w1.heap.size, 1, none⟩) (by first | (simp; done) | (simp; omega) | omega)).trans (by first | with_reducible assumption | (simp [go_sem]; done) | (simp [go_sem, *]; done))
        have k2_0_2 : w2.cell? ⟨w1.heap.size, 2, none⟩ = some (.int .i64 (z)) := (b2.cell (p := ⟨w1.heap.size, 2, none⟩) (by first | (simp; done) | (simp; omega) | omega)).trans (by first | with_reducible assumption | (simp [go_sem]; done) | (simp [go_sem, *]; done))
        have g2_0_2 : w2.frozen? ⟨w1.heap.size, 2, none⟩ = false := (b2.frozen (p := ⟨w1.heap.size, 2, none⟩) (by first | (simp; done) | (simp; omega) | omega)).trans (by first | with_reducible assumption | (simp [go_sem]; done) | (simp [go_sem, *]; done))
        have k2_0_3 : w2.cell? ⟨w1.heap.size, 3, none⟩ = some (.int .i64 (u)) := (b2.cell (p := ⟨w1.heap.size, 3, none⟩) (by first | (simp; done) | (simp; omega) | omega)).trans (by first | with_reducible assumption | (simp [go_sem]; done) | (simp [go_sem, *]; done))
        have g2_0_3 : w2.frozen? ⟨w1.heap.size, 3, none⟩ = false := (b2.frozen (p := ⟨w1.heap.size, 3, none⟩) (by first | (simp; done) | (simp; omega) | omega)).trans (by first | with_reducible assumption | (simp [go_sem]; done) | (simp [go_sem, *]; done))
        have z2_1 : w1.heap.size + 1 < w2.heap.size := by omega
        have k2_1_0 : w2.cell? ⟨w1.heap.size + 1, 0, none⟩ = some (.int .i64 (p)) := (b2.cell (p := ⟨w1.heap.size + 1, 0, none⟩) (by first | (simp; done) | (simp; omega) | omega)).trans (by first | with_reducible assumption | (simp [go_sem]; done) | (simp [go_sem, *]; done))
        have g2_1_0 : w2.frozen? ⟨w1.heap.size + 1, 0, none⟩ = false := (b2.frozen (p := ⟨w1.heap.size + 1, 0, none⟩) (by first | (simp; done) | (simp; omega) | omega)).trans (by first | with_reducible assumption | (simp [go_sem]; done) | (simp [go_sem, *]; done))
        have k2_1_1 : w2.cell? ⟨w1.heap.size + 1, 1, none⟩ = some (.int .i64 (q)) := (b2.cell (p := ⟨w1.heap.size + 1, 1, none⟩) (by first | (simp; done) | (simp; omega) | omega)).trans (by first | with_reducible assumption | (simp [go_sem]; done) | (simp [go_sem, *]; done))
        have g2_1_1 : w2.frozen? ⟨w1.heap.size + 1, 1, none⟩ = false := (b2.frozen (p := ⟨w1.heap.size + 1, 1, none⟩) (by first | (simp; done) | (simp; omega) | omega)).trans (by first | with_reducible assumption | (simp [go_sem]; done) | (simp [go_sem, *]; done))
        have k2_1_2 : w2.cell? ⟨w1.heap.size + 1, 2, none⟩ = some (.int .i64 (r)) := (b2.cell (p := ⟨w1.heap.size + 1, 2, none⟩) (by first | (simp; done) | (simp; omega) | omega)).trans (by first | with_reducible assumption | (simp [go_sem]; done) | (simp [go_sem, *]; done))
        have g2_1_2 : w2.frozen? ⟨w1.heap.size + 1, 2, none⟩ = false := (b2.frozen (p := ⟨w1.heap.size + 1, 2, none⟩) (by first | (simp; done) | (simp; omega) | omega)).trans (by first | with_reducible assumption | (simp [go_sem]; done) | (simp [go_sem, *]; done))
        have k2_1_3 : w2.cell? ⟨w1.heap.size + 1, 3, none⟩ = some (.int .i64 (s)) := (b2.cell (p := ⟨w1.heap.size + 1, 3, none⟩) (by first | (simp; done) | (simp; omega) | omega)).trans (by first | with_reducible assumption | (simp [go_sem]; done) | (simp [go_sem, *]; done))
        have g2_1_3 : w2.frozen? ⟨w1.heap.size + 1, 3, none⟩ = false := (b2.frozen (p := ⟨w1.heap.size + 1, 3, none⟩) (by first | (simp; done) | (simp; omega) | omega)).trans (by first | with_reducible assumption | (simp [go_sem]; done) | (simp [go_sem, *]; done))
        go_wp2_with fail
        refine (K2.out _).mono ?_
        rintro e w3 ⟨rfl, b3⟩
        have s3 := b3.size
        try simp at s3
        have z3_0 : w1.heap.size < w3.heap.size := by omega
        have k3_0_0 : w3.cell? ⟨w1.heap.size, 0, none⟩ = some (.int .i64 (x)) := (b3.cell (p := ⟨w1.heap.size, 0, none⟩) (by first | (simp; done) | (simp; omega) | omega)).trans (by first | with_reducible assumption | (simp [go_sem]; done) | (simp [go_sem, *]; done))
        have g3_0_0 : w3.frozen? ⟨w1.heap.size, 0, none⟩ = false := (b3.frozen (p := ⟨w1.heap.size, 0, none⟩) (by first | (simp; done) | (simp; omega) | omega)).trans (by first | with_reducible assumption | (simp [go_sem]; done) | (simp [go_sem, *]; done))
        have k3_0_1 : w3.cell? ⟨w1.heap.size, 1, none⟩ = some (.int .i64 (y)) := (b3.cell (p := ⟨w1.heap.size, 1, none⟩) (by first | (simp; done) | (simp; omega) | omega)).trans (by first | with_reducible assumption | (simp [go_sem]; done) | (simp [go_sem, *]; done))
        have g3_0_1 : w3.frozen? ⟨w1.heap.size, 1, none⟩ = false := (b3.frozen (p := ⟨w1.heap.size, 1, none⟩) (by first | (simp; done) | (simp; omega) | omega)).trans (by first | with_reducible assumption | (simp [go_sem]; done) | (simp [go_sem, *]; done))
        have k3_0_2 : w3.cell? ⟨w1.heap.size, 2, none⟩ = some (.int .i64 (z)) := (b3.cell (p := ⟨w1.heap.size, 2, none⟩) (by first | (simp; done) | (simp; omega) | omega)).trans (by first | with_reducible assumption | (simp [go_sem]; done) | (simp [go_sem, *]; done))
        have g3_0_2 : w3.frozen? ⟨w1.heap.size, 2, none⟩ = false := (b3.frozen (p := ⟨w1.heap.size, 2, none⟩) (by first | (simp; done) | (simp; omega) | omega)).trans (by first | with_reducible assumption | (simp [go_sem]; done) | (simp [go_sem, *]; done))
        have k3_0_3 : w3.cell? ⟨w1.heap.size, 3, none⟩ = some (.int .i64 (u)) := (b3.cell (p := ⟨w1.heap.size, 3, none⟩) (by first | (simp; done) | (simp; omega) | omega)).trans (by first | with_reducible assumption | (simp [go_sem]; done) | (simp [go_sem, *]; done))
        have g3_0_3 : w3.frozen? ⟨w1.heap.size, 3, none⟩ = false := (b3.frozen (p := ⟨w1.heap.size, 3, none⟩) (by first | (simp; done) | (simp; omega) | omega)).trans (by first | with_reducible assumption | (simp [go_sem]; done) | (simp [go_sem, *]; done))
        have z3_1 : w1.heap.size + 1 < w3.heap.size := by omega
        have k3_1_0 : w3.cell? ⟨w1.heap.size + 1, 0, none⟩ = some (.int .i64 (p)) := (b3.cell (p := ⟨w1.heap.size + 1, 0, none⟩) (by first | (simp; done) | (simp; omega) | omega)).trans (by first | with_reducible assumption | (simp [go_sem]; done) | (simp [go_sem, *]; done))
        have g3_1_0 : w3.frozen? ⟨w1.heap.size + 1, 0, none⟩ = false := (b3.frozen (p := ⟨w1.heap.size + 1, 0, none⟩) (by first | (simp; done) | (simp; omega) | omega)).trans (by first | with_reducible assumption | (simp [go_sem]; done) | (simp [go_sem, *]; done))
        have k3_1_1 : w3.cell? ⟨w1.heap.size + 1, 1, none⟩ = some (.int .i64 (q)) := (b3.cell (p := ⟨w1.heap.size + 1, 1, none⟩) (by first | (simp; done) | (simp; omega) | omega)).trans (by first | with_reducible assumption | (simp [go_sem]; done) | (simp [go_sem, *]; done))
        have g3_1_1 : w3.frozen? ⟨w1.heap.size + 1, 1, none⟩ = false := (b3.frozen (p := ⟨w1.heap.size + 1, 1, none⟩) (by first | (simp; done) | (simp; omega) | omega)).trans (by first | with_reducible assumption | (simp [go_sem]; done) | (simp [go_sem, *]; done))
        have k3_1_2 : w3.cell? ⟨w1.heap.size + 1, 2, none⟩ = some (.int .i64 (r)) := (b3.cell (p := ⟨w1.heap.size + 1, 2, none⟩) (by first | (simp; done) | (simp; omega) | omega)).trans (by first | with_reducible assumption | (simp [go_sem]; done) | (simp [go_sem, *]; done))
        have g3_1_2 : w3.frozen? ⟨w1.heap.size + 1, 2, none⟩ = false := (b3.frozen (p := ⟨w1.heap.size + 1, 2, none⟩) (by first | (simp; done) | (simp; omega) | omega)).trans (by first | with_reducible assumption | (simp [go_sem]; done) | (simp [go_sem, *]; done))
        have k3_1_3 : w3.cell? ⟨w1.heap.size + 1, 3, none⟩ = some (.int .i64 (s)) := (b3.cell (p := ⟨w1.heap.size + 1, 3, none⟩) (by first | (simp; done) | (simp; omega) | omega)).trans (by first | with_reducible assumption | (simp [go_sem]; done) | (simp [go_sem, *]; done))
        have g3_1_3 : w3.frozen? ⟨w1.heap.size + 1, 3, none⟩ = false := (b3.frozen (p := ⟨w1.heap.size + 1, 3, none⟩) (by first | (simp; done) | (simp; omega) | omega)).trans (by first | with_reducible assumption | (simp [go_sem]; done) | (simp [go_sem, *]; done))
        have z3_2 : w2.heap.size < w3.heap.size := by omega
        have k3_2_0 : w3.cell? ⟨w2.heap.size, 0, none⟩ = some (.int .i64 (m0)) := (b3.cell (p := ⟨w2.heap.size, 0, none⟩) (by first | (simp; done) | (simp; omega) | omega)).trans (by first | with_reducible assumption | (simp [go_sem]; done) | (simp [go_sem, *]; done))
        have g3_2_0 : w3.frozen? ⟨w2.heap.size, 0, none⟩ = false := (b3.frozen (p := ⟨w2.heap.size, 0, none⟩) (by first | (simp; done) | (simp; omega) | omega)).trans (by first | with_reducible assumption | (simp [go_sem]; done) | (simp [go_sem, *]; done))
        have k3_2_1 : w3.cell? ⟨w2.heap.size, 1, none⟩ = some (.int .i64 (m1)) := (b3.cell (p := ⟨w2.heap.size, 1, none⟩) (by first | (simp; done) | (simp; omega) | omega)).trans (by first | with_reducible assumption | (simp [go_sem]; done) | (simp [go_sem, *]; done))
        have g3_2_1 : w3.frozen? ⟨w2.heap.size, 1, none⟩ = false := (b3.frozen (p := ⟨w2.heap.size, 1, none⟩) (by first | (simp; done) | (simp; omega) | omega)).trans (by first | with_reducible assumption | (simp [go_sem]; done) | (simp [go_sem, *]; done))
        have k3_2_2 : w3.cell? ⟨w2.heap.size, 2, none⟩ = some (.int .i64 (m2)) := (b3.cell (p := ⟨w2.heap.size, 2, none⟩) (by first | (simp; done) | (simp; omega) | omega)).trans (by first | with_reducible assumption | (simp [go_sem]; done) | (simp [go_sem, *]; done))
        have g3_2_2 : w3.frozen? ⟨w2.heap.size, 2, none⟩ = false := (b3.frozen (p := ⟨w2.heap.size, 2, none⟩) (by first | (simp; done) | (simp; omega) | omega)).trans (by first | with_reducible assumption | (simp [go_sem]; done) | (simp [go_sem, *]; done))
        have k3_2_3 : w3.cell? ⟨w2.heap.size, 3, none⟩ = some (.int .i64 (m3)) := (b3.cell (p := ⟨w2.heap.size, 3, none⟩) (by first | (simp; done) | (simp; omega) | omega)).trans (by first | with_reducible assumption | (simp [go_sem]; done) | (simp [go_sem, *]; done))
        have g3_2_3 : w3.frozen? ⟨w2.heap.size, 3, none⟩ = false := (b3.frozen (p := ⟨w2.heap.size, 3, none⟩) (by first | (simp; done) | (simp; omega) | omega)).trans (by first | with_reducible assumption | (simp [go_sem]; done) | (simp [go_sem, *]; done))
        clear k2_0_0 g2_0_0 k2_0_1 g2_0_1 k2_0_2 g2_0_2 k2_0_3 g2_0_3 k2_1_0 g2_1_0 k2_1_1 g2_1_1 k2_1_2 g2_1_2 k2_1_3 g2_1_3
        go_wp2_with fail
        refine (impl_MapPoints (w3.heap.size + 1) 0 1 1 ([((n2 : Int) % 9 - 4, (n2 : Int) / 9 % 9 - 4)]) p q r s _ (by omega) rfl (by first | omega | (simp; done) | (simp; omega)) (one_row (by first | with_reducible assumption | (simp [go_sem]; done) | (simp [go_sem, *]; done)) (by first | with_reducible assumption | (simp [go_sem]; done) | (simp [go_sem, *]; done))) HHB.out hl.out).mono ?_
        rintro e w4 ⟨⟨hv1, x1, rfl, gx, lx, rx⟩ | ⟨hv1, rfl⟩, b4⟩
        ·
          have s4 := b4.size
          try simp at s4
          have z4_0 : w1.heap.size < w4.heap.size := by omega
          have k4_0_0 : w4.cell? ⟨w1.heap.size, 0, none⟩ = some (.int .i64 (x)) := (b4.cell (p := ⟨w1.heap.size, 0, none⟩) (by first | (simp; done) | (simp; omega) | omega)).trans (by first | with_reducible assumption | (simp [go_sem]; done) | (simp [go_sem, *]; done))
          have g4_0_0 : w4.frozen? ⟨w1.heap.size, 0, none⟩ = false := (b4.frozen (p := ⟨w1.heap.size, 0, none⟩) (by first | (simp; done) | (simp; omega) | omega)).trans (by first | with_reducible assumption | (simp [go_sem]; done) | (simp [go_sem, *]; done))
          have k4_0_1 : w4.cell? ⟨w1.heap.size, 1, none⟩ = some (.int .i64 (y)) := (b4.cell (p := ⟨w1.heap.size, 1, none⟩) (by first | (simp; done) | (simp; omega) | omega)).trans (by first | with_reducible assumption | (simp [go_sem]; done) | (simp [go_sem, *]; done))
          have g4_0_1 : w4.frozen? ⟨w1.heap.size, 1, none⟩ = false := (b4.frozen (p := ⟨w1.heap.size, 1, none⟩) (by first | (simp; done) | (simp; omega) | omega)).trans (by first | with_reducible assumption | (simp [go_sem]; done) | (simp [go_sem, *]; done))
          have k4_0_2 : w4.cell? ⟨w1.heap.size, 2, none⟩ = some (.int .i64 (z)) := (b4.cell (p := ⟨w1.heap.size, 2, none⟩) (by first | (simp; done) | (simp; omega) | omega)).trans (by first | with_reducible assumption | (simp [go_sem]; done) | (simp [go_sem, *]; done))
          have g4_0_2 : w4.frozen? ⟨w1.heap.size, 2, none⟩ = false := (b4.frozen (p := ⟨w1.heap.size, 2, none⟩) (by first | (simp; done) | (simp; omega) | omega)).trans (by first | with_reducible assumption | (simp [go_sem]; done) | (simp [go_sem, *]; done))
          have k4_0_3 : w4.cell? ⟨w1.heap.size, 3, none⟩ = some (.int .i64 (u)) := (b4.cell (p := ⟨w1.heap.size, 3, none⟩) (by first | (simp; done) | (simp; omega) | omega)).trans (by first | with_reducible assumption | (simp [go_sem]; done) | (simp [go_sem, *]; done))
          have g4_0_3 : w4.frozen? ⟨w1.heap.size, 3, none⟩ = false := (b4.frozen (p := ⟨w1.heap.size, 3, none⟩) (by first | (simp; done) | (simp; omega) | omega)).trans (by first | with_reducible assumption | (simp [go_sem]; done) | (simp [go_sem, *]; done))
          have z4_1 : w1.heap.size + 1 < w4.heap.size := by omega
          have k4_1_0 : w4.cell? ⟨w1.heap.size + 1, 0, none⟩ = some (.int .i64 (p)) := (b4.cell (p := ⟨w1.heap.size + 1, 0, none⟩) (by first | (simp; done) | (simp; omega) | omega)).trans (by first | with_reducible assumption | (simp [go_sem]; done) | (simp [go_sem, *]; done))
          have g4_1_0 : w4.frozen? ⟨w1.heap.size + 1, 0, none⟩ = false := (b4.frozen (p := ⟨w1.heap.size + 1, 0, none⟩) (by first | (simp; done) | (simp; omega) | omega)).trans (by first | with_reducible assumption | (simp [go_sem]; done) | (simp [go_sem, *]; done))
          have k4_1_1 : w4.cell? ⟨w1.heap.size + 1, 1, none⟩ = some (.int .i64 (q)) := (b4.cell (p := ⟨w1.heap.size + 1, 1, none⟩) (by first | (simp; done) | (simp; omega) | omega)).trans (by first | with_reducible assumption | (simp [go_sem]; done) | (simp [go_sem, *]; done))
          have g4_1_1 : w4.frozen? ⟨w1.heap.size + 1, 1, none⟩ = false := (b4.frozen (p := ⟨w1.heap.size + 1, 1, none⟩) (by first | (simp; done) | (simp; omega) | omega)).trans (by first | with_reducible assumption | (simp [go_sem]; done) | (simp [go_sem, *]; done))
          have k4_1_2 : w4.cell? ⟨w1.heap.size + 1, 2, none⟩ = some (.int .i64 (r)) := (b4.cell (p := ⟨w1.heap.size + 1, 2, none⟩) (by first | (simp; done) | (simp; omega) | omega)).trans (by first | with_reducible assumption | (simp [go_sem]; done) | (simp [go_sem, *]; done))
          have g4_1_2 : w4.frozen? ⟨w1.heap.size + 1, 2, none⟩ = false := (b4.frozen (p := ⟨w1.heap.size + 1, 2, none⟩) (by first | (simp; done) | (simp; omega) | omega)).trans (by first | with_reducible assumption | (simp [go_sem]; done) | (simp [go_sem, *]; done))
          have k4_1_3 : w4.cell? ⟨w1.heap.size + 1, 3, none⟩ = some (.int .i64 (s)) := (b4.cell (p := ⟨w1.heap.size + 1, 3, none⟩) (by first | (simp; done) | (simp; omega) | omega)).trans (by first | with_reducible assumption | (simp [go_sem]; done) | (simp [go_sem, *]; done))
          have g4_1_3 : w4.frozen? ⟨w1.heap.size + 1, 3, none⟩ = false := (b4.frozen (p := ⟨w1.heap.size + 1, 3, none⟩) (by first | (simp; done) | (simp; omega) | omega)).trans (by first | with_reducible assumption | (simp [go_sem]; done) | (simp [go_sem, *]; done))
          have z4_2 : w2.heap.size < w4.heap.size := by omega
          have k4_2_0 : w4.cell? ⟨w2.heap.size, 0, none⟩ = some (.int .i64 (m0)) := (b4.cell (p := ⟨w2.heap.size, 0, none⟩) (by first | (simp; done) | (simp; omega) | omega)).trans (by first | with_reducible assumption | (simp [go_sem]; done) | (simp [go_sem, *]; done))
          have g4_2_0 : w4.frozen? ⟨w2.heap.size, 0, none⟩ = false := (b4.frozen (p := ⟨w2.heap.size, 0, none⟩) (by first | (simp; done) | (simp; omega) | omega)).trans (by first | with_reducible assumption | (simp [go_sem]; done) | (simp [go_sem, *]; done))
          have k4_2_1 : w4.cell? ⟨w2.heap.size, 1, none⟩ = some (.int .i64 (m1)) := (b4.cell (p := ⟨w2.heap.size, 1, none⟩) (by first | (simp; done) | (simp; omega) | omega)).trans (by first | with_reducible assumption | (simp [go_sem]; done) | (simp [go_sem, *]; done))
          have g4_2_1 : w4.frozen? ⟨w2.heap.size, 1, none⟩ = false := (b4.frozen (p := ⟨w2.heap.size, 1, none⟩) (by first | (simp; done) | (simp; omega) | omega)).trans (by first | with_reducible assumption | (simp [go_sem]; done) | (simp [go_sem, *]; done))
          have k4_2_2 : w4.cell? ⟨w2.heap.size, 2, none⟩ = some (.int .i64 (m2)) := (b4.cell (p := ⟨w2.heap.size, 2, none⟩) (by first | (simp; done) | (simp; omega) | omega)).trans (by first | with_reducible assumption | (simp [go_sem]; done) | (simp [go_sem, *]; done))
          have g4_2_2 : w4.frozen? ⟨w2.heap.size, 2, none⟩ = false := (b4.frozen (p := ⟨w2.heap.size, 2, none⟩) (by first | (simp; done) | (simp; omega) | omega)).trans (by first | with_reducible assumption | (simp [go_sem]; done) | (simp [go_sem, *]; done))
          have k4_2_3 : w4.cell? ⟨w2.heap.size, 3, none⟩ = some (.int .i64 (m3)) := (b4.cell (p := ⟨w2.heap.size, 3, none⟩) (by first | (simp; done) | (simp; omega) | omega)).trans (by first | with_reducible assumption | (simp [go_sem]; done) | (simp [go_sem, *]; done))
          have g4_2_3 : w4.frozen? ⟨w2.heap.size, 3, none⟩ = false := (b4.frozen (p := ⟨w2.heap.size, 3, none⟩) (by first | (simp; done) | (simp; omega) | omega)).trans (by first | with_reducible assumption | (simp [go_sem]; done) | (simp [go_sem, *]; done))
          have z4_3 : w3.heap.size < w4.heap.size := by omega
          have k4_3_0 : w4.cell? ⟨w3.heap.size, 0, none⟩ = some (.int .i64 (m0)) := (b4.cell (p := ⟨w3.heap.size, 0, none⟩) (by first | (simp; done) | (simp; omega) | omega)).trans (by first | with_reducible assumption | (simp [go_sem]; done) | (simp [go_sem, *]; done))
          have g4_3_0 : w4.frozen? ⟨w3.heap.size, 0, none⟩ = false := (b4.frozen (p := ⟨w3.heap.size, 0, none⟩) (by first | (simp; done) | (simp; omega) | omega)).trans (by first | with_reducible assumption | (simp [go_sem]; done) | (simp [go_sem, *]; done))
          have k4_3_1 : w4.cell? ⟨w3.heap.size, 1, none⟩ = some (.int .i64 (m1)) := (b4.cell (p := ⟨w3.heap.size, 1, none⟩) (by first | (simp; done) | (simp; omega) | omega)).trans (by first | with_reducible assumption | (simp [go_sem]; done) | (simp [go_sem, *]; done))
          have g4_3_1 : w4.frozen? ⟨w3.heap.size, 1, none⟩ = false := (b4.frozen (p := ⟨w3.heap.size, 1, none⟩) (by first | (simp; done) | (simp; omega) | omega)).trans (by first | with_reducible assumption | (simp [go_sem]; done) | (simp [go_sem, *]; done))
          have k4_3_2 : w4.cell? ⟨w3.heap.size, 2, none⟩ = some (.int .i64 (m2)) := (b4.cell (p := ⟨w3.heap.size, 2, none⟩) (by first | (simp; done) | (simp; omega) | omega)).trans (by first | with_reducible assumption | (simp [go_sem]; done) | (simp [go_sem, *]; done))
          have g4_3_2 : w4.frozen? ⟨w3.heap.size, 2, none⟩ = false := (b4.frozen (p := ⟨w3.heap.size, 2, none⟩) (by first | (simp; done) | (simp; omega) | omega)).trans (by first | with_reducible assumption | (simp [go_sem]; done) | (simp [go_sem, *]; done))
          have k4_3_3 : w4.cell? ⟨w3.heap.size, 3, none⟩ = some (.int .i64 (m3)) := (b4.cell (p := ⟨w3.heap.size, 3, none⟩) (by first | (simp; done) | (simp; omega) | omega)).trans (by first | with_reducible assumption | (simp [go_sem]; done) | (simp [go_sem, *]; done))
          have g4_3_3 : w4.frozen? ⟨w3.heap.size, 3, none⟩ = false := (b4.frozen (p := ⟨w3.heap.size, 3, none⟩) (by first | (simp; done) | (simp; omega) | omega)).trans (by first | with_reducible assumption | (simp [go_sem]; done) | (simp [go_sem, *]; done))
          have z4_4 : w3.heap.size + 1 < w4.heap.size := by omega
          have k4_4_0 : w4.cell? ⟨w3.heap.size + 1, 0, none⟩ = some (.int .i64 ((n2 : Int) % 9 - 4)) := (b4.cell (p := ⟨w3.heap.size + 1, 0, none⟩) (by first | (simp; done) | (simp; omega) | omega)).trans (by first | with_reducible assumption | (simp [go_sem]; done) | (simp [go_sem, *]; done))
          have g4_4_0 : w4.frozen? ⟨w3.heap.size + 1, 0, none⟩ = false := (b4.frozen (p := ⟨w3.heap.size + 1, 0, none⟩) (by first | (simp; done) | (simp; omega) | omega)).trans (by first | with_reducible assumption | (simp [go_sem]; done) | (simp [go_sem, *]; done))
          have k4_4_1 : w4.cell? ⟨w3.heap.size + 1, 1, none⟩ = some (.int .i64 ((n2 : Int) / 9 % 9 - 4)) := (b4.cell (p := ⟨w3.heap.size + 1, 1, none⟩) (by first | (simp; done) | (simp; omega) | omega)).trans (by first | with_reducible assumption | (simp [go_sem]; done) | (simp [go_sem, *]; done))
          have g4_4_1 : w4.frozen? ⟨w3.heap.size + 1, 1, none⟩ = false := (b4.frozen (p := ⟨w3.heap.size + 1, 1, none⟩) (by first | (simp; done) | (simp; omega) | omega)).trans (by first | with_reducible assumption | (simp [go_sem]; done) | (simp [go_sem, *]; done))
          clear k3_0_0 g3_0_0 k3_0_1 g3_0_1 k3_0_2 g3_0_2 k3_0_3 g3_0_3 k3_1_0 g3_1_0 k3_1_1 g3_1_1 k3_1_2 g3_1_2 k3_1_3 g3_1_3 k3_2_0 g3_2_0 k3_2_1 g3_2_1 k3_2_2 g3_2_2 k3_2_3 g3_2_3
          have RX := Lib.hid rx
          clear rx
          have HV1 := Lib.hid hv1
          clear hv1
          go_wp2_with fail
          refine (impl_MapPoints (x1) 0 1 1 (([((n2 : Int) % 9 - 4, (n2 : Int) / 9 % 9 - 4)]).map (mpP p q r s)) x y z u _ (by omega) rfl lx RX.out HHA.out HV1.out).mono ?_
          rintro e w5 ⟨⟨hv2, y1, rfl, gy, ly, ry⟩ | ⟨hv2, rfl⟩, b5⟩
          ·
            have s5 := b5.size
            try simp at s5
            have z5_0 : w1.heap.size < w5.heap.size := by omega
            have k5_0_0 : w5.cell? ⟨w1.heap.size, 0, none⟩ = some (.int .i64 (x)) := (b5.cell (p := ⟨w1.heap.size, 0, none⟩) (by first | (simp; done) | (simp; omega) | omega)).trans (by first | with_reducible assumption | (simp [go_sem]; done) | (simp [go_sem, *]; done))
            have g5_0_0 : w5.frozen? ⟨w1.heap.size, 0, none⟩ = false := (b5.frozen (p := ⟨w1.heap.size, 0, none⟩) (by first | (simp; done) | (simp; omega) | omega)).trans (by first | with_reducible assumption | (simp [go_sem]; done) | (simp [go_sem, *]; done))
            have k5_0_1 : w5.cell? ⟨w1.heap.size, 1, none⟩ = some (.int .i64 (y)) := (b5.cell (p := ⟨w1.heap.size, 1, none⟩) (by first | (simp; done) | (simp; omega) | omega)).trans (by first | with_reducible assumption | (simp [go_sem]; done) | (simp [go_sem, *]; done))
            have g5_0_1 : w5.frozen? ⟨w1.heap.size, 1, none⟩ = false := (b5.frozen (p := ⟨w1.heap.size, 1, none⟩) (by first | (simp; done) | (simp; omega) | omega)).trans (by first | with_reducible assumption | (simp [go_sem]; done) | (simp [go_sem, *]; done))
            have k5_0_2 : w5.cell? ⟨w1.heap.size, 2, none⟩ = some (.int .i64 (z)) := (b5.cell (p := ⟨w1.heap.size, 2, none⟩) (by first | (simp; done) | (simp; omega) | omega)).trans (by first | with_reducible assumption | (simp [go_sem]; done) | (simp [go_sem, *]; done))
            have g5_0_2 : w5.frozen? ⟨w1.heap.size, 2, none⟩ = false := (b5.frozen (p := ⟨w1.heap.size, 2, none⟩) (by first | (simp; done) | (simp; omega) | omega)).trans (by first | with_reducible assumption | (simp [go_sem]; done) | (simp [go_sem, *]; done))
            have k5_0_3 : w5.cell? ⟨w1.heap.size, 3, none⟩ = some (.int .i64 (u)) := (b5.cell (p := ⟨w1.heap.size, 3, none⟩) (by first | (simp; done) | (simp; omega) | omega)).trans (by first | with_reducible assumption | (simp [go_sem]; done) | (simp [go_sem, *]; done))
            have g5_0_3 : w5.frozen? ⟨w1.heap.size, 3, none⟩ = false := (b5.frozen (p := ⟨w1.heap.size, 3, none⟩) (by first | (simp; done) | (simp; omega) | omega)).trans (by first | with_reducible assumption | (simp [go_sem]; done) | (simp [go_sem, *]; done))
            have z5_1 : w1.heap.size + 1 < w5.heap.size := by omega
            have k5_1_0 : w5.cell? ⟨w1.heap.size + 1, 0, none⟩ = some (.int .i64 (p)) := (b5.cell (p := ⟨w1.heap.size + 1, 0, none⟩) (by first | (simp; done) | (simp; omega) | omega)).trans (by first | with_reducible assumption | (simp [go_sem]; done) | (simp [go_sem, *]; done))
            have g5_1_0 : w5.frozen? ⟨w1.heap.size + 1, 0, none⟩ = false := (b5.frozen (p := ⟨w1.heap.size + 1, 0, none⟩) (by first | (simp; done) | (simp; omega) | omega)).trans (by first | with_reducible assumption | (simp [go_sem]; done) | (simp [go_sem, *]; done))
            have k5_1_1 : w5.cell? ⟨w1.heap.size + 1, 1, none⟩ = some (.int .i64 (q)) := (b5.cell (p := ⟨w1.heap.size + 1, 1, none⟩) (by first | (simp; done) | (simp; omega) | omega)).trans (by first | with_reducible assumption | (simp [go_sem]; done) | (simp [go_sem, *]; done))
            have g5_1_1 : w5.frozen? ⟨w1.heap.size + 1, 1, none⟩ = false := (b5.frozen (p := ⟨w1.heap.size + 1, 1, none⟩) (by first | (simp; done) | (simp; omega) | omega)).trans (by first | with_reducible assumption | (simp [go_sem]; done) | (simp [go_sem, *]; done))
            have k5_1_2 : w5.cell? ⟨w1.heap.size + 1, 2, none⟩ = some (.int .i64 (r)) := (b5.cell (p := ⟨w1.heap.size + 1, 2, none⟩) (by first | (simp; done) | (simp; omega) | omega)).trans (by first | with_reducible assumption | (simp [go_sem]; done) | (simp [go_sem, *]; done))
            have g5_1_2 : w5.frozen? ⟨w1.heap.size + 1, 2, none⟩ = false := (b5.frozen (p := ⟨w1.heap.size + 1, 2, none⟩) (by first | (simp; done) | (simp; omega) | omega)).trans (by first | with_reducible assumption | (simp [go_sem]; done) | (simp [go_sem, *]; done))
            have k5_1_3 : w5.cell? ⟨w1.heap.size + 1, 3, none⟩ = some (.int .i64 (s)) := (b5.cell (p := ⟨w1.heap.size + 1, 3, none⟩) (by first | (simp; done) | (simp; omega) | omega)).trans (by first | with_reducible assumption | (simp [go_sem]; done) | (simp [go_sem, *]; done))
            have g5_1_3 : w5.frozen? ⟨w1.heap.size + 1, 3, none⟩ = false := (b5.frozen (p := ⟨w1.heap.size + 1, 3, none⟩) (by first | (simp; done) | (simp; omega) | omega)).trans (by first | with_reducible assumption | (simp [go_sem]; done) | (simp [go_sem, *]; done))
            have z5_2 : w2.heap.size < w5.heap.size := by omega
            have k5_2_0 : w5.cell? ⟨w2.heap.size, 0, none⟩ = some (.int .i64 (m0)) := (b5.cell (p := ⟨w2.heap.size, 0, none⟩) (by first | (simp; done) | (simp; omega) | omega)).trans (by first | with_reducible assumption | (simp [go_sem]; done) | (simp [go_sem, *]; done))
            have g5_2_0 : w5.frozen? ⟨w2.heap.size, 0, none⟩ = false := (b5.frozen (p := ⟨w2.heap.size, 0, none⟩) (by first | (simp; done) | (simp; omega) | omega)).trans (by first | with_reducible assumption | (simp [go_sem]; done) | (simp [go_sem, *]; done))
            have k5_2_1 : w5.cell? ⟨w2.heap.size, 1, none⟩ = some (.int .i64 (m1)) := (b5.cell (p := ⟨w2.heap.size, 1, none⟩) (by first | (simp; done) | (simp; omega) | omega)).trans (by first | with_reducible assumption | (simp [go_sem]; done) | (simp [go_sem, *]; done))
            have g5_2_1 : w5.frozen? ⟨w2.heap.size, 1, none⟩ = false := (b5.frozen (p := ⟨w2.heap.size, 1, none⟩) (by first | (simp; done) | (simp; omega) | omega)).trans (by first | with_reducible assumption | (simp [go_sem]; done) | (simp [go_sem, *]; done))
            have k5_2_2 : w5.cell? ⟨w2.heap.size, 2, none⟩ = some (.int .i64 (m2)) := (b5.cell (p := ⟨w2.heap.size, 2, none⟩) (by first | (simp; done) | (simp; omega) | omega)).trans (by first | with_reducible assumption | (simp [go_sem]; done) | (simp [go_sem, *]; done))
            have g5_2_2 : w5.frozen? ⟨w2.heap.size, 2, none⟩ = false := (b5.frozen (p := ⟨w2.heap.size, 2, none⟩) (by first | (simp; done) | (simp; omega) | omega)).trans (by first | with_reducible assumption | (simp [go_sem]; done) | (simp [go_sem, *]; done))
            have k5_2_3 : w5.cell? ⟨w2.heap.size, 3, none⟩ = some (.int .i64 (m3)) := (b5.cell (p := ⟨w2.heap.size, 3, none⟩) (by first | (simp; done) | (simp; omega) | omega)).trans (by first | with_reducible assumption | (simp [go_sem]; done) | (simp [go_sem, *]; done))
            have g5_2_3 : w5.frozen? ⟨w2.heap.size, 3, none⟩ = false := (b5.frozen (p := ⟨w2.heap.size, 3, none⟩) (by first | (simp; done) | (simp; omega) | omega)).trans (by first | with_reducible assumption | (simp [go_sem]; done) | (simp [go_sem, *]; done))
            have z5_3 : w3.heap.size < w5.heap.size := by omega
            have k5_3_0 : w5.cell? ⟨w3.heap.size, 0, none⟩ = some (.int .i64 (m0)) := (b5.cell (p := ⟨w3.heap.size, 0, none⟩) (by first | (simp; done) | (simp; omega) | omega)).trans (by first | with_reducible assumption | (simp [go_sem]; done) | (simp [go_sem, *]; done))
            have g5_3_0 : w5.frozen? ⟨w3.heap.size, 0, none⟩ = false := (b5.frozen (p := ⟨w3.heap.size, 0, none⟩) (by first | (simp; done) | (simp; omega) | omega)).trans (by first | with_reducible assumption | (simp [go_sem]; done) | (simp [go_sem, *]; done))
            have k5_3_1 : w5.cell? ⟨w3.heap.size, 1, none⟩ = some (.int .i64 (m1)) := (b5.cell (p := ⟨w3.heap.size, 1, none⟩) (by first | (simp; done) | (simp; omega) | omega)).trans (by first | with_reducible assumption | (simp [go_sem]; done) | (simp [go_sem, *]; done))
            have g5_3_1 : w5.frozen? ⟨w3.heap.size, 1, none⟩ = false := (b5.frozen (p := ⟨w3.heap.size, 1, none⟩) (by first | (simp; done) | (simp; omega) | omega)).trans (by first | with_reducible assumption | (simp [go_sem]; done) | (simp [go_sem, *]; done))
            have k5_3_2 : w5.cell? ⟨w3.heap.size, 2, none⟩ = some (.int .i64 (m2)) := (b5.cell (p := ⟨w3.heap.size, 2, none⟩) (by first | (simp; done) | (simp; omega) | omega)).trans (by first | with_reducible assumption | (simp [go_sem]; done) | (simp [go_sem, *]; done))
            have g5_3_2 : w5.frozen? ⟨w3.heap.size, 2, none⟩ = false := (b5.frozen (p := ⟨w3.heap.size, 2, none⟩) (by first | (simp; done) | (simp; omega) | omega)).trans (by first | with_reducible assumption | (simp [go_sem]; done) | (simp [go_sem, *]; done))
            have k5_3_3 : w5.cell? ⟨w3.heap.size, 3, none⟩ = some (.int .i64 (m3)) := (b5.cell (p := ⟨w3.heap.size, 3, none⟩) (by first | (simp; done) | (simp; omega) | omega)).trans (by first | with_reducible assumption | (simp [go_sem]; done) | (simp [go_sem, *]; done))
            have g5_3_3 : w5.frozen? ⟨w3.heap.size, 3, none⟩ = false := (b5.frozen (p := ⟨w3.heap.size, 3, none⟩) (by first | (simp; done) | (simp; omega) | omega)).trans (by first | with_reducible assumption | (simp [go_sem]; done) | (simp [go_sem, *]; done))
            have z5_4 : w3.heap.size + 1 < w5.heap.size := by omega
            have k5_4_0 : w5.cell? ⟨w3.heap.size + 1, 0, none⟩ = some (.int .i64 ((n2 : Int) % 9 - 4)) := (b5.cell (p := ⟨w3.heap.size + 1, 0, none⟩) (by first | (simp; done) | (simp; omega) | omega)).trans (by first | with_reducible assumption | (simp [go_sem]; done) | (simp [go_sem, *]; done))
            have g5_4_0 : w5.frozen? ⟨w3.heap.size + 1, 0, none⟩ = false := (b5.frozen (p := ⟨w3.heap.size + 1, 0, none⟩) (by first | (simp; done) | (simp; omega) | omega)).trans (by first | with_reducible assumption | (simp [go_sem]; done) | (simp [go_sem, *]; done))
            have k5_4_1 : w5.cell? ⟨w3.heap.size + 1, 1, none⟩ = some (.int .i64 ((n2 : Int) / 9 % 9 - 4)) := (b5.cell (p := ⟨w3.heap.size + 1, 1, none⟩) (by first | (simp; done) | (simp; omega) | omega)).trans (by first | with_reducible assumption | (simp [go_sem]; done) | (simp [go_sem, *]; done))
            have g5_4_1 : w5.frozen? ⟨w3.heap.size + 1, 1, none⟩ = false := (b5.frozen (p := ⟨w3.heap.size + 1, 1, none⟩) (by first | (simp; done) | (simp; omega) | omega)).trans (by first | with_reducible assumption | (simp [go_sem]; done) | (simp [go_sem, *]; done))
            clear k4_0_0 g4_0_0 k4_0_1 g4_0_1 k4_0_2 g4_0_2 k4_0_3 g4_0_3 k4_1_0 g4_1_0 k4_1_1 g4_1_1 k4_1_2 g4_1_2 k4_1_3 g4_1_3 k4_2_0 g4_2_0 k4_2_1 g4_2_1 k4_2_2 g4_2_2 k4_2_3 g4_2_3 k4_3_0 g4_3_0 k4_3_1 g4_3_1 k4_3_2 g4_3_2 k4_3_3 g4_3_3 k4_4_0 g4_4_0 k4_4_1 g4_4_1
            have RY := Lib.hid ry
            clear ry
            have HV2 := Lib.hid hv2
            clear hv2
            go_wp2_with fail
            refine (impl_MapPoints (w3.heap.size + 1) 0 1 1 ([((n2 : Int) % 9 - 4, (n2 : Int) / 9 % 9 - 4)]) m0 m1 m2 m3 _ (by omega) rfl (by first | omega | (simp; done) | (simp; omega)) (one_row (by first | with_reducible assumption | (simp [go_sem]; done) | (simp [go_sem, *]; done)) (by first | with_reducible assumption | (simp [go_sem]; done) | (simp [go_sem, *]; done))) HHM.out hl.out).mono ?_
            rintro e w6 ⟨⟨hv3, z1, rfl, gz, lz, rz⟩ | ⟨hv3, rfl⟩, b6⟩
            ·
              have s6 := b6.size
              try simp at s6
              have z6_0 : w1.heap.size < w6.heap.size := by omega
              have k6_0_0 : w6.cell? ⟨w1.heap.size, 0, none⟩ = some (.int .i64 (x)) := (b6.cell (p := ⟨w1.heap.size, 0, none⟩) (by first | (simp; done) | (simp; omega) | omega)).trans (by first | with_reducible assumption | (simp [go_sem]; done) | (simp [go_sem, *]; done))
              have g6_0_0 : w6.frozen? ⟨w1.heap.size, 0, none⟩ = false := (b6.frozen (p := ⟨w1.heap.size, 0, none⟩) (by first | (simp; done) | (simp; omega) | omega)).trans (by first | with_reducible assumption | (simp [go_sem]; done) | (simp [go_sem, *]; done))
              have k6_0_1 : w6.cell? ⟨w1.heap.size, 1, none⟩ = some (.int .i64 (y)) := (b6.cell (p := ⟨w1.heap.size, 1, none⟩) (by first | (simp; done) | (simp; omega) | omega)).trans (by first | with_reducible assumption | (simp [go_sem]; done) | (simp [go_sem, *]; done))
              have g6_0_1 : w6.frozen? ⟨w1.heap.size, 1, none⟩ = false := (b6.frozen (p := ⟨w1.heap.size, 1, none⟩) (by first | (simp; done) | (simp; omega) | omega)).trans (by first | with_reducible assumption | (simp [go_sem]; done) | (simp [go_sem, *]; done))
              have k6_0_2 : w6.cell? ⟨w1.heap.size, 2, none⟩ = some (.int .i64 (z)) := (b6.cell (p := ⟨w1.heap.size, 2, none⟩) (by first | (simp; done) | (simp; omega) | omega)).trans (by first | with_reducible assumption | (simp [go_sem]; done) | (simp [go_sem, *]; done))
              have g6_0_2 : w6.frozen? ⟨w1.heap.size, 2, none⟩ = false := (b6.frozen (p := ⟨w1.heap.size, 2, none⟩) (by first | (simp; done) | (simp; omega) | omega)).trans (by first | with_reducible assumption | (simp [go_sem]; done) | (simp [go_sem, *]; done))
              have k6_0_3 : w6.cell? ⟨w1.heap.size, 3, none⟩ = some (.int .i64 (u)) := (b6.cell (p := ⟨w1.heap.size, 3, none⟩) (by first | (simp; done) | (simp; omega) | omega)).trans (by first | with_reducible assumption | (simp [go_sem]; done) | (simp [go_sem, *]; done))
              have g6_0_3 : w6.frozen? ⟨w1.heap.size, 3, none⟩ = false := (b6.frozen (p := ⟨w1.heap.size, 3, none⟩) (by first | (simp; done) | (simp; omega) | omega)).trans (by first | with_reducible assumption | (simp [go_sem]; done) | (simp [go_sem, *]; done))
              have z6_1 : w1.heap.size + 1 < w6.heap.size := by omega
              have k6_1_0 : w6.cell? ⟨w1.heap.size + 1, 0, none⟩ = some (.int .i64 (p)) := (b6.cell (p := ⟨w1.heap.size + 1, 0, none⟩) (by first | (simp; done) | (simp; omega) | omega)).trans (by first | with_reducible assumption | (simp [go_sem]; done) | (simp [go_sem, *]; done))
              have g6_1_0 : w6.frozen? ⟨w1.heap.size + 1, 0, none⟩ = false := (b6.frozen (p := ⟨w1.heap.size + 1, 0, none⟩) (by first | (simp; done) | (simp; omega) | omega)).trans (by first | with_reducible assumption | (simp [go_sem]; done) | (simp [go_sem, *]; done))
              have k6_1_1 : w6.cell? ⟨w1.heap.size + 1, 1, none⟩ = some (.int .i64 (q)) := (b6.cell (p := ⟨w1.heap.size + 1, 1, none⟩) (by first | (simp; done) | (simp; omega) | omega)).trans (by first | with_reducible assumption | (simp [go_sem]; done) | (simp [go_sem, *]; done))
              have g6_1_1 : w6.frozen? ⟨w1.heap.size + 1, 1, none⟩ = false := (b6.frozen (p := ⟨w1.heap.size + 1, 1, none⟩) (by first | (simp; done) | (simp; omega) | omega)).trans (by first | with_reducible assumption | (simp [go_sem]; done) | (simp [go_sem, *]; done))
              have k6_1_2 : w6.cell? ⟨w1.heap.size + 1, 2, none⟩ = some (.int .i64 (r)) := (b6.cell (p := ⟨w1.heap.size + 1, 2, none⟩) (by first | (simp; done) | (simp; omega) | omega)).trans (by first | with_reducible assumption | (simp [go_sem]; done) | (simp [go_sem, *]; done))
              have g6_1_2 : w6.frozen? ⟨w1.heap.size + 1, 2, none⟩ = false := (b6.frozen (p := ⟨w1.heap.size + 1, 2, none⟩) (by first | (simp; done) | (simp; omega) | omega)).trans (by first | with_reducible assumption | (simp [go_sem]; done) | (simp [go_sem, *]; done))
              have k6_1_3 : w6.cell? ⟨w1.heap.size + 1, 3, none⟩ = some (.int .i64 (s)) := (b6.cell (p := ⟨w1.heap.size + 1, 3, none⟩) (by first | (simp; done) | (simp; omega) | omega)).trans (by first | with_reducible assumption | (simp [go_sem]; done) | (simp [go_sem, *]; done))
              have g6_1_3 : w6.frozen? ⟨w1.heap.size + 1, 3, none⟩ = false := (b6.frozen (p := ⟨w1.heap.size + 1, 3, none⟩) (by first | (simp; done) | (simp; omega) | omega)).trans (by first | with_reducible assumption | (simp [go_sem]; done) | (simp [go_sem, *]; done))
              have z6_2 : w2.heap.size < w6.heap.size := by omega
              have k6_2_0 : w6.cell? ⟨w2.heap.size, 0, none⟩ = some (.int .i64 (m0)) := (b6.cell (p := ⟨w2.heap.size, 0, none⟩) (by first | (simp; done) | (simp; omega) | omega)).trans (by first | with_reducible assumption | (simp [go_sem]; done) | (simp [go_sem, *]; done))
              have g6_2_0 : w6.frozen? ⟨w2.heap.size, 0, none⟩ = false := (b6.frozen (p := ⟨w2.heap.size, 0, none⟩) (by first | (simp; done) | (simp; omega) | omega)).trans (by first | with_reducible assumption | (simp [go_sem]; done) | (simp [go_sem, *]; done))
              have k6_2_1 : w6.cell? ⟨w2.heap.size, 1, none⟩ = some (.int .i64 (m1)) := (b6.cell (p := ⟨w2.heap.size, 1, none⟩) (by first | (simp; done) | (simp; omega) | omega)).trans (by first | with_reducible assumption | (simp [go_sem]; done) | (simp [go_sem, *]; done))
              have g6_2_1 : w6.frozen? ⟨w2.heap.size, 1, none⟩ = false := (b6.frozen (p := ⟨w2.heap.size, 1, none⟩) (by first | (simp; done) | (simp; omega) | omega)).trans (by first | with_reducible assumption | (simp [go_sem]; done) | (simp [go_sem, *]; done))
              have k6_2_2 : w6.cell? ⟨w2.heap.size, 2, none⟩ = some (.int .i64 (m2)) := (b6.cell (p := ⟨w2.heap.size, 2, none⟩) (by first | (simp; done) | (simp; omega) | omega)).trans (by first | with_reducible assumption | (simp [go_sem]; done) | (simp [go_sem, *]; done))
              have g6_2_2 : w6.frozen? ⟨w2.heap.size, 2, none⟩ = false := (b6.frozen (p := ⟨w2.heap.size, 2, none⟩) (by first | (simp; done) | (simp; omega) | omega)).trans (by first | with_reducible assumption | (simp [go_sem]; done) | (simp [go_sem, *]; done))
              have k6_2_3 : w6.cell? ⟨w2.heap.size, 3, none⟩ = some (.int .i64 (m3)) := (b6.cell (p := ⟨w2.heap.size, 3, none⟩) (by first | (simp; done) | (simp; omega) | omega)).trans (by first | with_reducible assumption | (simp [go_sem]; done) | (simp [go_sem, *]; done))
              have g6_2_3 : w6.frozen? ⟨w2.heap.size, 3, none⟩ = false := (b6.frozen (p := ⟨w2.heap.size, 3, none⟩) (by first | (simp; done) | (simp; omega) | omega)).trans (by first | with_reducible assumption | (simp [go_sem]; done) | (simp [go_sem, *]; done))
              have z6_3 : w3.heap.size < w6.heap.size := by omega
              have k6_3_0 : w6.cell? ⟨w3.heap.size, 0, none⟩ = some (.int .i64 (m0)) := (b6.cell (p := ⟨w3.heap.size, 0, none⟩) (by first | (simp; done) | (simp; omega) | omega)).trans (by first | with_reducible assumption | (simp [go_sem]; done) | (simp [go_sem, *]; done))
              have g6_3_0 : w6.frozen? ⟨w3.heap.size, 0, none⟩ = false := (b6.frozen (p := ⟨w3.heap.size, 0, none⟩) (by first | (simp; done) | (simp; omega) | omega)).trans (by first | with_reducible assumption | (simp [go_sem]; done) | (simp [go_sem, *]; done))
              have k6_3_1 : w6.cell? ⟨w3.heap.size, 1, none⟩ = some (.int .i64 (m1)) := (b6.cell (p := ⟨w3.heap.size, 1, none⟩) (by first | (simp; done) | (simp; omega) | omega)).trans (by first | with_reducible assumption | (simp [go_sem]; done) | (simp [go_sem, *]; done))
              have g6_3_1 : w6.frozen? ⟨w3.heap.size, 1, none⟩ = false := (b6.frozen (p := ⟨w3.heap.size, 1, none⟩) (by first | (simp; done) | (simp; omega) | omega)).trans (by first | with_reducible assumption | (simp [go_sem]; done) | (simp [go_sem, *]; done))
              have k6_3_2 : w6.cell? ⟨w3.heap.size, 2, none⟩ = some (.int .i64 (m2)) := (b6.cell (p := ⟨w3.heap.size, 2, none⟩) (by first | (simp; done) | (simp; omega) | omega)).trans (by first | with_reducible assumption | (simp [go_sem]; done) | (simp [go_sem, *]; done))
              have g6_3_2 : w6.frozen? ⟨w3.heap.size, 2, none⟩ = false := (b6.frozen (p := ⟨w3.heap.size, 2, none⟩) (by first | (simp; done) | (simp; omega) | omega)).trans (by first | with_reducible assumption | (simp [go_sem]; done) | (simp [go_sem, *]; done))
              have k6_3_3 : w6.cell? ⟨w3.heap.size, 3, none⟩ = some (.int .i64 (m3)) := (b6.cell (p := ⟨w3.heap.size, 3, none⟩) (by first | (simp; done) | (simp; omega) | omega)).trans (by first | with_reducible assumption | (simp [go_sem]; done) | (simp [go_sem, *]; done))
              have g6_3_3 : w6.frozen? ⟨w3.heap.size, 3, none⟩ = false := (b6.frozen (p := ⟨w3.heap.size, 3, none⟩) (by first | (simp; done) | (simp; omega) | omega)).trans (by first | with_reducible assumption | (simp [go_sem]; done) | (simp [go_sem, *]; done))
              have z6_4 : w3.heap.size + 1 < w6.heap.size := by omega
              have k6_4_0 : w6.cell? ⟨w3.heap.size + 1, 0, none⟩ = some (.int .i64 ((n2 : Int) % 9 - 4)) := (b6.cell (p := ⟨w3.heap.size + 1, 0, none⟩) (by first | (simp; done) | (simp; omega) | omega)).trans (by first | with_reducible assumption | (simp [go_sem]; done) | (simp [go_sem, *]; done))
              have g6_4_0 : w6.frozen? ⟨w3.heap.size + 1, 0, none⟩ = false := (b6.frozen (p := ⟨w3.heap.size + 1, 0, none⟩) (by first | (simp; done) | (simp; omega) | omega)).trans (by first | with_reducible assumption | (simp [go_sem]; done) | (simp [go_sem, *]; done))
              have k6_4_1 : w6.cell? ⟨w3.heap.size + 1, 1, none⟩ = some (.int .i64 ((n2 : Int) / 9 % 9 - 4)) := (b6.cell (p := ⟨w3.heap.size + 1, 1, none⟩) (by first | (simp; done) | (simp; omega) | omega)).trans (by first | with_reducible assumption | (simp [go_sem]; done) | (simp [go_sem, *]; done))
              have g6_4_1 : w6.frozen? ⟨w3.heap.size + 1, 1, none⟩ = false := (b6.frozen (p := ⟨w3.heap.size + 1, 1, none⟩) (by first | (simp; done) | (simp; omega) | omega)).trans (by first | with_reducible assumption | (simp [go_sem]; done) | (simp [go_sem, *]; done))
              clear k5_0_0 g5_0_0 k5_0_1 g5_0_1 k5_0_2 g5_0_2 k5_0_3 g5_0_3 k5_1_0 g5_1_0 k5_1_1 g5_1_1 k5_1_2 g5_1_2 k5_1_3 g5_1_3 k5_2_0 g5_2_0 k5_2_1 g5_2_1 k5_2_2 g5_2_2 k5_2_3 g5_2_3 k5_3_0 g5_3_0 k5_3_1 g5_3_1 k5_3_2 g5_3_2 k5_3_3 g5_3_3 k5_4_0 g5_4_0 k5_4_1 g5_4_1
              have EQ : ([((n2 : Int) % 9 - 4, (n2 : Int) / 9 % 9 - 4)]).map (mpP m0 m1 m2 m3) = (([((n2 : Int) % 9 - 4, (n2 : Int) / 9 % 9 - 4)]).map (mpP p q r s)).map (mpP x y z u) := by
                show [mpP m0 m1 m2 m3 ((n2 : Int) % 9 - 4, (n2 : Int) / 9 % 9 - 4)] = [mpP x y z u (mpP p q r s ((n2 : Int) % 9 - 4, (n2 : Int) / 9 % 9 - 4))]
                rw [HAS.out]
              rw [EQ] at rz
              have RZ := Lib.hid rz
              clear rz EQ hv3
              have RY2 := Lib.hid (row_belowPoint RY.out ly b6)
              have ly2 := Nat.lt_of_lt_of_le ly b6.size
              go_wp2_with fail
              refine (laws_equalPoints z1 y1 1 1 1 _ _ (by omega) rfl lz RZ.out ly2 RY2.out).mono ?_
              rintro e w7 ⟨rfl, b7⟩
              go_wp2
              go_ret
              exact ⟨rfl, (by (repeat (first | with_reducible exact Below.refl _ _ | with_reducible refine bl_alloc ?_ _ | with_reducible refine bl_drew ?_ | with_reducible refine bl_set ?_ (by first | (simp; done) | (simp; omega)) _ | with_reducible refine bl_call (by assumption) ?_)))⟩
            ·
              exfalso
              have EQ : ([((n2 : Int) % 9 - 4, (n2 : Int) / 9 % 9 - 4)]).map (mpP m0 m1 m2 m3) = (([((n2 : Int) % 9 - 4, (n2 : Int) / 9 % 9 - 4)]).map (mpP p q r s)).map (mpP x y z u) := by
                show [mpP m0 m1 m2 m3 ((n2 : Int) % 9 - 4, (n2 : Int) / 9 % 9 - 4)] = [mpP x y z u (mpP p q r s ((n2 : Int) % 9 - 4, (n2 : Int) / 9 % 9 - 4))]
                rw [HAS.out]
              rw [EQ, HV2.out] at hv3
              cases hv3
          ·
            have s5 := b5.size
            try simp at s5
            have z5_0 : w1.heap.size < w5.heap.size := by omega
            have k5_0_0 : w5.cell? ⟨w1.heap.size, 0, none⟩ = some (.int .i64 (x)) := (b5.cell (p := ⟨w1.heap.size, 0, none⟩) (by first | (simp; done) | (simp; omega) | omega)).trans (by first | with_reducible assumption | (simp [go_sem]; done) | (simp [go_sem, *]; done))
            have g5_0_0 : w5.frozen? ⟨w1.heap.size, 0, none⟩ = false := (b5.frozen (p := ⟨w1.heap.size, 0, none⟩) (by first | (simp; done) | (simp; omega) | omega)).trans (by first | with_reducible assumption | (simp [go_sem]; done) | (simp [go_sem, *]; done))
            have k5_0_1 : w5.cell? ⟨w1.heap.size, 1, none⟩ = some (.int .i64 (y)) := (b5.cell (p := ⟨w1.heap.size, 1, none⟩) (by first | (simp; done) | (simp; omega) | omega)).trans (by first | with_reducible assumption | (simp [go_sem]; done) | (simp [go_sem, *]; done))
            have g5_0_1 : w5.frozen? ⟨w1.heap.size, 1, none⟩ = false := (b5.frozen (p := ⟨w1.heap.size, 1, none⟩) (by first | (simp; done) | (simp; omega) | omega)).trans (by first | with_reducible assumption | (simp [go_sem]; done) | (simp [go_sem, *]; done))
            have k5_0_2 : w5.cell? ⟨w1.heap.size, 2, none⟩ = some (.int .i64 (z)) := (b5.cell (p := ⟨w1.heap.size, 2, none⟩) (by first | (simp; done) | (simp; omega) | omega)).trans (by first | with_reducible assumption | (simp [go_sem]; done) | (simp [go_sem, *]; done))
            have g5_0_2 : w5.frozen? ⟨w1.heap.size, 2, none⟩ = false := (b5.frozen (p := ⟨w1.heap.size, 2, none⟩) (by first | (simp; done) | (simp; omega) | omega)).trans (by first | with_reducible assumption | (simp [go_sem]; done) | (simp [go_sem, *]; done))
            have k5_0_3 : w5.cell? ⟨w1.heap.size, 3, none⟩ = some (.int .i64 (u)) := (b5.cell (p := ⟨w1.heap.size, 3, none⟩) (by first | (simp; done) | (simp; omega) | omega)).trans (by first | with_reducible assumption | (simp [go_sem]; done) | (simp [go_sem, *]; done))
            have g5_0_3 : w5.frozen? ⟨w1.heap.size, 3, none⟩ = false := (b5.frozen (p := ⟨w1.heap.size, 3, none⟩) (by first | (simp; done) | (simp; omega) | omega)).trans (by first | with_reducible assumption | (simp [go_sem]; done) | (simp [go_sem, *]; done))
            have z5_1 : w1.heap.size + 1 < w5.heap.size := by omega
            have k5_1_0 : w5.cell? ⟨w1.heap.size + 1, 0, none⟩ = some (.int .i64 (p)) := (b5.cell (p := ⟨w1.heap.size + 1, 0, none⟩) (by first | (simp; done) | (simp; omega) | omega)).trans (by first | with_reducible assumption | (simp [go_sem]; done) | (simp [go_sem, *]; done))
            have g5_1_0 : w5.frozen? ⟨w1.heap.size + 1, 0, none⟩ = false := (b5.frozen (p := ⟨w1.heap.size + 1, 0, none⟩) (by first | (simp; done) | (simp; omega) | omega)).trans (by first | with_reducible assumption | (simp [go_sem]; done) | (simp [go_sem, *]; done))
            have k5_1_1 : w5.cell? ⟨w1.heap.size + 1, 1, none⟩ = some (.int .i64 (q)) := (b5.cell (p := ⟨w1.heap.size + 1, 1, none⟩) (by first | (simp; done) | (simp; omega) | omega)).trans (by first | with_reducible assumption | (simp [go_sem]; done) | (simp [go_sem, *]; done))
            have g5_1_1 : w5.frozen? ⟨w1.heap.size + 1, 1, none⟩ = false := (b5.frozen (p := ⟨w1.heap.size + 1, 1, none⟩) (by first | (simp; done) | (simp; omega) | omega)).trans (by first | with_reducible assumption | (simp [go_sem]; done) | (simp [go_sem, *]; done))
            have k5_1_2 : w5.cell? ⟨w1.heap.size + 1, 2, none⟩ = some (.int .i64 (r)) := (b5.cell (p := ⟨w1.heap.size + 1, 2, none⟩) (by first | (simp; done) | (simp; omega) | omega)).trans (by first | with_reducible assumption | (simp [go_sem]; done) | (simp [go_sem, *]; done))
            have g5_1_2 : w5.frozen? ⟨w1.heap.size + 1, 2, none⟩ = false := (b5.frozen (p := ⟨w1.heap.size + 1, 2, none⟩) (by first | (simp; done) | (simp; omega) | omega)).trans (by first | with_reducible assumption | (simp [go_sem]; done) | (simp [go_sem, *]; done))
            have k5_1_3 : w5.cell? ⟨w1.heap.size + 1, 3, none⟩ = some (.int .i64 (s)) := (b5.cell (p := ⟨w1.heap.size + 1, 3, none⟩) (by first | (simp; done) | (simp; omega) | omega)).trans (by first | with_reducible assumption | (simp [go_sem]; done) | (simp [go_sem, *]; done))
            have g5_1_3 : w5.frozen? ⟨w1.heap.size + 1, 3, none⟩ = false := (b5.frozen (p := ⟨w1.heap.size + 1, 3, none⟩) (by first | (simp; done) | (simp; omega) | omega)).trans (by first | with_reducible assumption | (simp [go_sem]; done) | (simp [go_sem, *]; done))
            have z5_2 : w2.heap.size < w5.heap.size := by omega
            have k5_2_0 : w5.cell? ⟨w2.heap.size, 0, none⟩ = some (.int .i64 (m0)) := (b5.cell (p := ⟨w2.heap.size, 0, none⟩) (by first | (simp; done) | (simp; omega) | omega)).trans (by first | with_reducible assumption | (simp [go_sem]; done) | (simp [go_sem, *]; done))
            have g5_2_0 : w5.frozen? ⟨w2.heap.size, 0, none⟩ = false := (b5.frozen (p := ⟨w2.heap.size, 0, none⟩) (by first | (simp; done) | (simp; omega) | omega)).trans (by first | with_reducible assumption | (simp [go_sem]; done) | (simp [go_sem, *]; done))
            have k5_2_1 : w5.cell? ⟨w2.heap.size, 1, none⟩ = some (.int .i64 (m1)) := (b5.cell (p := ⟨w2.heap.size, 1, none⟩) (by first | (simp; done) | (simp; omega) | omega)).trans (by first | with_reducible assumption | (simp [go_sem]; done) | (simp [go_sem, *]; done))
            have g5_2_1 : w5.frozen? ⟨w2.heap.size, 1, none⟩ = false := (b5.frozen (p := ⟨w2.heap.size, 1, none⟩) (by first | (simp; done) | (simp; omega) | omega)).trans (by first | with_reducible assumption | (simp [go_sem]; done) | (simp [go_sem, *]; done))
            have k5_2_2 : w5.cell? ⟨w2.heap.size, 2, none⟩ = some (.int .i64 (m2)) := (b5.cell (p := ⟨w2.heap.size, 2, none⟩) (by first | (simp; done) | (simp; omega) | omega)).trans (by first | with_reducible assumption | (simp [go_sem]; done) | (simp [go_sem, *]; done))
            have g5_2_2 : w5.frozen? ⟨w2.heap.size, 2, none⟩ = false := (b5.frozen (p := ⟨w2.heap.size, 2, none⟩) (by first | (simp; done) | (simp; omega) | omega)).trans (by first | with_reducible assumption | (simp [go_sem]; done) | (simp [go_sem, *]; done))
            have k5_2_3 : w5.cell? ⟨w2.heap.size, 3, none⟩ = some (.int .i64 (m3)) := (b5.cell (p := ⟨w2.heap.size, 3, none⟩) (by first | (simp; done) | (simp; omega) | omega)).trans (by first | with_reducible assumption | (simp [go_sem]; done) | (simp [go_sem, *]; done))
            have g5_2_3 : w5.frozen? ⟨w2.heap.size, 3, none⟩ = false := (b5.frozen (p := ⟨w2.heap.size, 3, none⟩) (by first | (simp; done) | (simp; omega) | omega)).trans (by first | with_reducible assumption | (simp [go_sem]; done) | (simp [go_sem, *]; done))
            have z5_3 : w3.heap.size < w5.heap.size := by omega
            have k5_3_0 : w5.cell? ⟨w3.heap.size, 0, none⟩ = some (.int .i64 (m0)) := (b5.cell (p := ⟨w3.heap.size, 0, none⟩) (by first | (simp; done) | (simp; omega) | omega)).trans (by first | with_reducible assumption | (simp [go_sem]; done) | (simp [go_sem, *]; done))
            have g5_3_0 : w5.frozen? ⟨w3.heap.size, 0, none⟩ = false := (b5.frozen (p := ⟨w3.heap.size, 0, none⟩) (by first | (simp; done) | (simp; omega) | omega)).trans (by first | with_reducible assumption | (simp [go_sem]; done) | (simp [go_sem, *]; done))
            have k5_3_1 : w5.cell? ⟨w3.heap.size, 1, none⟩ = some (.int .i64 (m1)) := (b5.cell (p := ⟨w3.heap.size, 1, none⟩) (by first | (simp; done) | (simp; omega) | omega)).trans (by first | with_reducible assumption | (simp [go_sem]; done) | (simp [go_sem, *]; done))
            have g5_3_1 : w5.frozen? ⟨w3.heap.size, 1, none⟩ = false := (b5.frozen (p := ⟨w3.heap.size, 1, none⟩) (by first | (simp; done) | (simp; omega) | omega)).trans (by first | with_reducible assumption | (simp [go_sem]; done) | (simp [go_sem, *]; done))
            have k5_3_2 : w5.cell? ⟨w3.heap.size, 2, none⟩ = some (.int .i64 (m2)) := (b5.cell (p := ⟨w3.heap.size, 2, none⟩) (by first | (simp; done) | (simp; omega) | omega)).trans (by first | with_reducible assumption | (simp [go_sem]; done) | (simp [go_sem, *]; done))
            have g5_3_2 : w5.frozen? ⟨w3.heap.size, 2, none⟩ = false := (b5.frozen (p := ⟨w3.heap.size, 2, none⟩) (by first | (simp; done) | (simp; omega) | omega)).trans (by first | with_reducible assumption | (simp [go_sem]; done) | (simp [go_sem, *]; done))
            have k5_3_3 : w5.cell? ⟨w3.heap.size, 3, none⟩ = some (.int .i64 (m3)) := (b5.cell (p := ⟨w3.heap.size, 3, none⟩) (by first | (simp; done) | (simp; omega) | omega)).trans (by first | with_reducible assumption | (simp [go_sem]; done) | (simp [go_sem, *]; done))
            have g5_3_3 : w5.frozen? ⟨w3.heap.size, 3, none⟩ = false := (b5.frozen (p := ⟨w3.heap.size, 3, none⟩) (by first | (simp; done) | (simp; omega) | omega)).trans (by first | with_reducible assumption | (simp [go_sem]; done) | (simp [go_sem, *]; done))
            have z5_4 : w3.heap.size + 1 < w5.heap.size := by omega
            have k5_4_0 : w5.cell? ⟨w3.heap.size + 1, 0, none⟩ = some (.int .i64 ((n2 : Int) % 9 - 4)) := (b5.cell (p := ⟨w3.heap.size + 1, 0, none⟩) (by first | (simp; done) | (simp; omega) | omega)).trans (by first | with_reducible assumption | (simp [go_sem]; done) | (simp [go_sem, *]; done))
            have g5_4_0 : w5.frozen? ⟨w3.heap.size + 1, 0, none⟩ = false := (b5.frozen (p := ⟨w3.heap.size + 1, 0, none⟩) (by first | (simp; done) | (simp; omega) | omega)).trans (by first | with_reducible assumption | (simp [go_sem]; done) | (simp [go_sem, *]; done))
            have k5_4_1 : w5.cell? ⟨w3.heap.size + 1, 1, none⟩ = some (.int .i64 ((n2 : Int) / 9 % 9 - 4)) := (b5.cell (p := ⟨w3.heap.size + 1, 1, none⟩) (by first | (simp; done) | (simp; omega) | omega)).trans (by first | with_reducible assumption | (simp [go_sem]; done) | (simp [go_sem, *]; done))
            have g5_4_1 : w5.frozen? ⟨w3.heap.size + 1, 1, none⟩ = false := (b5.frozen (p := ⟨w3.heap.size + 1, 1, none⟩) (by first | (simp; done) | (simp; omega) | omega)).trans (by first | with_reducible assumption | (simp [go_sem]; done) | (simp [go_sem, *]; done))
            clear k4_0_0 g4_0_0 k4_0_1 g4_0_1 k4_0_2 g4_0_2 k4_0_3 g4_0_3 k4_1_0 g4_1_0 k4_1_1 g4_1_1 k4_1_2 g4_1_2 k4_1_3 g4_1_3 k4_2_0 g4_2_0 k4_2_1 g4_2_1 k4_2_2 g4_2_2 k4_2_3 g4_2_3 k4_3_0 g4_3_0 k4_3_1 g4_3_1 k4_3_2 g4_3_2 k4_3_3 g4_3_3 k4_4_0 g4_4_0 k4_4_1 g4_4_1
            clear hv2
            go_wp2_with fail
            refine (impl_MapPoints (w3.heap.size + 1) 0 1 1 ([((n2 : Int) % 9 - 4, (n2 : Int) / 9 % 9 - 4)]) m0 m1 m2 m3 _ (by omega) rfl (by first | omega | (simp; done) | (simp; omega)) (one_row (by first | with_reducible assumption | (simp [go_sem]; done) | (simp [go_sem, *]; done)) (by first | with_reducible assumption | (simp [go_sem]; done) | (simp [go_sem, *]; done))) HHM.out hl.out).mono ?_
            rintro e w6 ⟨⟨hv3, z1, rfl, gz, lz, rz⟩ | ⟨hv3, rfl⟩, b6⟩
            ·
              have s6 := b6.size
              try simp at s6
              have z6_0 : w1.heap.size < w6.heap.size := by omega
              have k6_0_0 : w6.cell? ⟨w1.heap.size, 0, none⟩ = some (.int .i64 (x)) := (b6.cell (p := ⟨w1.heap.size, 0, none⟩) (by first | (simp; done) | (simp; omega) | omega)).trans (by first | with_reducible assumption | (simp [go_sem]; done) | (simp [go_sem, *]; done))
              have g6_0_0 : w6.frozen? ⟨w1.heap.size, 0, none⟩ = false := (b6.frozen (p := ⟨w1.heap.size, 0, none⟩) (by first | (simp; done) | (simp; omega) | omega)).trans (by first | with_reducible assumption | (simp [go_sem]; done) | (simp [go_sem, *]; done))
              have k6_0_1 : w6.cell? ⟨w1.heap.size, 1, none⟩ = some (.int .i64 (y)) := (b6.cell (p := ⟨w1.heap.size, 1, none⟩) (by first | (simp; done) | (simp; omega) | omega)).trans (by first | with_reducible assumption | (simp [go_sem]; done) | (simp [go_sem, *]; done))
              have g6_0_1 : w6.frozen? ⟨w1.heap.size, 1, none⟩ = false := (b6.frozen (p := ⟨w1.heap.size, 1, none⟩) (by first | (simp; done) | (simp; omega) | omega)).trans (by first | with_reducible assumption | (simp [go_sem]; done) | (simp [go_sem, *]; done))
              have k6_0_2 : w6.cell? ⟨w1.heap.size, 2, none⟩ = some (.int .i64 (z)) := (b6.cell (p := ⟨w1.heap.size, 2, none⟩) (by first | (simp; done) | (simp; omega) | omega)).trans (by first | with_reducible assumption | (simp [go_sem]; done) | (simp [go_sem, *]; done))
              have g6_0_2 : w6.frozen? ⟨w1.heap.size, 2, none⟩ = false := (b6.frozen (p := ⟨w1.heap.size, 2, none⟩) (by first | (simp; done) | (simp; omega) | omega)).trans (by first | with_reducible assumption | (simp [go_sem]; done) | (simp [go_sem, *]; done))
              have k6_0_3 : w6.cell? ⟨w1.heap.size, 3, none⟩ = some (.int .i64 (u)) := (b6.cell (p := ⟨w1.heap.size, 3, none⟩) (by first | (simp; done) | (simp; omega) | omega)).trans (by first | with_reducible assumption | (simp [go_sem]; done) | (simp [go_sem, *]; done))
              have g6_0_3 : w6.frozen? ⟨w1.heap.size, 3, none⟩ = false := (b6.frozen (p := ⟨w1.heap.size, 3, none⟩) (by first | (simp; done) | (simp; omega) | omega)).trans (by first | with_reducible assumption | (simp [go_sem]; done) | (simp [go_sem, *]; done))
              have z6_1 : w1.heap.size + 1 < w6.heap.size := by omega
              have k6_1_0 : w6.cell? ⟨w1.heap.size + 1, 0, none⟩ = some (.int .i64 (p)) := (b6.cell (p := ⟨w1.heap.size + 1, 0, none⟩) (by first | (simp; done) | (simp; omega) | omega)).trans (by first | with_reducible assumption | (simp [go_sem]; done) | (simp [go_sem, *]; done))
              have g6_1_0 : w6.frozen? ⟨w1.heap.size + 1, 0, none⟩ = false := (b6.frozen (p := ⟨w1.heap.size + 1, 0, none⟩) (by first | (simp; done) | (simp; omega) | omega)).trans (by first | with_reducible assumption | (simp [go_sem]; done) | (simp [go_sem, *]; done))
              have k6_1_1 : w6.cell? ⟨w1.heap.size + 1, 1, none⟩ = some (.int .i64 (q)) := (b6.cell (p := ⟨w1.heap.size + 1, 1, none⟩) (by first | (simp; done) | (simp; omega) | omega)).trans (by first | with_reducible assumption | (simp [go_sem]; done) | (simp [go_sem, *]; done))
              have g6_1_1 : w6.frozen? ⟨w1.heap.size + 1, 1, none⟩ = false := (b6.frozen (p := ⟨w1.heap.size + 1, 1, none⟩) (by first | (simp; done) | (simp; omega) | omega)).trans (by first | with_reducible assumption | (simp [go_sem]; done) | (simp [go_sem, *]; done))
              have k6_1_2 : w6.cell? ⟨w1.heap.size + 1, 2, none⟩ = some (.int .i64 (r)) := (b6.cell (p := ⟨w1.heap.size + 1, 2, none⟩) (by first | (simp; done) | (simp; omega) | omega)).trans (by first | with_reducible assumption | (simp [go_sem]; done) | (simp [go_sem, *]; done))
              have g6_1_2 : w6.frozen? ⟨w1.heap.size + 1, 2, none⟩ = false := (b6.frozen (p := ⟨w1.heap.size + 1, 2, none⟩) (by first | (simp; done) | (simp; omega) | omega)).trans (by first | with_reducible assumption | (simp [go_sem]; done) | (simp [go_sem, *]; done))
              have k6_1_3 : w6.cell? ⟨w1.heap.size + 1, 3, none⟩ = some (.int .i64 (s)) := (b6.cell (p := ⟨w1.heap.size + 1, 3, none⟩) (by first | (simp; done) | (simp; omega) | omega)).trans (by first | with_reducible assumption | (simp [go_sem]; done) | (simp [go_sem, *]; done))
              have g6_1_3 : w6.frozen? ⟨w1.heap.size + 1, 3, none⟩ = false := (b6.frozen (p := ⟨w1.heap.size + 1, 3, none⟩) (by first | (simp; done) | (simp; omega) | omega)).trans (by first | with_reducible assumption | (simp [go_sem]; done) | (simp [go_sem, *]; done))
              have z6_2 : w2.heap.size < w6.heap.size := by omega
              have k6_2_0 : w6.cell? ⟨w2.heap.size, 0, none⟩ = some (.int .i64 (m0)) := (b6.cell (p := ⟨w2.heap.size, 0, none⟩) (by first | (simp; done) | (simp; omega) | omega)).trans (by first | with_reducible assumption | (simp [go_sem]; done) | (simp [go_sem, *]; done))
              have g6_2_0 : w6.frozen? ⟨w2.heap.size, 0, none⟩ = false := (b6.frozen (p := ⟨w2.heap.size, 0, none⟩) (by first | (simp; done) | (simp; omega) | omega)).trans (by first | with_reducible assumption | (simp [go_sem]; done) | (simp [go_sem, *]; done))
              have k6_2_1 : w6.cell? ⟨w2.heap.size, 1, none⟩ = some (.int .i64 (m1)) := (b6.cell (p := ⟨w2.heap.size, 1, none⟩) (by first | (simp; done) | (simp; omega) | omega)).trans (by first | with_reducible assumption | (simp [go_sem]; done) | (simp [go_sem, *]; done))
              have g6_2_1 : w6.frozen? ⟨w2.heap.size, 1, none⟩ = false := (b6.frozen (p := ⟨w2.heap.size, 1, none⟩) (by first | (simp; done) | (simp; omega) | omega)).trans (by first | with_reducible assumption | (simp [go_sem]; done) | (simp [go_sem, *]; done))
              have k6_2_2 : w6.cell? ⟨w2.heap.size, 2, none⟩ = some (.int .i64 (m2)) := (b6.cell (p := ⟨w2.heap.size, 2, none⟩) (by first | (simp; done) | (simp; omega) | omega)).trans (by first | with_reducible assumption | (simp [go_sem]; done) | (simp [go_sem, *]; done))
              have g6_2_2 : w6.frozen? ⟨w2.heap.size, 2, none⟩ = false := (b6.frozen (p := ⟨w2.heap.size, 2, none⟩) (by first | (simp; done) | (simp; omega) | omega)).trans (by first | with_reducible assumption | (simp [go_sem]; done) | (simp [go_sem, *]; done))
              have k6_2_3 : w6.cell? ⟨w2.heap.size, 3, none⟩ = some (.int .i64 (m3)) := (b6.cell (p := ⟨w2.heap.size, 3, none⟩) (by first | (simp; done) | (simp; omega) | omega)).trans (by first | with_reducible assumption | (simp [go_sem]; done) | (simp [go_sem, *]; done))
              have g6_2_3 : w6.frozen? ⟨w2.heap.size, 3, none⟩ = false := (b6.frozen (p := ⟨w2.heap.size, 3, none⟩) (by first | (simp; done) | (simp; omega) | omega)).trans (by first | with_reducible assumption | (simp [go_sem]; done) | (simp [go_sem, *]; done))
              have z6_3 : w3.heap.size < w6.heap.size := by omega
              have k6_3_0 : w6.cell? ⟨w3.heap.size, 0, none⟩ = some (.int .i64 (m0)) := (b6.cell (p := ⟨w3.heap.size, 0, none⟩) (by first | (simp; done) | (simp; omega) | omega)).trans (by first | with_reducible assumption | (simp [go_sem]; done) | (simp [go_sem, *]; done))
              have g6_3_0 : w6.frozen? ⟨w3.heap.size, 0, none⟩ = false := (b6.frozen (p := ⟨w3.heap.size, 0, none⟩) (by first | (simp; done) | (simp; omega) | omega)).trans (by first | with_reducible assumption | (simp [go_sem]; done) | (simp [go_sem, *]; done))
              have k6_3_1 : w6.cell? ⟨w3.heap.size, 1, none⟩ = some (.int .i64 (m1)) := (b6.cell (p := ⟨w3.heap.size, 1, none⟩) (by first | (simp; done) | (simp; omega) | omega)).trans (by first | with_reducible assumption | (simp [go_sem]; done) | (simp [go_sem, *]; done))
              have g6_3_1 : w6.frozen? ⟨w3.heap.size, 1, none⟩ = false := (b6.frozen (p := ⟨w3.heap.size, 1, none⟩) (by first | (simp; done) | (simp; omega) | omega)).trans (by first | with_reducible assumption | (simp [go_sem]; done) | (simp [go_sem, *]; done))
              have k6_3_2 : w6.cell? ⟨w3.heap.size, 2, none⟩ = some (.int .i64 (m2)) := (b6.cell (p := ⟨w3.heap.size, 2, none⟩) (by first | (simp; done) | (simp; omega) | omega)).trans (by first | with_reducible assumption | (simp [go_sem]; done) | (simp [go_sem, *]; done))
              have g6_3_2 : w6.frozen? ⟨w3.heap.size, 2, none⟩ = false := (b6.frozen (p := ⟨w3.heap.size, 2, none⟩) (by first | (simp; done) | (simp; omega) | omega)).trans (by first | with_reducible assumption | (simp [go_sem]; done) | (simp [go_sem, *]; done))
              have k6_3_3 : w6.cell? ⟨w3.heap.size, 3, none⟩ = some (.int .i64 (m3)) := (b6.cell (p := ⟨w3.heap.size, 3, none⟩) (by first | (simp; done) | (simp; omega) | omega)).trans (by first | with_reducible assumption | (simp [go_sem]; done) | (simp [go_sem, *]; done))
              have g6_3_3 : w6.frozen? ⟨w3.heap.size, 3, none⟩ = false := (b6.frozen (p := ⟨w3.heap.size, 3, none⟩) (by first | (simp; done) | (simp; omega) | omega)).trans (by first | with_reducible assumption | (simp [go_sem]; done) | (simp [go_sem, *]; done))
              have z6_4 : w3.heap.size + 1 < w6.heap.size := by omega
              have k6_4_0 : w6.cell? ⟨w3.heap.size + 1, 0, none⟩ = some (.int .i64 ((n2 : Int) % 9 - 4)) := (b6.cell (p := ⟨w3.heap.size + 1, 0, none⟩) (by first | (simp; done) | (simp; omega) | omega)).trans (by first | with_reducible assumption | (simp [go_sem]; done) | (simp [go_sem, *]; done))
              have g6_4_0 : w6.frozen? ⟨w3.heap.size + 1, 0, none⟩ = false := (b6.frozen (p := ⟨w3.heap.size + 1, 0, none⟩) (by first | (simp; done) | (simp; omega) | omega)).trans (by first | with_reducible assumption | (simp [go_sem]; done) | (simp [go_sem, *]; done))
              have k6_4_1 : w6.cell? ⟨w3.heap.size + 1, 1, none⟩ = some (.int .i64 ((n2 : Int) / 9 % 9 - 4)) := (b6.cell (p := ⟨w3.heap.size + 1, 1, none⟩) (by first | (simp; done) | (simp; omega) | omega)).trans (by first | with_reducible assumption | (simp [go_sem]; done) | (simp [go_sem, *]; done))
              have g6_4_1 : w6.frozen? ⟨w3.heap.size + 1, 1, none⟩ = false := (b6.frozen (p := ⟨w3.heap.size + 1, 1, none⟩) (by first | (simp; done) | (simp; omega) | omega)).trans (by first | with_reducible assumption | (simp [go_sem]; done) | (simp [go_sem, *]; done))
              clear k5_0_0 g5_0_0 k5_0_1 g5_0_1 k5_0_2 g5_0_2 k5_0_3 g5_0_3 k5_1_0 g5_1_0 k5_1_1 g5_1_1 k5_1_2 g5_1_2 k5_1_3 g5_1_3 k5_2_0 g5_2_0 k5_2_1 g5_2_1 k5_2_2 g5_2_2 k5_2_3 g5_2_3 k5_3_0 g5_3_0 k5_3_1 g5_3_1 k5_3_2 g5_3_2 k5_3_3 g5_3_3 k5_4_0 g5_4_0 k5_4_1 g5_4_1
              clear hv3
              go_wp2
              go_ret
              exact ⟨rfl, (by (repeat (first | with_reducible exact Below.refl _ _ | with_reducible refine bl_alloc ?_ _ | with_reducible refine bl_drew ?_ | with_reducible refine bl_set ?_ (by first | (simp; done) | (simp; omega)) _ | with_reducible refine bl_call (by assumption) ?_)))⟩
            ·
              have s6 := b6.size
              try simp at s6
              have z6_0 : w1.heap.size < w6.heap.size := by omega
              have k6_0_0 : w6.cell? ⟨w1.heap.size, 0, none⟩ = some (.int .i64 (x)) := (b6.cell (p := ⟨w1.heap.size, 0, none⟩) (by first | (simp; done) | (simp; omega) | omega)).trans (by first | with_reducible assumption | (simp [go_sem]; done) | (simp [go_sem, *]; done))
              have g6_0_0 : w6.frozen? ⟨w1.heap.size, 0, none⟩ = false := (b6.frozen (p := ⟨w1.heap.size, 0, none⟩) (by first | (simp; done) | (simp; omega) | omega)).trans (by first | with_reducible assumption | (simp [go_sem]; done) | (simp [go_sem, *]; done))
              have k6_0_1 : w6.cell? ⟨w1.heap.size, 1, none⟩ = some (.int .i64 (y)) := (b6.cell (p := ⟨w1.heap.size, 1, none⟩) (by first | (simp; done) | (simp; omega) | omega)).trans (by first | with_reducible assumption | (simp [go_sem]; done) | (simp [go_sem, *]; done))
              have g6_0_1 : w6.frozen? ⟨w1.heap.size, 1, none⟩ = false := (b6.frozen (p := ⟨w1.heap.size, 1, none⟩) (by first | (simp; done) | (simp; omega) | omega)).trans (by first | with_reducible assumption | (simp [go_sem]; done) | (simp [go_sem, *]; done))
              have k6_0_2 : w6.cell? ⟨w1.heap.size, 2, none⟩ = some (.int .i64 (z)) := (b6.cell (p := ⟨w1.heap.size, 2, none⟩) (by first | (simp; done) | (simp; omega) | omega)).trans (by first | with_reducible assumption | (simp [go_sem]; done) | (simp [go_sem, *]; done))
              have g6_0_2 : w6.frozen? ⟨w1.heap.size, 2, none⟩ = false := (b6.frozen (p := ⟨w1.heap.size, 2, none⟩) (by first | (simp; done) | (simp; omega) | omega)).trans (by first | with_reducible assumption | (simp [go_sem]; done) | (simp [go_sem, *]; done))
              have k6_0_3 : w6.cell? ⟨w1.heap.size, 3, none⟩ = some (.int .i64 (u)) := (b6.cell (p := ⟨w1.heap.size, 3, none⟩) (by first | (simp; done) | (simp; omega) | omega)).trans (by first | with_reducible assumption | (simp [go_sem]; done) | (simp [go_sem, *]; done))
              have g6_0_3 : w6.frozen? ⟨w1.heap.size, 3, none⟩ = false := (b6.frozen (p := ⟨w1.heap.size, 3, none⟩) (by first | (simp; done) | (simp; omega) | omega)).trans (by first | with_reducible assumption | (simp [go_sem]; done) | (simp [go_sem, *]; done))
              have z6_1 : w1.heap.size + 1 < w6.heap.size := by omega
              have k6_1_0 : w6.cell? ⟨w1.heap.size + 1, 0, none⟩ = some (.int .i64 (p)) := (b6.cell (p := ⟨w1.heap.size + 1, 0, none⟩) (by first | (simp; done) | (simp; omega) | omega)).trans (by first | with_reducible assumption | (simp [go_sem]; done) | (simp [go_sem, *]; done))
              have g6_1_0 : w6.frozen? ⟨w1.heap.size + 1, 0, none⟩ = false := (b6.frozen (p := ⟨w1.heap.size + 1, 0, none⟩) (by first | (simp; done) | (simp; omega) | omega)).trans (by first | with_reducible assumption | (simp [go_sem]; done) | (simp [go_sem, *]; done))
              have k6_1_1 : w6.cell? ⟨w1.heap.size + 1, 1, none⟩ = some (.int .i64 (q)) := (b6.cell (p := ⟨w1.heap.size + 1, 1, none⟩) (by first | (simp; done) | (simp; omega) | omega)).trans (by first | with_reducible assumption | (simp [go_sem]; done) | (simp [go_sem, *]; done))
              have g6_1_1 : w6.frozen? ⟨w1.heap.size + 1, 1, none⟩ = false := (b6.frozen (p := ⟨w1.heap.size + 1, 1, none⟩) (by first | (simp; done) | (simp; omega) | omega)).trans (by first | with_reducible assumption | (simp [go_sem]; done) | (simp [go_sem, *]; done))
              have k6_1_2 : w6.cell? ⟨w1.heap.size + 1, 2, none⟩ = some (.int .i64 (r)) := (b6.cell (p := ⟨w1.heap.size + 1, 2, none⟩) (by first | (simp; done) | (simp; omega) | omega)).trans (by first | with_reducible assumption | (simp [go_sem]; done) | (simp [go_sem, *]; done))
              have g6_1_2 : w6.frozen? ⟨w1.heap.size + 1, 2, none⟩ = false := (b6.frozen (p := ⟨w1.heap.size + 1, 2, none⟩) (by first | (simp; done) | (simp; omega) | omega)).trans (by first | with_reducible assumption | (simp [go_sem]; done) | (simp [go_sem, *]; done))
              have k6_1_3 : w6.cell? ⟨w1.heap.size + 1, 3, none⟩ = some (.int .i64 (s)) := (b6.cell (p := ⟨w1.heap.size + 1, 3, none⟩) (by first | (simp; done) | (simp; omega) | omega)).trans (by first | with_reducible assumption | (simp [go_sem]; done) | (simp [go_sem, *]; done))
              have g6_1_3 : w6.frozen? ⟨w1.heap.size + 1, 3, none⟩ = false := (b6.frozen (p := ⟨w1.heap.size + 1, 3, none⟩) (by first | (simp; done) | (simp; omega) | omega)).trans (by first | with_reducible assumption | (simp [go_sem]; done) | (simp [go_sem, *]; done))
              have z6_2 : w2.heap.size < w6.heap.size := by omega
              have k6_2_0 : w6.cell? ⟨w2.heap.size, 0, none⟩ = some (.int .i64 (m0)) := (b6.cell (p := ⟨w2.heap.size, 0, none⟩) (by first | (simp; done) | (simp; omega) | omega)).trans (by first | with_reducible assumption | (simp [go_sem]; done) | (simp [go_sem, *]; done))
              have g6_2_0 : w6.frozen? ⟨w2.heap.size, 0, none⟩ = false := (b6.frozen (p := ⟨w2.heap.size, 0, none⟩) (by first | (simp; done) | (simp; omega) | omega)).trans (by first | with_reducible assumption | (simp [go_sem]; done) | (simp [go_sem, *]; done))
              have k6_2_1 : w6.cell? ⟨w2.heap.size, 1, none⟩ = some (.int .i64 (m1)) := (b6.cell (p := ⟨w2.heap.size, 1, none⟩) (by first | (simp; done) | (simp; omega) | omega)).trans (by first | with_reducible assumption | (simp [go_sem]; done) | (simp [go_sem, *]; done))
              have g6_2_1 : w6.frozen? ⟨w2.heap.size, 1, none⟩ = false := (b6.frozen (p := ⟨w2.heap.size, 1, none⟩) (by first | (simp; done) | (simp; omega) | omega)).trans (by first | with_reducible assumption | (simp [go_sem]; done) | (simp [go_sem, *]; done))
              have k6_2_2 : w6.cell? ⟨w2.heap.size, 2, none⟩ = some (.int .i64 (m2)) := (b6.cell (p := ⟨w2.heap.size, 2, none⟩) (by first | (simp; done) | (simp; omega) | omega)).trans (by first | with_reducible assumption | (simp [go_sem]; done) | (simp [go_sem, *]; done))
              have g6_2_2 : w6.frozen? ⟨w2.heap.size, 2, none⟩ = false := (b6.frozen (p := ⟨w2.heap.size, 2, none⟩) (by first | (simp; done) | (simp; omega) | omega)).trans (by first | with_reducible assumption | (simp [go_sem]; done) | (simp [go_sem, *]; done))
              have k6_2_3 : w6.cell? ⟨w2.heap.size, 3, none⟩ = some (.int .i64 (m3)) := (b6.cell (p := ⟨w2.heap.size, 3, none⟩) (by first | (simp; done) | (simp; omega) | omega)).trans (by first | with_reducible assumption | (simp [go_sem]; done) | (simp [go_sem, *]; done))
              have g6_2_3 : w6.frozen? ⟨w2.heap.size, 3, none⟩ = false := (b6.frozen (p := ⟨w2.heap.size, 3, none⟩) (by first | (simp; done) | (simp; omega) | omega)).trans (by first | with_reducible assumption | (simp [go_sem]; done) | (simp [go_sem, *]; done))
              have z6_3 : w3.heap.size < w6.heap.size := by omega
              have k6_3_0 : w6.cell? ⟨w3.heap.size, 0, none⟩ = some (.int .i64 (m0)) := (b6.cell (p := ⟨w3.heap.size, 0, none⟩) (by first | (simp; done) | (simp; omega) | omega)).trans (by first | with_reducible assumption | (simp [go_sem]; done) | (simp [go_sem, *]; done))
              have g6_3_0 : w6.frozen? ⟨w3.heap.size, 0, none⟩ = false := (b6.frozen (p := ⟨w3.heap.size, 0, none⟩) (by first | (simp; done) | (simp; omega) | omega)).trans (by first | with_reducible assumption | (simp [go_sem]; done) | (simp [go_sem, *]; done))
              have k6_3_1 : w6.cell? ⟨w3.heap.size, 1, none⟩ = some (.int .i64 (m1)) := (b6.cell (p := ⟨w3.heap.size, 1, none⟩) (by first | (simp; done) | (simp; omega) | omega)).trans (by first | with_reducible assumption | (simp [go_sem]; done) | (simp [go_sem, *]; done))
              have g6_3_1 : w6.frozen? ⟨w3.heap.size, 1, none⟩ = false := (b6.frozen (p := ⟨w3.heap.size, 1, none⟩) (by first | (simp; done) | (simp; omega) | omega)).trans (by first | with_reducible assumption | (simp [go_sem]; done) | (simp [go_sem, *]; done))
              have k6_3_2 : w6.cell? ⟨w3.heap.size, 2, none⟩ = some (.int .i64 (m2)) := (b6.cell (p := ⟨w3.heap.size, 2, none⟩) (by first | (simp; done) | (simp; omega) | omega)).trans (by first | with_reducible assumption | (simp [go_sem]; done) | (simp [go_sem, *]; done))
              have g6_3_2 : w6.frozen? ⟨w3.heap.size, 2, none⟩ = false := (b6.frozen (p := ⟨w3.heap.size, 2, none⟩) (by first | (simp; done) | (simp; omega) | omega)).trans (by first | with_reducible assumption | (simp [go_sem]; done) | (simp [go_sem, *]; done))
              have k6_3_3 : w6.cell? ⟨w3.heap.size, 3, none⟩ = some (.int .i64 (m3)) := (b6.cell (p := ⟨w3.heap.size, 3, none⟩) (by first | (simp; done) | (simp; omega) | omega)).trans (by first | with_reducible assumption | (simp [go_sem]; done) | (simp [go_sem, *]; done))
              have g6_3_3 : w6.frozen? ⟨w3.heap.size, 3, none⟩ = false := (b6.frozen (p := ⟨w3.heap.size, 3, none⟩) (by first | (simp; done) | (simp; omega) | omega)).trans (by first | with_reducible assumption | (simp [go_sem]; done) | (simp [go_sem, *]; done))
              have z6_4 : w3.heap.size + 1 < w6.heap.size := by omega
              have k6_4_0 : w6.cell? ⟨w3.heap.size + 1, 0, none⟩ = some (.int .i64 ((n2 : Int) % 9 - 4)) := (b6.cell (p := ⟨w3.heap.size + 1, 0, none⟩) (by first | (simp; done) | (simp; omega) | omega)).trans (by first | with_reducible assumption | (simp [go_sem]; done) | (simp [go_sem, *]; done))
              have g6_4_0 : w6.frozen? ⟨w3.heap.size + 1, 0, none⟩ = false := (b6.frozen (p := ⟨w3.heap.size + 1, 0, none⟩) (by first | (simp; done) | (simp; omega) | omega)).trans (by first | with_reducible assumption | (simp [go_sem]; done) | (simp [go_sem, *]; done))
              have k6_4_1 : w6.cell? ⟨w3.heap.size + 1, 1, none⟩ = some (.int .i64 ((n2 : Int) / 9 % 9 - 4)) := (b6.cell (p := ⟨w3.heap.size + 1, 1, none⟩) (by first | (simp; done) | (simp; omega) | omega)).trans (by first | with_reducible assumption | (simp [go_sem]; done) | (simp [go_sem, *]; done))
              have g6_4_1 : w6.frozen? ⟨w3.heap.size + 1, 1, none⟩ = false := (b6.frozen (p := ⟨w3.heap.size + 1, 1, none⟩) (by first | (simp; done) | (simp; omega) | omega)).trans (by first | with_reducible assumption | (simp [go_sem]; done) | (simp [go_sem, *]; done))
              clear k5_0_0 g5_0_0 k5_0_1 g5_0_1 k5_0_2 g5_0_2 k5_0_3 g5_0_3 k5_1_0 g5_1_0 k5_1_1 g5_1_1 k5_1_2 g5_1_2 k5_1_3 g5_1_3 k5_2_0 g5_2_0 k5_2_1 g5_2_1 k5_2_2 g5_2_2 k5_2_3 g5_2_3 k5_3_0 g5_3_0 k5_3_1 g5_3_1 k5_3_2 g5_3_2 k5_3_3 g5_3_3 k5_4_0 g5_4_0 k5_4_1 g5_4_1
              clear hv3
              go_wp2
              go_ret
              exact ⟨rfl, (by (repeat (first | with_reducible exact Below.refl _ _ | with_reducible refine bl_alloc ?_ _ | with_reducible refine bl_drew ?_ | with_reducible refine bl_set ?_ (by first | (simp; done) | (simp; omega)) _ | with_reducible refine bl_call (by assumption) ?_)))⟩
        ·
          have s4 := b4.size
          try simp at s4
          have z4_0 : w1.heap.size < w4.heap.size := by omega
          have k4_0_0 : w4.cell? ⟨w1.heap.size, 0, none⟩ = some (.int .i64 (x)) := (b4.cell (p := ⟨w1.heap.size, 0, none⟩) (by first | (simp; done) | (simp; omega) | omega)).trans (by first | with_reducible assumption | (simp [go_sem]; done) | (simp [go_sem, *]; done))
          have g4_0_0 : w4.frozen? ⟨w1.heap.size, 0, none⟩ = false := (b4.frozen (p := ⟨w1.heap.size, 0, none⟩) (by first | (simp; done) | (simp; omega) | omega)).trans (by first | with_reducible assumption | (simp [go_sem]; done) | (simp [go_sem, *]; done))
          have k4_0_1 : w4.cell? ⟨w1.heap.size, 1, none⟩ = some (.int .i64 (y)) := (b4.cell (p := ⟨w1.heap.size, 1, none⟩) (by first | (simp; done) | (simp; omega) | omega)).trans (by first | with_reducible assumption | (simp [go_sem]; done) | (simp [go_sem, *]; done))
          have g4_0_1 : w4.frozen? ⟨w1.heap.size, 1, none⟩ = false := (b4.frozen (p := ⟨w1.heap.size, 1, none⟩) (by first | (simp; done) | (simp; omega) | omega)).trans (by first | with_reducible assumption | (simp [go_sem]; done) | (simp [go_sem, *]; done))
          have k4_0_2 : w4.cell? ⟨w1.heap.size, 2, none⟩ = some (.int .i64 (z)) := (b4.cell (p := ⟨w1.heap.size, 2, none⟩) (by first | (simp; done) | (simp; omega) | omega)).trans (by first | with_reducible assumption | (simp [go_sem]; done) | (simp [go_sem, *]; done))
          have g4_0_2 : w4.frozen? ⟨w1.heap.size, 2, none⟩ = false := (b4.frozen (p := ⟨w1.heap.size, 2, none⟩) (by first | (simp; done) | (simp; omega) | omega)).trans (by first | with_reducible assumption | (simp [go_sem]; done) | (simp [go_sem, *]; done))
          have k4_0_3 : w4.cell? ⟨w1.heap.size, 3, none⟩ = some (.int .i64 (u)) := (b4.cell (p := ⟨w1.heap.size, 3, none⟩) (by first | (simp; done) | (simp; omega) | omega)).trans (by first | with_reducible assumption | (simp [go_sem]; done) | (simp [go_sem, *]; done))
          have g4_0_3 : w4.frozen? ⟨w1.heap.size, 3, none⟩ = false := (b4.frozen (p := ⟨w1.heap.size, 3, none⟩) (by first | (simp; done) | (simp; omega) | omega)).trans (by first | with_reducible assumption | (simp [go_sem]; done) | (simp [go_sem, *]; done))
          have z4_1 : w1.heap.size + 1 < w4.heap.size := by omega
          have k4_1_0 : w4.cell? ⟨w1.heap.size + 1, 0, none⟩ = some (.int .i64 (p)) := (b4.cell (p := ⟨w1.heap.size + 1, 0, none⟩) (by first | (simp; done) | (simp; omega) | omega)).trans (by first | with_reducible assumption | (simp [go_sem]; done) | (simp [go_sem, *]; done))
          have g4_1_0 : w4.frozen? ⟨w1.heap.size + 1, 0, none⟩ = false := (b4.frozen (p := ⟨w1.heap.size + 1, 0, none⟩) (by first | (simp; done) | (simp; omega) | omega)).trans (by first | with_reducible assumption | (simp [go_sem]; done) | (simp [go_sem, *]; done))
          have k4_1_1 : w4.cell? ⟨w1.heap.size + 1, 1, none⟩ = some (.int .i64 (q)) := (b4.cell (p := ⟨w1.heap.size + 1, 1, none⟩) (by first | (simp; done) | (simp; omega) | omega)).trans (by first | with_reducible assumption | (simp [go_sem]; done) | (simp [go_sem, *]; done))
          have g4_1_1 : w4.frozen? ⟨w1.heap.size + 1, 1, none⟩ = false := (b4.frozen (p := ⟨w1.heap.size + 1, 1, none⟩) (by first | (simp; done) | (simp; omega) | omega)).trans (by first | with_reducible assumption | (simp [go_sem]; done) | (simp [go_sem, *]; done))
          have k4_1_2 : w4.cell? ⟨w1.heap.size + 1, 2, none⟩ = some (.int .i64 (r)) := (b4.cell (p := ⟨w1.heap.size + 1, 2, none⟩) (by first | (simp; done) | (simp; omega) | omega)).trans (by first | with_reducible assumption | (simp [go_sem]; done) | (simp [go_sem, *]; done))
          have g4_1_2 : w4.frozen? ⟨w1.heap.size + 1, 2, none⟩ = false := (b4.frozen (p := ⟨w1.heap.size + 1, 2, none⟩) (by first | (simp; done) | (simp; omega) | omega)).trans (by first | with_reducible assumption | (simp [go_sem]; done) | (simp [go_sem, *]; done))
          have k4_1_3 : w4.cell? ⟨w1.heap.size + 1, 3, none⟩ = some (.int .i64 (s)) := (b4.cell (p := ⟨w1.heap.size + 1, 3, none⟩) (by first | (simp; done) | (simp; omega) | omega)).trans (by first | with_reducible assumption | (simp [go_sem]; done) | (simp [go_sem, *]; done))
          have g4_1_3 : w4.frozen? ⟨w1.heap.size + 1, 3, none⟩ = false := (b4.frozen (p := ⟨w1.heap.size + 1, 3, none⟩) (by first | (simp; done) | (simp; omega) | omega)).trans (by first | with_reducible assumption | (simp [go_sem]; done) | (simp [go_sem, *]; done))
          have z4_2 : w2.heap.size < w4.heap.size := by omega
          have k4_2_0 : w4.cell? ⟨w2.heap.size, 0, none⟩ = some (.int .i64 (m0)) := (b4.cell (p := ⟨w2.heap.size, 0, none⟩) (by first | (simp; done) | (simp; omega) | omega)).trans (by first | with_reducible assumption | (simp [go_sem]; done) | (simp [go_sem, *]; done))
          have g4_2_0 : w4.frozen? ⟨w2.heap.size, 0, none⟩ = false := (b4.frozen (p := ⟨w2.heap.size, 0, none⟩) (by first | (simp; done) | (simp; omega) | omega)).trans (by first | with_reducible assumption | (simp [go_sem]; done) | (simp [go_sem, *]; done))
          have k4_2_1 : w4.cell? ⟨w2.heap.size, 1, none⟩ = some (.int .i64 (m1)) := (b4.cell (p := ⟨w2.heap.size, 1, none⟩) (by first | (simp; done) | (simp; omega) | omega)).trans (by first | with_reducible assumption | (simp [go_sem]; done) | (simp [go_sem, *]; done))
          have g4_2_1 : w4.frozen? ⟨w2.heap.size, 1, none⟩ = false := (b4.frozen (p := ⟨w2.heap.size, 1, none⟩) (by first | (simp; done) | (simp; omega) | omega)).trans (by first | with_reducible assumption | (simp [go_sem]; done) | (simp [go_sem, *]; done))
          have k4_2_2 : w4.cell? ⟨w2.heap.size, 2, none⟩ = some (.int .i64 (m2)) := (b4.cell (p := ⟨w2.heap.size, 2, none⟩) (by first | (simp; done) | (simp; omega) | omega)).trans (by first | with_reducible assumption | (simp [go_sem]; done) | (simp [go_sem, *]; done))
          have g4_2_2 : w4.frozen? ⟨w2.heap.size, 2, none⟩ = false := (b4.frozen (p := ⟨w2.heap.size, 2, none⟩) (by first | (simp; done) | (simp; omega) | omega)).trans (by first | with_reducible assumption | (simp [go_sem]; done) | (simp [go_sem, *]; done))
          have k4_2_3 : w4.cell? ⟨w2.heap.size, 3, none⟩ = some (.int .i64 (m3)) := (b4.cell (p := ⟨w2.heap.size, 3, none⟩) (by first | (simp; done) | (simp; omega) | omega)).trans (by first | with_reducible assumption | (simp [go_sem]; done) | (simp [go_sem, *]; done))
          have g4_2_3 : w4.frozen? ⟨w2.heap.size, 3, none⟩ = false := (b4.frozen (p := ⟨w2.heap.size, 3, none⟩) (by first | (simp; done) | (simp; omega) | omega)).trans (by first | with_reducible assumption | (simp [go_sem]; done) | (simp [go_sem, *]; done))
          have z4_3 : w3.heap.size < w4.heap.size := by omega
          have k4_3_0 : w4.cell? ⟨w3.heap.size, 0, none⟩ = some (.int .i64 (m0)) := (b4.cell (p := ⟨w3.heap.size, 0, none⟩) (by first | (simp; done) | (simp; omega) | omega)).trans (by first | with_reducible assumption | (simp [go_sem]; done) | (simp [go_sem, *]; done))
          have g4_3_0 : w4.frozen? ⟨w3.heap.size, 0, none⟩ = false := (b4.frozen (p := ⟨w3.heap.size, 0, none⟩) (by first | (simp; done) | (simp; omega) | omega)).trans (by first | with_reducible assumption | (simp [go_sem]; done) | (simp [go_sem, *]; done))
          have k4_3_1 : w4.cell? ⟨w3.heap.size, 1, none⟩ = some (.int .i64 (m1)) := (b4.cell (p := ⟨w3.heap.size, 1, none⟩) (by first | (simp; done) | (simp; omega) | omega)).trans (by first | with_reducible assumption | (simp [go_sem]; done) | (simp [go_sem, *]; done))
          have g4_3_1 : w4.frozen? ⟨w3.heap.size, 1, none⟩ = false := (b4.frozen (p := ⟨w3.heap.size, 1, none⟩) (by first | (simp; done) | (simp; omega) | omega)).trans (by first | with_reducible assumption | (simp [go_sem]; done) | (simp [go_sem, *]; done))
          have k4_3_2 : w4.cell? ⟨w3.heap.size, 2, none⟩ = some (.int .i64 (m2)) := (b4.cell (p := ⟨w3.heap.size, 2, none⟩) (by first | (simp; done) | (simp; omega) | omega)).trans (by first | with_reducible assumption | (simp [go_sem]; done) | (simp [go_sem, *]; done))
          have g4_3_2 : w4.frozen? ⟨w3.heap.size, 2, none⟩ = false := (b4.frozen (p := ⟨w3.heap.size, 2, none⟩) (by first | (simp; done) | (simp; omega) | omega)).trans (by first | with_reducible assumption | (simp [go_sem]; done) | (simp [go_sem, *]; done))
          have k4_3_3 : w4.cell? ⟨w3.heap.size, 3, none⟩ = some (.int .i64 (m3)) := (b4.cell (p := ⟨w3.heap.size, 3, none⟩) (by first | (simp; done) | (simp; omega) | omega)).trans (by first | with_reducible assumption | (simp [go_sem]; done) | (simp [go_sem, *]; done))
          have g4_3_3 : w4.frozen? ⟨w3.heap.size, 3, none⟩ = false := (b4.frozen (p := ⟨w3.heap.size, 3, none⟩) (by first | (simp; done) | (simp; omega) | omega)).trans (by first | with_reducible assumption | (simp [go_sem]; done) | (simp [go_sem, *]; done))
          have z4_4 : w3.heap.size + 1 < w4.heap.size := by omega
          have k4_4_0 : w4.cell? ⟨w3.heap.size + 1, 0, none⟩ = some (.int .i64 ((n2 : Int) % 9 - 4)) := (b4.cell (p := ⟨w3.heap.size + 1, 0, none⟩) (by first | (simp; done) | (simp; omega) | omega)).trans (by first | with_reducible assumption | (simp [go_sem]; done) | (simp [go_sem, *]; done))
          have g4_4_0 : w4.frozen? ⟨w3.heap.size + 1, 0, none⟩ = false := (b4.frozen (p := ⟨w3.heap.size + 1, 0, none⟩) (by first | (simp; done) | (simp; omega) | omega)).trans (by first | with_reducible assumption | (simp [go_sem]; done) | (simp [go_sem, *]; done))
          have k4_4_1 : w4.cell? ⟨w3.heap.size + 1, 1, none⟩ = some (.int .i64 ((n2 : Int) / 9 % 9 - 4)) := (b4.cell (p := ⟨w3.heap.size + 1, 1, none⟩) (by first | (simp; done) | (simp; omega) | omega)).trans (by first | with_reducible assumption | (simp [go_sem]; done) | (simp [go_sem, *]; done))
          have g4_4_1 : w4.frozen? ⟨w3.heap.size + 1, 1, none⟩ = false := (b4.frozen (p := ⟨w3.heap.size + 1, 1, none⟩) (by first | (simp; done) | (simp; omega) | omega)).trans (by first | with_reducible assumption | (simp [go_sem]; done) | (simp [go_sem, *]; done))
          clear k3_0_0 g3_0_0 k3_0_1 g3_0_1 k3_0_2 g3_0_2 k3_0_3 g3_0_3 k3_1_0 g3_1_0 k3_1_1 g3_1_1 k3_1_2 g3_1_2 k3_1_3 g3_1_3 k3_2_0 g3_2_0 k3_2_1 g3_2_1 k3_2_2 g3_2_2 k3_2_3 g3_2_3
          clear hv1
          go_wp2_with fail
          refine (impl_MapPoints_nil x y z u _ HHA.out).mono ?_
          rintro e w5 ⟨⟨y1, rfl⟩, b5⟩
          have s5 := b5.size
          try simp at s5
          have z5_0 : w1.heap.size < w5.heap.size := by omega
          have k5_0_0 : w5.cell? ⟨w1.heap.size, 0, none⟩ = some (.int .i64 (x)) := (b5.cell (p := ⟨w1.heap.size, 0, none⟩) (by first | (simp; done) | (simp; omega) | omega)).trans (by first | with_reducible assumption | (simp [go_sem]; done) | (simp [go_sem, *]; done))
          have g5_0_0 : w5.frozen? ⟨w1.heap.size, 0, none⟩ = false := (b5.frozen (p := ⟨w1.heap.size, 0, none⟩) (by first | (simp; done) | (simp; omega) | omega)).trans (by first | with_reducible assumption | (simp [go_sem]; done) | (simp [go_sem, *]; done))
          have k5_0_1 : w5.cell? ⟨w1.heap.size, 1, none⟩ = some (.int .i64 (y)) := (b5.cell (p := ⟨w1.heap.size, 1, none⟩) (by first | (simp; done) | (simp; omega) | omega)).trans (by first | with_reducible assumption | (simp [go_sem]; done) | (simp [go_sem, *]; done))
          have g5_0_1 : w5.frozen? ⟨w1.heap.size, 1, none⟩ = false := (b5.frozen (p := ⟨w1.heap.size, 1, none⟩) (by first | (simp; done) | (simp; omega) | omega)).trans (by first | with_reducible assumption | (simp [go_sem]; done) | (simp [go_sem, *]; done))
          have k5_0_2 : w5.cell? ⟨w1.heap.size, 2, none⟩ = some (.int .i64 (z)) := (b5.cell (p := ⟨w1.heap.size, 2, none⟩) (by first | (simp; done) | (simp; omega) | omega)).trans (by first | with_reducible assumption | (simp [go_sem]; done) | (simp [go_sem, *]; done))
          have g5_0_2 : w5.frozen? ⟨w1.heap.size, 2, none⟩ = false := (b5.frozen (p := ⟨w1.heap.size, 2, none⟩) (by first | (simp; done) | (simp; omega) | omega)).trans (by first | with_reducible assumption | (simp [go_sem]; done) | (simp [go_sem, *]; done))
          have k5_0_3 : w5.cell? ⟨w1.heap.size, 3, none⟩ = some (.int .i64 (u)) := (b5.cell (p := ⟨w1.heap.size, 3, none⟩) (by first | (simp; done) | (simp; omega) | omega)).trans (by first | with_reducible assumption | (simp [go_sem]; done) | (simp [go_sem, *]; done))
          have g5_0_3 : w5.frozen? ⟨w1.heap.size, 3, none⟩ = false := (b5.frozen (p := ⟨w1.heap.size, 3, none⟩) (by first | (simp; done) | (simp; omega) | omega)).trans (by first | with_reducible assumption | (simp [go_sem]; done) | (simp [go_sem, *]; done))
          have z5_1 : w1.heap.size + 1 < w5.heap.size := by omega
          have k5_1_0 : w5.cell? ⟨w1.heap.size + 1, 0, none⟩ = some (.int .i64 (p)) := (b5.cell (p := ⟨w1.heap.size + 1, 0, none⟩) (by first | (simp; done) | (simp; omega) | omega)).trans (by first | with_reducible assumption | (simp [go_sem]; done) | (simp [go_sem, *]; done))
          have g5_1_0 : w5.frozen? ⟨w1.heap.size + 1, 0, none⟩ = false := (b5.frozen (p := ⟨w1.heap.size + 1, 0, none⟩) (by first | (simp; done) | (simp; omega) | omega)).trans (by first | with_reducible assumption | (simp [go_sem]; done) | (simp [go_sem, *]; done))
          have k5_1_1 : w5.cell? ⟨w1.heap.size + 1, 1, none⟩ = some (.int .i64 (q)) := (b5.cell (p := ⟨w1.heap.size + 1, 1, none⟩) (by first | (simp; done) | (simp; omega) | omega)).trans (by first | with_reducible assumption | (simp [go_sem]; done) | (simp [go_sem, *]; done))
          have g5_1_1 : w5.frozen? ⟨w1.heap.size + 1, 1, none⟩ = false := (b5.frozen (p := ⟨w1.heap.size + 1, 1, none⟩) (by first | (simp; done) | (simp; omega) | omega)).trans (by first | with_reducible assumption | (simp [go_sem]; done) | (simp [go_sem, *]; done))
          have k5_1_2 : w5.cell? ⟨w1.heap.size + 1, 2, none⟩ = some (.int .i64 (r)) := (b5.cell (p := ⟨w1.heap.size + 1, 2, none⟩) (by first | (simp; done) | (simp; omega) | omega)).trans (by first | with_reducible assumption | (simp [go_sem]; done) | (simp [go_sem, *]; done))
          have g5_1_2 : w5.frozen? ⟨w1.heap.size + 1, 2, none⟩ = false := (b5.frozen (p := ⟨w1.heap.size + 1, 2, none⟩) (by first | (simp; done) | (simp; omega) | omega)).trans (by first | with_reducible assumption | (simp [go_sem]; done) | (simp [go_sem, *]; done))
          have k5_1_3 : w5.cell? ⟨w1.heap.size + 1, 3, none⟩ = some (.int .i64 (s)) := (b5.cell (p := ⟨w1.heap.size + 1, 3, none⟩) (by first | (simp; done) | (simp; omega) | omega)).trans (by first | with_reducible assumption | (simp [go_sem]; done) | (simp [go_sem, *]; done))
          have g5_1_3 : w5.frozen? ⟨w1.heap.size + 1, 3, none⟩ = false := (b5.frozen (p := ⟨w1.heap.size + 1, 3, none⟩) (by first | (simp; done) | (simp; omega) | omega)).trans (by first | with_reducible assumption | (simp [go_sem]; done) | (simp [go_sem, *]; done))
          have z5_2 : w2.heap.size < w5.heap.size := by omega
          have k5_2_0 : w5.cell? ⟨w2.heap.size, 0, none⟩ = some (.int .i64 (m0)) := (b5.cell (p := ⟨w2.heap.size, 0, none⟩) (by first | (simp; done) | (simp; omega) | omega)).trans (by first | with_reducible assumption | (simp [go_sem]; done) | (simp [go_sem, *]; done))
          have g5_2_0 : w5.frozen? ⟨w2.heap.size, 0, none⟩ = false := (b5.frozen (p := ⟨w2.heap.size, 0, none⟩) (by first | (simp; done) | (simp; omega) | omega)).trans (by first | with_reducible assumption | (simp [go_sem]; done) | (simp [go_sem, *]; done))
          have k5_2_1 : w5.cell? ⟨w2.heap.size, 1, none⟩ = some (.int .i64 (m1)) := (b5.cell (p := ⟨w2.heap.size, 1, none⟩) (by first | (simp; done) | (simp; omega) | omega)).trans (by first | with_reducible assumption | (simp [go_sem]; done) | (simp [go_sem, *]; done))
          have g5_2_1 : w5.frozen? ⟨w2.heap.size, 1, none⟩ = false := (b5.frozen (p := ⟨w2.heap.size, 1, none⟩) (by first | (simp; done) | (simp; omega) | omega)).trans (by first | with_reducible assumption | (simp [go_sem]; done) | (simp [go_sem, *]; done))
          have k5_2_2 : w5.cell? ⟨w2.heap.size, 2, none⟩ = some (.int .i64 (m2)) := (b5.cell (p := ⟨w2.heap.size, 2, none⟩) (by first | (simp; done) | (simp; omega) | omega)).trans (by first | with_reducible assumption | (simp [go_sem]; done) | (simp [go_sem, *]; done))
          have g5_2_2 : w5.frozen? ⟨w2.heap.size, 2, none⟩ = false := (b5.frozen (p := ⟨w2.heap.size, 2, none⟩) (by first | (simp; done) | (simp; omega) | omega)).trans (by first | with_reducible assumption | (simp [go_sem]; done) | (simp [go_sem, *]; done))
          have k5_2_3 : w5.cell? ⟨w2.heap.size, 3, none⟩ = some (.int .i64 (m3)) := (b5.cell (p := ⟨w2.heap.size, 3, none⟩) (by first | (simp; done) | (simp; omega) | omega)).trans (by first | with_reducible assumption | (simp [go_sem]; done) | (simp [go_sem, *]; done))
          have g5_2_3 : w5.frozen? ⟨w2.heap.size, 3, none⟩ = false := (b5.frozen (p := ⟨w2.heap.size, 3, none⟩) (by first | (simp; done) | (simp; omega) | omega)).trans (by first | with_reducible assumption | (simp [go_sem]; done) | (simp [go_sem, *]; done))
          have z5_3 : w3.heap.size < w5.heap.size := by omega
          have k5_3_0 : w5.cell? ⟨w3.heap.size, 0, none⟩ = some (.int .i64 (m0)) := (b5.cell (p := ⟨w3.heap.size, 0, none⟩) (by first | (simp; done) | (simp; omega) | omega)).trans (by first | with_reducible assumption | (simp [go_sem]; done) | (simp [go_sem, *]; done))
          have g5_3_0 : w5.frozen? ⟨w3.heap.size, 0, none⟩ = false := (b5.frozen (p := ⟨w3.heap.size, 0, none⟩) (by first | (simp; done) | (simp; omega) | omega)).trans (by first | with_reducible assumption | (simp [go_sem]; done) | (simp [go_sem, *]; done))
          have k5_3_1 : w5.cell? ⟨w3.heap.size, 1, none⟩ = some (.int .i64 (m1)) := (b5.cell (p := ⟨w3.heap.size, 1, none⟩) (by first | (simp; done) | (simp; omega) | omega)).trans (by first | with_reducible assumption | (simp [go_sem]; done) | (simp [go_sem, *]; done))
          have g5_3_1 : w5.frozen? ⟨w3.heap.size, 1, none⟩ = false := (b5.frozen (p := ⟨w3.heap.size, 1, none⟩) (by first | (simp; done) | (simp; omega) | omega)).trans (by first | with_reducible assumption | (simp [go_sem]; done) | (simp [go_sem, *]; done))
          have k5_3_2 : w5.cell? ⟨w3.heap.size, 2, none⟩ = some (.int .i64 (m2)) := (b5.cell (p := ⟨w3.heap.size, 2, none⟩) (by first | (simp; done) | (simp; omega) | omega)).trans (by first | with_reducible assumption | (simp [go_sem]; done) | (simp [go_sem, *]; done))
          have g5_3_2 : w5.frozen? ⟨w3.heap.size, 2, none⟩ = false := (b5.frozen (p := ⟨w3.heap.size, 2, none⟩) (by first | (simp; done) | (simp; omega) | omega)).trans (by first | with_reducible assumption | (simp [go_sem]; done) | (simp [go_sem, *]; done))
          have k5_3_3 : w5.cell? ⟨w3.heap.size, 3, none⟩ = some (.int .i64 (m3)) := (b5.cell (p := ⟨w3.heap.size, 3, none⟩) (by first | (simp; done) | (simp; omega) | omega)).trans (by first | with_reducible assumption | (simp [go_sem]; done) | (simp [go_sem, *]; done))
          have g5_3_3 : w5.frozen? ⟨w3.heap.size, 3, none⟩ = false := (b5.frozen (p := ⟨w3.heap.size, 3, none⟩) (by first | (simp; done) | (simp; omega) | omega)).trans (by first | with_reducible assumption | (simp [go_sem]; done) | (simp [go_sem, *]; done))
          have z5_4 : w3.heap.size + 1 < w5.heap.size := by omega
          have k5_4_0 : w5.cell? ⟨w3.heap.size + 1, 0, none⟩ = some (.int .i64 ((n2 : Int) % 9 - 4)) := (b5.cell (p := ⟨w3.heap.size + 1, 0, none⟩) (by first | (simp; done) | (simp; omega) | omega)).trans (by first | with_reducible assumption | (simp [go_sem]; done) | (simp [go_sem, *]; done))
          have g5_4_0 : w5.frozen? ⟨w3.heap.size + 1, 0, none⟩ = false := (b5.frozen (p := ⟨w3.heap.size + 1, 0, none⟩) (by first | (simp; done) | (simp; omega) | omega)).trans (by first | with_reducible assumption | (simp [go_sem]; done) | (simp [go_sem, *]; done))
          have k5_4_1 : w5.cell? ⟨w3.heap.size + 1, 1, none⟩ = some (.int .i64 ((n2 : Int) / 9 % 9 - 4)) := (b5.cell (p := ⟨w3.heap.size + 1, 1, none⟩) (by first | (simp; done) | (simp; omega) | omega)).trans (by first | with_reducible assumption | (simp [go_sem]; done) | (simp [go_sem, *]; done))
          have g5_4_1 : w5.frozen? ⟨w3.heap.size + 1, 1, none⟩ = false := (b5.frozen (p := ⟨w3.heap.size + 1, 1, none⟩) (by first | (simp; done) | (simp; omega) | omega)).trans (by first | with_reducible assumption | (simp [go_sem]; done) | (simp [go_sem, *]; done))
          clear k4_0_0 g4_0_0 k4_0_1 g4_0_1 k4_0_2 g4_0_2 k4_0_3 g4_0_3 k4_1_0 g4_1_0 k4_1_1 g4_1_1 k4_1_2 g4_1_2 k4_1_3 g4_1_3 k4_2_0 g4_2_0 k4_2_1 g4_2_1 k4_2_2 g4_2_2 k4_2_3 g4_2_3 k4_3_0 g4_3_0 k4_3_1 g4_3_1 k4_3_2 g4_3_2 k4_3_3 g4_3_3 k4_4_0 g4_4_0 k4_4_1 g4_4_1
          go_wp2_with fail
          refine (impl_MapPoints (w3.heap.size + 1) 0 1 1 ([((n2 : Int) % 9 - 4, (n2 : Int) / 9 % 9 - 4)]) m0 m1 m2 m3 _ (by omega) rfl (by first | omega | (simp; done) | (simp; omega)) (one_row (by first | with_reducible assumption | (simp [go_sem]; done) | (simp [go_sem, *]; done)) (by first | with_reducible assumption | (simp [go_sem]; done) | (simp [go_sem, *]; done))) HHM.out hl.out).mono ?_
          rintro e w6 ⟨⟨hv3, z1, rfl, gz, lz, rz⟩ | ⟨hv3, rfl⟩, b6⟩
          ·
            have s6 := b6.size
            try simp at s6
            have z6_0 : w1.heap.size < w6.heap.size := by omega
            have k6_0_0 : w6.cell? ⟨w1.heap.size, 0, none⟩ = some (.int .i64 (x)) := (b6.cell (p := ⟨w1.heap.size, 0, none⟩) (by first | (simp; done) | (simp; omega) | omega)).trans (by first | with_reducible assumption | (simp [go_sem]; done) | (simp [go_sem, *]; done))
            have g6_0_0 : w6.frozen? ⟨w1.heap.size, 0, none⟩ = false := (b6.frozen (p := ⟨w1.heap.size, 0, none⟩) (by first | (simp; done) | (simp; omega) | omega)).trans (by first | with_reducible assumption | (simp [go_sem]; done) | (simp [go_sem, *]; done))
            have k6_0_1 : w6.cell? ⟨w1.heap.size, 1, none⟩ = some (.int .i64 (y)) := (b6.cell (p := ⟨w1.heap.size, 1, none⟩) (by first | (simp; done) | (simp; omega) | omega)).trans (by first | with_reducible assumption | (simp [go_sem]; done) | (simp [go_sem, *]; done))
            have g6_0_1 : w6.frozen? ⟨w1.heap.size, 1, none⟩ = false := (b6.frozen (p := ⟨w1.heap.size, 1, none⟩) (by first | (simp; done) | (simp; omega) | omega)).trans (by first | with_reducible assumption | (simp [go_sem]; done) | (simp [go_sem, *]; done))
            have k6_0_2 : w6.cell? ⟨w1.heap.size, 2, none⟩ = some (.int .i64 (z)) := (b6.cell (p := ⟨w1.heap.size, 2, none⟩) (by first | (simp; done) | (simp; omega) | omega)).trans (by first | with_reducible assumption | (simp [go_sem]; done) | (simp [go_sem, *]; done))
            have g6_0_2 : w6.frozen? ⟨w1.heap.size, 2, none⟩ = false := (b6.frozen (p := ⟨w1.heap.size, 2, none⟩) (by first | (simp; done) | (simp; omega) | omega)).trans (by first | with_reducible assumption | (simp [go_sem]; done) | (simp [go_sem, *]; done))
            have k6_0_3 : w6.cell? ⟨w1.heap.size, 3, none⟩ = some (.int .i64 (u)) := (b6.cell (p := ⟨w1.heap.size, 3, none⟩) (by first | (simp; done) | (simp; omega) | omega)).trans (by first | with_reducible assumption | (simp [go_sem]; done) | (simp [go_sem, *]; done))
            have g6_0_3 : w6.frozen? ⟨w1.heap.size, 3, none⟩ = false := (b6.frozen (p := ⟨w1.heap.size, 3, none⟩) (by first | (simp; done) | (simp; omega) | omega)).trans (by first | with_reducible assumption | (simp [go_sem]; done) | (simp [go_sem, *]; done))
            have z6_1 : w1.heap.size + 1 < w6.heap.size := by omega
            have k6_1_0 : w6.cell? ⟨w1.heap.size + 1, 0, none⟩ = some (.int .i64 (p)) := (b6.cell (p := ⟨w1.heap.size + 1, 0, none⟩) (by first | (simp; done) | (simp; omega) | omega)).trans (by first | with_reducible assumption | (simp [go_sem]; done) | (simp [go_sem, *]; done))
            have g6_1_0 : w6.frozen? ⟨w1.heap.size + 1, 0, none⟩ = false := (b6.frozen (p := ⟨w1.heap.size + 1, 0, none⟩) (by first | (simp; done) | (simp; omega) | omega)).trans (by first | with_reducible assumption | (simp [go_sem]; done) | (simp [go_sem, *]; done))
            have k6_1_1 : w6.cell? ⟨w1.heap.size + 1, 1, none⟩ = some (.int .i64 (q)) := (b6.cell (p := ⟨w1.heap.size + 1, 1, none⟩) (by first | (simp; done) | (simp; omega) | omega)).trans (by first | with_reducible assumption | (simp [go_sem]; done) | (simp [go_sem, *]; done))
            have g6_1_1 : w6.frozen? ⟨w1.heap.size + 1, 1, none⟩ = false := (b6.frozen (p := ⟨w1.heap.size + 1, 1, none⟩) (by first | (simp; done) | (simp; omega) | omega)).trans (by first | with_reducible assumption | (simp [go_sem]; done) | (simp [go_sem, *]; done))
            have k6_1_2 : w6.cell? ⟨w1.heap.size + 1, 2, none⟩ = some (.int .i64 (r)) := (b6.cell (p := ⟨w1.heap.size + 1, 2, none⟩) (by first | (simp; done) | (simp; omega) | omega)).trans (by first | with_reducible assumption | (simp [go_sem]; done) | (simp [go_sem, *]; done))
            have g6_1_2 : w6.frozen? ⟨w1.heap.size + 1, 2, none⟩ = false := (b6.frozen (p := ⟨w1.heap.size + 1, 2, none⟩) (by first | (simp; done) | (simp; omega) | omega)).trans (by first | with_reducible assumption | (simp [go_sem]; done) | (simp [go_sem, *]; done))
            have k6_1_3 : w6.cell? ⟨w1.heap.size + 1, 3, none⟩ = some (.int .i64 (s)) := (b6.cell (p := ⟨w1.heap.size + 1, 3, none⟩) (by first | (simp; done) | (simp; omega) | omega)).trans (by first | with_reducible assumption | (simp [go_sem]; done) | (simp [go_sem, *]; done))
            have g6_1_3 : w6.frozen? ⟨w1.heap.size + 1, 3, none⟩ = false := (b6.frozen (p := ⟨w1.heap.size + 1, 3, none⟩) (by first | (simp; done) | (simp; omega) | omega)).trans (by first | with_reducible assumption | (simp [go_sem]; done) | (simp [go_sem, *]; done))
            have z6_2 : w2.heap.size < w6.heap.size := by omega
            have k6_2_0 : w6.cell? ⟨w2.heap.size, 0, none⟩ = some (.int .i64 (m0)) := (b6.cell (p := ⟨w2.heap.size, 0, none⟩) (by first | (simp; done) | (simp; omega) | omega)).trans (by first | with_reducible assumption | (simp [go_sem]; done) | (simp [go_sem, *]; done))
            have g6_2_0 : w6.frozen? ⟨w2.heap.size, 0, none⟩ = false := (b6.frozen (p := ⟨w2.heap.size, 0, none⟩) (by first | (simp; done) | (simp; omega) | omega)).trans (by first | with_reducible assumption | (simp [go_sem]; done) | (simp [go_sem, *]; done))
            have k6_2_1 : w6.cell? ⟨w2.heap.size, 1, none⟩ = some (.int .i64 (m1)) := (b6.cell (p := ⟨w2.heap.size, 1, none⟩) (by first | (simp; done) | (simp; omega) | omega)).trans (by first | with_reducible assumption | (simp [go_sem]; done) | (simp [go_sem, *]; done))
            have g6_2_1 : w6.frozen? ⟨w2.heap.size, 1, none⟩ = false := (b6.frozen (p := ⟨w2.heap.size, 1, none⟩) (by first | (simp; done) | (simp; omega) | omega)).trans (by first | with_reducible assumption | (simp [go_sem]; done) | (simp [go_sem, *]; done))
            have k6_2_2 : w6.cell? ⟨w2.heap.size, 2, none⟩ = some (.int .i64 (m2)) := (b6.cell (p := ⟨w2.heap.size, 2, none⟩) (by first | (simp; done) | (simp; omega) | omega)).trans (by first | with_reducible assumption | (simp [go_sem]; done) | (simp [go_sem, *]; done))
            have g6_2_2 : w6.frozen? ⟨w2.heap.size, 2, none⟩ = false := (b6.frozen (p := ⟨w2.heap.size, 2, none⟩) (by first | (simp; done) | (simp; omega) | omega)).trans (by first | with_reducible assumption | (simp [go_sem]; done) | (simp [go_sem, *]; done))
            have k6_2_3 : w6.cell? ⟨w2.heap.size, 3, none⟩ = some (.int .i64 (m3)) := (b6.cell (p := ⟨w2.heap.size, 3, none⟩) (by first | (simp; done) | (simp; omega) | omega)).trans (by first | with_reducible assumption | (simp [go_sem]; done) | (simp [go_sem, *]; done))
            have g6_2_3 : w6.frozen? ⟨w2.heap.size, 3, none⟩ = false := (b6.frozen (p := ⟨w2.heap.size, 3, none⟩) (by first | (simp; done) | (simp; omega) | omega)).trans (by first | with_reducible assumption | (simp [go_sem]; done) | (simp [go_sem, *]; done))
            have z6_3 : w3.heap.size < w6.heap.size := by omega
            have k6_3_0 : w6.cell? ⟨w3.heap.size, 0, none⟩ = some (.int .i64 (m0)) := (b6.cell (p := ⟨w3.heap.size, 0, none⟩) (by first | (simp; done) | (simp; omega) | omega)).trans (by first | with_reducible assumption | (simp [go_sem]; done) | (simp [go_sem, *]; done))
            have g6_3_0 : w6.frozen? ⟨w3.heap.size, 0, none⟩ = false := (b6.frozen (p := ⟨w3.heap.size, 0, none⟩) (by first | (simp; done) | (simp; omega) | omega)).trans (by first | with_reducible assumption | (simp [go_sem]; done) | (simp [go_sem, *]; done))
            have k6_3_1 : w6.cell? ⟨w3.heap.size, 1, none⟩ = some (.int .i64 (m1)) := (b6.cell (p := ⟨w3.heap.size, 1, none⟩) (by first | (simp; done) | (simp; omega) | omega)).trans (by first | with_reducible assumption | (simp [go_sem]; done) | (simp [go_sem, *]; done))
            have g6_3_1 : w6.frozen? ⟨w3.heap.size, 1, none⟩ = false := (b6.frozen (p := ⟨w3.heap.size, 1, none⟩) (by first | (simp; done) | (simp; omega) | omega)).trans (by first | with_reducible assumption | (simp [go_sem]; done) | (simp [go_sem, *]; done))
            have k6_3_2 : w6.cell? ⟨w3.heap.size, 2, none⟩ = some (.int .i64 (m2)) := (b6.cell (p := ⟨w3.heap.size, 2, none⟩) (by first | (simp; done) | (simp; omega) | omega)).trans (by first | with_reducible assumption | (simp [go_sem]; done) | (simp [go_sem, *]; done))
            have g6_3_2 : w6.frozen? ⟨w3.heap.size, 2, none⟩ = false := (b6.frozen (p := ⟨w3.heap.size, 2, none⟩) (by first | (simp; done) | (simp; omega) | omega)).trans (by first | with_reducible assumption | (simp [go_sem]; done) | (simp [go_sem, *]; done))
            have k6_3_3 : w6.cell? ⟨w3.heap.size, 3, none⟩ = some (.int .i64 (m3)) := (b6.cell (p := ⟨w3.heap.size, 3, none⟩) (by first | (simp; done) | (simp; omega) | omega)).trans (by first | with_reducible assumption | (simp [go_sem]; done) | (simp [go_sem, *]; done))
            have g6_3_3 : w6.frozen? ⟨w3.heap.size, 3, none⟩ = false := (b6.frozen (p := ⟨w3.heap.size, 3, none⟩) (by first | (simp; done) | (simp; omega) | omega)).trans (by first | with_reducible assumption | (simp [go_sem]; done) | (simp [go_sem, *]; done))
            have z6_4 : w3.heap.size + 1 < w6.heap.size := by omega
            have k6_4_0 : w6.cell? ⟨w3.heap.size + 1, 0, none⟩ = some (.int .i64 ((n2 : Int) % 9 - 4)) := (b6.cell (p := ⟨w3.heap.size + 1, 0, none⟩) (by first | (simp; done) | (simp; omega) | omega)).trans (by first | with_reducible assumption | (simp [go_sem]; done) | (simp [go_sem, *]; done))
            have g6_4_0 : w6.frozen? ⟨w3.heap.size + 1, 0, none⟩ = false := (b6.frozen (p := ⟨w3.heap.size + 1, 0, none⟩) (by first | (simp; done) | (simp; omega) | omega)).trans (by first | with_reducible assumption | (simp [go_sem]; done) | (simp [go_sem, *]; done))
            have k6_4_1 : w6.cell? ⟨w3.heap.size + 1, 1, none⟩ = some (.int .i64 ((n2 : Int) / 9 % 9 - 4)) := (b6.cell (p := ⟨w3.heap.size + 1, 1, none⟩) (by first | (simp; done) | (simp; omega) | omega)).trans (by first | with_reducible assumption | (simp [go_sem]; done) | (simp [go_sem, *]; done))
            have g6_4_1 : w6.frozen? ⟨w3.heap.size + 1, 1, none⟩ = false := (b6.frozen (p := ⟨w3.heap.size + 1, 1, none⟩) (by first | (simp; done) | (simp; omega) | omega)).trans (by first | with_reducible assumption | (simp [go_sem]; done) | (simp [go_sem, *]; done))
            clear k5_0_0 g5_0_0 k5_0_1 g5_0_1 k5_0_2 g5_0_2 k5_0_3 g5_0_3 k5_1_0 g5_1_0 k5_1_1 g5_1_1 k5_1_2 g5_1_2 k5_1_3 g5_1_3 k5_2_0 g5_2_0 k5_2_1 g5_2_1 k5_2_2 g5_2_2 k5_2_3 g5_2_3 k5_3_0 g5_3_0 k5_3_1 g5_3_1 k5_3_2 g5_3_2 k5_3_3 g5_3_3 k5_4_0 g5_4_0 k5_4_1 g5_4_1
            clear hv3
            go_wp2
            go_ret
            exact ⟨rfl, (by (repeat (first | with_reducible exact Below.refl _ _ | with_reducible refine bl_alloc ?_ _ | with_reducible refine bl_drew ?_ | with_reducible refine bl_set ?_ (by first | (simp; done) | (simp; omega)) _ | with_reducible refine bl_call (by assumption) ?_)))⟩
          ·
            have s6 := b6.size
            try simp at s6
            have z6_0 : w1.heap.size < w6.heap.size := by omega
            have k6_0_0 : w6.cell? ⟨w1.heap.size, 0, none⟩ = some (.int .i64 (x)) := (b6.cell (p := ⟨w1.heap.size, 0, none⟩) (by first | (simp; done) | (simp; omega) | omega)).trans (by first | with_reducible assumption | (simp [go_sem]; done) | (simp [go_sem, *]; done))
            have g6_0_0 : w6.frozen? ⟨w1.heap.size, 0, none⟩ = false := (b6.frozen (p := ⟨w1.heap.size, 0, none⟩) (by first | (simp; done) | (simp; omega) | omega)).trans (by first | with_reducible assumption | (simp [go_sem]; done) | (simp [go_sem, *]; done))
            have k6_0_1 : w6.cell? ⟨w1.heap.size, 1, none⟩ = some (.int .i64 (y)) := (b6.cell (p := ⟨w1.heap.size, 1, none⟩) (by first | (simp; done) | (simp; omega) | omega)).trans (by first | with_reducible assumption | (simp [go_sem]; done) | (simp [go_sem, *]; done))
            have g6_0_1 : w6.frozen? ⟨w1.heap.size, 1, none⟩ = false := (b6.frozen (p := ⟨w1.heap.size, 1, none⟩) (by first | (simp; done) | (simp; omega) | omega)).trans (by first | with_reducible assumption | (simp [go_sem]; done) | (simp [go_sem, *]; done))
            have k6_0_2 : w6.cell? ⟨w1.heap.size, 2, none⟩ = some (.int .i64 (z)) := (b6.cell (p := ⟨w1.heap.size, 2, none⟩) (by first | (simp; done) | (simp; omega) | omega)).trans (by first | with_reducible assumption | (simp [go_sem]; done) | (simp [go_sem, *]; done))
            have g6_0_2 : w6.frozen? ⟨w1.heap.size, 2, none⟩ = false := (b6.frozen (p := ⟨w1.heap.size, 2, none⟩) (by first | (simp; done) | (simp; omega) | omega)).trans (by first | with_reducible assumption | (simp [go_sem]; done) | (simp [go_sem, *]; done))
            have k6_0_3 : w6.cell? ⟨w1.heap.size, 3, none⟩ = some (.int .i64 (u)) := (b6.cell (p := ⟨w1.heap.size, 3, none⟩) (by first | (simp; done) | (simp; omega) | omega)).trans (by first | with_reducible assumption | (simp [go_sem]; done) | (simp [go_sem, *]; done))
            have g6_0_3 : w6.frozen? ⟨w1.heap.size, 3, none⟩ = false := (b6.frozen (p := ⟨w1.heap.size, 3, none⟩) (by first | (simp; done) | (simp; omega) | omega)).trans (by first | with_reducible assumption | (simp [go_sem]; done) | (simp [go_sem, *]; done))
            have z6_1 : w1.heap.size + 1 < w6.heap.size := by omega
            have k6_1_0 : w6.cell? ⟨w1.heap.size + 1, 0, none⟩ = some (.int .i64 (p)) := (b6.cell (p := ⟨w1.heap.size + 1, 0, none⟩) (by first | (simp; done) | (simp; omega) | omega)).trans (by first | with_reducible assumption | (simp [go_sem]; done) | (simp [go_sem, *]; done))
            have g6_1_0 : w6.frozen? ⟨w1.heap.size + 1, 0, none⟩ = false := (b6.frozen (p := ⟨w1.heap.size + 1, 0, none⟩) (by first | (simp; done) | (simp; omega) | omega)).trans (by first | with_reducible assumption | (simp [go_sem]; done) | (simp [go_sem, *]; done))
            have k6_1_1 : w6.cell? ⟨w1.heap.size + 1, 1, none⟩ = some (.int .i64 (q)) := (b6.cell (p := ⟨w1.heap.size + 1, 1, none⟩) (by first | (simp; done) | (simp; omega) | omega)).trans (by first | with_reducible assumption | (simp [go_sem]; done) | (simp [go_sem, *]; done))
            have g6_1_1 : w6.frozen? ⟨w1.heap.size + 1, 1, none⟩ = false := (b6.frozen (p := ⟨w1.heap.size + 1, 1, none⟩) (by first | (simp; done) | (simp; omega) | omega)).trans (by first | with_reducible assumption | (simp [go_sem]; done) | (simp [go_sem, *]; done))
            have k6_1_2 : w6.cell? ⟨w1.heap.size + 1, 2, none⟩ = some (.int .i64 (r)) := (b6.cell (p := ⟨w1.heap.size + 1, 2, none⟩) (by first | (simp; done) | (simp; omega) | omega)).trans (by first | with_reducible assumption | (simp [go_sem]; done) | (simp [go_sem, *]; done))
            have g6_1_2 : w6.frozen? ⟨w1.heap.size + 1, 2, none⟩ = false := (b6.frozen (p := ⟨w1.heap.size + 1, 2, none⟩) (by first | (simp; done) | (simp; omega) | omega)).trans (by first | with_reducible assumption | (simp [go_sem]; done) | (simp [go_sem, *]; done))
            have k6_1_3 : w6.cell? ⟨w1.heap.size + 1, 3, none⟩ = some (.int .i64 (s)) := (b6.cell (p := ⟨w1.heap.size + 1, 3, none⟩) (by first | (simp; done) | (simp; omega) | omega)).trans (by first | with_reducible assumption | (simp [go_sem]; done) | (simp [go_sem, *]; done))
            have g6_1_3 : w6.frozen? ⟨w1.heap.size + 1, 3, none⟩ = false := (b6.frozen (p := ⟨w1.heap.size + 1, 3, none⟩) (by first | (simp; done) | (simp; omega) | omega)).trans (by first | with_reducible assumption | (simp [go_sem]; done) | (simp [go_sem, *]; done))
            have z6_2 : w2.heap.size < w6.heap.size := by omega
            have k6_2_0 : w6.cell? ⟨w2.heap.size, 0, none⟩ = some (.int .i64 (m0)) := (b6.cell (p := ⟨w2.heap.size, 0, none⟩) (by first | (simp; done) | (simp; omega) | omega)).trans (by first | with_reducible assumption | (simp [go_sem]; done) | (simp [go_sem, *]; done))
            have g6_2_0 : w6.frozen? ⟨w2.heap.size, 0, none⟩ = false := (b6.frozen (p := ⟨w2.heap.size, 0, none⟩) (by first | (simp; done) | (simp; omega) | omega)).trans (by first | with_reducible assumption | (simp [go_sem]; done) | (simp [go_sem, *]; done))
            have k6_2_1 : w6.cell? ⟨w2.heap.size, 1, none⟩ = some (.int .i64 (m1)) := (b6.cell (p := ⟨w2.heap.size, 1, none⟩) (by first | (simp; done) | (simp; omega) | omega)).trans (by first | with_reducible assumption | (simp [go_sem]; done) | (simp [go_sem, *]; done))
            have g6_2_1 : w6.frozen? ⟨w2.heap.size, 1, none⟩ = false := (b6.frozen (p := ⟨w2.heap.size, 1, none⟩) (by first | (simp; done) | (simp; omega) | omega)).trans (by first | with_reducible assumption | (simp [go_sem]; done) | (simp [go_sem, *]; done))
            have k6_2_2 : w6.cell? ⟨w2.heap.size, 2, none⟩ = some (.int .i64 (m2)) := (b6.cell (p := ⟨w2.heap.size, 2, none⟩) (by first | (simp; done) | (simp; omega) | omega)).trans (by first | with_reducible assumption | (simp [go_sem]; done) | (simp [go_sem, *]; done))
            have g6_2_2 : w6.frozen? ⟨w2.heap.size, 2, none⟩ = false := (b6.frozen (p := ⟨w2.heap.size, 2, none⟩) (by first | (simp; done) | (simp; omega) | omega)).trans (by first | with_reducible assumption | (simp [go_sem]; done) | (simp [go_sem, *]; done))
            have k6_2_3 : w6.cell? ⟨w2.heap.size, 3, none⟩ = some (.int .i64 (m3)) := (b6.cell (p := ⟨w2.heap.size, 3, none⟩) (by first | (simp; done) | (simp; omega) | omega)).trans (by first | with_reducible assumption | (simp [go_sem]; done) | (simp [go_sem, *]; done))
            have g6_2_3 : w6.frozen? ⟨w2.heap.size, 3, none⟩ = false := (b6.frozen (p := ⟨w2.heap.size, 3, none⟩) (by first | (simp; done) | (simp; omega) | omega)).trans (by first | with_reducible assumption | (simp [go_sem]; done) | (simp [go_sem, *]; done))
            have z6_3 : w3.heap.size < w6.heap.size := by omega
            have k6_3_0 : w6.cell? ⟨w3.heap.size, 0, none⟩ = some (.int .i64 (m0)) := (b6.cell (p := ⟨w3.heap.size, 0, none⟩) (by first | (simp; done) | (simp; omega) | omega)).trans (by first | with_reducible assumption | (simp [go_sem]; done) | (simp [go_sem, *]; done))
            have g6_3_0 : w6.frozen? ⟨w3.heap.size, 0, none⟩ = false := (b6.frozen (p := ⟨w3.heap.size, 0, none⟩) (by first | (simp; done) | (simp; omega) | omega)).trans (by first | with_reducible assumption | (simp [go_sem]; done) | (simp [go_sem, *]; done))
            have k6_3_1 : w6.cell? ⟨w3.heap.size, 1, none⟩ = some (.int .i64 (m1)) := (b6.cell (p := ⟨w3.heap.size, 1, none⟩) (by first | (simp; done) | (simp; omega) | omega)).trans (by first | with_reducible assumption | (simp [go_sem]; done) | (simp [go_sem, *]; done))
            have g6_3_1 : w6.frozen? ⟨w3.heap.size, 1, none⟩ = false := (b6.frozen (p := ⟨w3.heap.size, 1, none⟩) (by first | (simp; done) | (simp; omega) | omega)).trans (by first | with_reducible assumption | (simp [go_sem]; done) | (simp [go_sem, *]; done))
            have k6_3_2 : w6.cell? ⟨w3.heap.size, 2, none⟩ = some (.int .i64 (m2)) := (b6.cell (p := ⟨w3.heap.size, 2, none⟩) (by first | (simp; done) | (simp; omega) | omega)).trans (by first | with_reducible assumption | (simp [go_sem]; done) | (simp [go_sem, *]; done))
            have g6_3_2 : w6.frozen? ⟨w3.heap.size, 2, none⟩ = false := (b6.frozen (p := ⟨w3.heap.size, 2, none⟩) (by first | (simp; done) | (simp; omega) | omega)).trans (by first | with_reducible assumption | (simp [go_sem]; done) | (simp [go_sem, *]; done))
            have k6_3_3 : w6.cell? ⟨w3.heap.size, 3, none⟩ = some (.int .i64 (m3)) := (b6.cell (p := ⟨w3.heap.size, 3, none⟩) (by first | (simp; done) | (simp; omega) | omega)).trans (by first | with_reducible assumption | (simp [go_sem]; done) | (simp [go_sem, *]; done))
            have g6_3_3 : w6.frozen? ⟨w3.heap.size, 3, none⟩ = false := (b6.frozen (p := ⟨w3.heap.size, 3, none⟩) (by first | (simp; done) | (simp; omega) | omega)).trans (by first | with_reducible assumption | (simp [go_sem]; done) | (simp [go_sem, *]; done))
            have z6_4 : w3.heap.size + 1 < w6.heap.size := by omega
            have k6_4_0 : w6.cell? ⟨w3.heap.size + 1, 0, none⟩ = some (.int .i64 ((n2 : Int) % 9 - 4)) := (b6.cell (p := ⟨w3.heap.size + 1, 0, none⟩) (by first | (simp; done) | (simp; omega) | omega)).trans (by first | with_reducible assumption | (simp [go_sem]; done) | (simp [go_sem, *]; done))
            have g6_4_0 : w6.frozen? ⟨w3.heap.size + 1, 0, none⟩ = false := (b6.frozen (p := ⟨w3.heap.size + 1, 0, none⟩) (by first | (simp; done) | (simp; omega) | omega)).trans (by first | with_reducible assumption | (simp [go_sem]; done) | (simp [go_sem, *]; done))
            have k6_4_1 : w6.cell? ⟨w3.heap.size + 1, 1, none⟩ = some (.int .i64 ((n2 : Int) / 9 % 9 - 4)) := (b6.cell (p := ⟨w3.heap.size + 1, 1, none⟩) (by first | (simp; done) | (simp; omega) | omega)).trans (by first | with_reducible assumption | (simp [go_sem]; done) | (simp [go_sem, *]; done))
            have g6_4_1 : w6.frozen? ⟨w3.heap.size + 1, 1, none⟩ = false := (b6.frozen (p := ⟨w3.heap.size + 1, 1, none⟩) (by first | (simp; done) | (simp; omega) | omega)).trans (by first | with_reducible assumption | (simp [go_sem]; done) | (simp [go_sem, *]; done))
            clear k5_0_0 g5_0_0 k5_0_1 g5_0_1 k5_0_2 g5_0_2 k5_0_3 g5_0_3 k5_1_0 g5_1_0 k5_1_1 g5_1_1 k5_1_2 g5_1_2 k5_1_3 g5_1_3 k5_2_0 g5_2_0 k5_2_1 g5_2_1 k5_2_2 g5_2_2 k5_2_3 g5_2_3 k5_3_0 g5_3_0 k5_3_1 g5_3_1 k5_3_2 g5_3_2 k5_3_3 g5_3_3 k5_4_0 g5_4_0 k5_4_1 g5_4_1
            clear hv3
            go_wp2
            go_ret
            exact ⟨rfl, (by (repeat (first | with_reducible exact Below.refl _ _ | with_reducible refine bl_alloc ?_ _ | with_reducible refine bl_drew ?_ | with_reducible refine bl_set ?_ (by first | (simp; done) | (simp; omega)) _ | with_reducible refine bl_call (by assumption) ?_)))⟩

    · have hnz2 : (1048576 : Int) < (n2 : Int) := by omega
      go_enter Try.func3, Try.ntmps3
      go_wp2
      go_ret
      exact ⟨rfl, Below.refl _ _⟩

  · have hnz : (1048576 : Int) < (n : Int) := by omega
    go_enter Try.func3, Try.ntmps3
    go_wp2
    go_ret
    exact ⟨rfl, Below.refl _ _⟩

set_option maxRecDepth 100000 in
theorem lifted (os : Os) (started : os.Started) (H : Type) (enc : TypeId × Value → H) :
    ReturnsInHanded {} Try.checked os 3 .any (Rows.fnComposeMatricesSpec.pre6 enc Try.prog Try.f3 Rows.fnComposeMatricesRow.domain false) (Rows.fnComposeMatricesSpec.post enc Try.prog Try.f3 false true false false) := by
  refine returnsInHanded_of_change (C := Try.checked) own started (by kernel_rfl) Try.func3
    (ChangeSpec.witness6 (enc := enc) (C := Try.checked) false ⟨#[], #[.slice none 0 0, .slice none 0 0], []⟩ 8 (by kernel_rfl) (by kernel_rfl) (by kernel_rfl) (by kernel_rfl)) ?_
  intro W base args ds gs before hval0 hW hcnd _
  have hval : ∀ (j : Nat) t v, Try.f3.params[j]? = some t → args[j]? = some v → Value.okWide Try.prog W .any base t v := hval0
  have hW' := hW
  obtain ⟨p, q, hA0, hV, rfl, hfz, hnd⟩ := hW
  have hA : DataW.TrodAll enc Try.prog W 0 (fun _ => true) true Try.f3.params.toList args.toList ds p := hA0
  rw [Try.params3] at hA hval
  obtain ⟨v0, vs0, d0, ds0, p0, q0, hargs, rfl, rfl, h0, r0⟩ := trodAll_cons hA
  obtain ⟨v1, vs1, d1, ds1, p1, q1, rfl, rfl, rfl, h1, r1⟩ := trodAll_cons r0
  obtain ⟨rfl, rfl, rfl⟩ := trodAll_nil r1
  obtain rfl : args = #[v0, v1] := by cases args; simp_all
  obtain ⟨rfl, rfl⟩ := trodVars_none hV
  have k0 := h0
  have lt0 : ∀ x ∈ p0, x.block < W.heap.size := by obtain ⟨m, hm⟩ := k0; exact DataW.trod_lt m _ _ _ hm
  obtain ⟨a0, n0, c0, rfl⟩ := okWide_slice Try.underlying22 (hval 0 22 v0 rfl rfl)
  obtain ⟨hs0, hl0, hm0⟩ := open_bytes Try.underlying22 Try.underlying5 (by kernel_rfl) h0
  have k1 := h1
  have lt1 : ∀ x ∈ p1, x.block < W.heap.size := by obtain ⟨m, hm⟩ := k1; exact DataW.trod_lt m _ _ _ hm
  obtain ⟨a1, n1, c1, rfl⟩ := okWide_slice Try.underlying22 (hval 1 22 v1 rfl rfl)
  obtain ⟨hs1, hl1, hm1⟩ := open_bytes Try.underlying22 Try.underlying5 (by kernel_rfl) h1
  clear hA0 hval0
  refine (walk a0 n0 c0 a1 n1 c1 W hs0 hl0 hm0 hs1 hl1 hm1).mono fun e W' ⟨he, bel⟩ => ?_
  subst he
  exact ⟨_, rfl, _, _, _, [], _, [], hW', trodAll_mk1 (shut_bool Try.underlying4 _), (trodAll_cons_mk (Below.trod laidOut (by kernel_rfl) (of_decide_eq_true (by kernel_rfl)) k0 bel lt0) (trodAll_cons_mk (Below.trod laidOut (by kernel_rfl) (of_decide_eq_true (by kernel_rfl)) k1 bel lt1) trodAll_mk0)), rfl, bel.frame _, fun h => by cases h⟩

theorem proved : Rows.FnComposeMatricesSaid :=
  OpenClaim.holds_of_wide 3 Try.f3 rfl rfl rfl rfl rfl rfl rfl ⟨rfl, rfl, rfl, rfl, rfl⟩ rfl rfl rfl rfl rfl (by kernel_rfl) Try.func3 (by kernel_rfl)
    (of_decide_eq_true (by kernel_rfl)) (by unfold Func.isWrapper; first | (rw [if_pos (by decide +kernel)]; kernel_rfl) | (rw [if_neg (by decide +kernel)]; exact ⟨rfl, rfl⟩))
    (fun os started H enc _ => lifted os started H enc)

end FnComposeMatrices

end Go.Proofs.Ytbfeaiaoelkggaa
