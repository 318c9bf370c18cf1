/- Contracts of functions that this seat's statements reach: each is shown to compute a plain Lean function, and to leave what was there as it was. No conditions but those in each theorem. -/
import Derived.Test.YtgnjmcfkehgdfaaSoS
namespace Go.Proofs.Ytgnjmcfkehgdfaa
open Go.RowKit
set_option linter.unusedVariables false

open Go.Sort

set_option maxHeartbeats 8000000 in
theorem spec_sideOfRat (a : Int) (b : Int) (c : Int) (n : Int) (d : Int) (m : Int) (k : Int) (w : World) (ha : -2000 ≤ a ∧ a ≤ 2000) (hb : -2000 ≤ b ∧ b ≤ 2000) (hc : -4000000 ≤ c ∧ c ≤ 4000000) (hd : 1 ≤ d ∧ d ≤ 20000000) (hk : 1 ≤ k ∧ k ≤ 20000000) (hz : soD d k * k ≤ 20000000) (h1 : -200000000000 ≤ n * soK d k ∧ n * soK d k ≤ 200000000000) (h2 : -200000000000 ≤ m * soD d k ∧ m * soD d k ≤ 200000000000) :
    Calls Try.prog 72 #[.int .i64 a, .int .i64 b, .int .i64 c, .agg #[.int .i64 n, .int .i64 d, .int .i64 m, .int .i64 k]] w fun e w' => e = .returned (.int .i64 (soV a b c n d m k)) ∧ Below w.heap.size w w' := by
  obtain ⟨la, ua⟩ := ha
  obtain ⟨lb, ub⟩ := hb
  obtain ⟨lc, uc⟩ := hc
  obtain ⟨ld, ud⟩ := hd
  obtain ⟨lk, uk⟩ := hk
  obtain ⟨l1, u1⟩ := h1
  obtain ⟨l2, u2⟩ := h2
  obtain ⟨g1, gl, e1, e2, ⟨p1, p2⟩, ⟨r1, r2⟩, e3⟩ := so_div d k ld lk
  have pg1 : d / gcdI d k = soD d k := rfl
  have pg2 : k / gcdI d k = soK d k := rfl
  obtain ⟨n1, n2⟩ := mul_bd a (n * soK d k) 2000 200000000000 (by omega) (by omega) (by omega) (by omega)
  obtain ⟨n3, n4⟩ := mul_bd b (m * soD d k) 2000 200000000000 (by omega) (by omega) (by omega) (by omega)
  obtain ⟨n5, n6⟩ := mul_bd c (soD d k) 4000000 20000000 (by omega) (by omega) (by omega) (by omega)
  obtain ⟨n7, n8⟩ := mul_bd c (soD d k * k) 4000000 20000000 (by omega) (by have := Int.mul_nonneg (show 0 ≤ soD d k by omega) (show 0 ≤ k by omega); omega) (by omega) (by omega)
  rw [← Int.mul_assoc] at n7 n8
  have K1 : Hid (∀ W : World, Calls Try.prog 79 #[.int .i64 d, .int .i64 k] W fun e w' => e = .returned (.int .i64 (gcdI d k)) ∧ W = w') := Lib.hid fun W => by
    have h := spec_gcd (d) (k) W (by omega) (by omega) (by omega) (by omega)
    exact h
  have K2 : Hid (∀ W : World, Calls Try.prog 90 #[.int .i64 (a * (n * soK d k) + b * (m * soD d k) - c * soD d k * k)] W fun e w' => e = .returned (.int .i64 (soV a b c n d m k)) ∧ W = w') := Lib.hid fun W => by
    have h := spec_sign (a * (n * soK d k) + b * (m * soD d k) - c * soD d k * k) W
    exact h
  generalize soV a b c n d m k = R at *
  generalize gcdI d k = G at *
  generalize soD d k = D1 at *
  generalize soK d k = KQ at *
  have wr0 : IntKind.i64.wrap (D1) = D1 := IntWalk.i64_in _ (by omega)
  have wr1 : IntKind.i64.wrap (KQ) = KQ := IntWalk.i64_in _ (by omega)
  have wr2 : IntKind.i64.wrap (n * KQ) = n * KQ := IntWalk.i64_in _ (by omega)
  have wr3 : IntKind.i64.wrap (m * D1) = m * D1 := IntWalk.i64_in _ (by omega)
  have wr4 : IntKind.i64.wrap (a * (n * KQ)) = a * (n * KQ) := IntWalk.i64_in _ (by omega)
  have wr5 : IntKind.i64.wrap (b * (m * D1)) = b * (m * D1) := IntWalk.i64_in _ (by omega)
  have wr6 : IntKind.i64.wrap (a * (n * KQ) + b * (m * D1)) = a * (n * KQ) + b * (m * D1) := IntWalk.i64_in _ (by omega)
  have wr7 : IntKind.i64.wrap (c * D1) = c * D1 := IntWalk.i64_in _ (by omega)
  have wr8 : IntKind.i64.wrap (c * D1 * k) = c * D1 * k := IntWalk.i64_in _ (by omega)
  have wr9 : IntKind.i64.wrap (a * (n * KQ) + b * (m * D1) - c * D1 * k) = a * (n * KQ) + b * (m * D1) - c * D1 * k := IntWalk.i64_in _ (by omega)
  have gz : ¬ G = 0 := by omega
  clear hz e3
  go_enter Try.func72, Try.ntmps72
  go_wp2_with fail
  refine (K1.out _).mono ?_
  rintro e w' ⟨rfl, rfl⟩
  go_wp2
  have kc0 := cell_regrown (w := (w.alloc (Obj.cells #[.int .i64 (n), .int .i64 (d), .int .i64 (m), .int .i64 (k)] 62))) (a := ⟨w.heap.size, 0, none⟩) (v := .int .i64 (n)) (by first | ((repeat (first | with_reducible assumption | with_reducible refine calloc ?_ _)); done) | (simp [go_sem]; done) | (simp [go_sem, *]; done))
  have kc1 := cell_regrown (w := (w.alloc (Obj.cells #[.int .i64 (n), .int .i64 (d), .int .i64 (m), .int .i64 (k)] 62))) (a := ⟨w.heap.size, 1, none⟩) (v := .int .i64 (d)) (by first | ((repeat (first | with_reducible assumption | with_reducible refine calloc ?_ _)); done) | (simp [go_sem]; done) | (simp [go_sem, *]; done))
  have kc2 := cell_regrown (w := (w.alloc (Obj.cells #[.int .i64 (n), .int .i64 (d), .int .i64 (m), .int .i64 (k)] 62))) (a := ⟨w.heap.size, 2, none⟩) (v := .int .i64 (m)) (by first | ((repeat (first | with_reducible assumption | with_reducible refine calloc ?_ _)); done) | (simp [go_sem]; done) | (simp [go_sem, *]; done))
  have kc3 := cell_regrown (w := (w.alloc (Obj.cells #[.int .i64 (n), .int .i64 (d), .int .i64 (m), .int .i64 (k)] 62))) (a := ⟨w.heap.size, 3, none⟩) (v := .int .i64 (k)) (by first | ((repeat (first | with_reducible assumption | with_reducible refine calloc ?_ _)); done) | (simp [go_sem]; done) | (simp [go_sem, *]; done))
  refine wp_region_quiet_below (by kernel_rfl) (by kernel_rfl) ?_
  repeat (go_big_quiet_step ((fail)))
  refine wpQuiet_nil ?_
  intro w1 hw'
  have b1 : Below (w.alloc (Obj.cells #[.int .i64 (n), .int .i64 (d), .int .i64 (m), .int .i64 (k)] 62)).heap.size (w.alloc (Obj.cells #[.int .i64 (n), .int .i64 (d), .int .i64 (m), .int .i64 (k)] 62)) w1 := by
    obtain ⟨pp, rfl⟩ := hw'
    exact below_regrown _ _ _
  clear hw' kc0 kc1 kc2 kc3
  have s1 := b1.size
  try simp at s1
  have z1_0 : w.heap.size < w1.heap.size := by omega
  have k1_0_0 : w1.cell? ⟨w.heap.size, 0, none⟩ = some (.int .i64 (n)) := (b1.cell (p := ⟨w.heap.size, 0, none⟩) (by first | (simp; done) | (simp; omega) | omega)).trans (by first | with_reducible assumption | (simp [go_sem]; done) | (simp [go_sem, *]; done))
  have g1_0_0 : w1.frozen? ⟨w.heap.size, 0, none⟩ = false := (b1.frozen (p := ⟨w.heap.size, 0, none⟩) (by first | (simp; done) | (simp; omega) | omega)).trans (by first | with_reducible assumption | (simp [go_sem]; done) | (simp [go_sem, *]; done))
  have k1_0_1 : w1.cell? ⟨w.heap.size, 1, none⟩ = some (.int .i64 (d)) := (b1.cell (p := ⟨w.heap.size, 1, none⟩) (by first | (simp; done) | (simp; omega) | omega)).trans (by first | with_reducible assumption | (simp [go_sem]; done) | (simp [go_sem, *]; done))
  have g1_0_1 : w1.frozen? ⟨w.heap.size, 1, none⟩ = false := (b1.frozen (p := ⟨w.heap.size, 1, none⟩) (by first | (simp; done) | (simp; omega) | omega)).trans (by first | with_reducible assumption | (simp [go_sem]; done) | (simp [go_sem, *]; done))
  have k1_0_2 : w1.cell? ⟨w.heap.size, 2, none⟩ = some (.int .i64 (m)) := (b1.cell (p := ⟨w.heap.size, 2, none⟩) (by first | (simp; done) | (simp; omega) | omega)).trans (by first | with_reducible assumption | (simp [go_sem]; done) | (simp [go_sem, *]; done))
  have g1_0_2 : w1.frozen? ⟨w.heap.size, 2, none⟩ = false := (b1.frozen (p := ⟨w.heap.size, 2, none⟩) (by first | (simp; done) | (simp; omega) | omega)).trans (by first | with_reducible assumption | (simp [go_sem]; done) | (simp [go_sem, *]; done))
  have k1_0_3 : w1.cell? ⟨w.heap.size, 3, none⟩ = some (.int .i64 (k)) := (b1.cell (p := ⟨w.heap.size, 3, none⟩) (by first | (simp; done) | (simp; omega) | omega)).trans (by first | with_reducible assumption | (simp [go_sem]; done) | (simp [go_sem, *]; done))
  have g1_0_3 : w1.frozen? ⟨w.heap.size, 3, none⟩ = false := (b1.frozen (p := ⟨w.heap.size, 3, none⟩) (by first | (simp; done) | (simp; omega) | omega)).trans (by first | with_reducible assumption | (simp [go_sem]; done) | (simp [go_sem, *]; done))
  go_wp2
  have kc0 := cell_regrown (w := w1) (a := ⟨w.heap.size, 0, none⟩) (v := .int .i64 (n)) (by first | ((repeat (first | with_reducible assumption | with_reducible refine calloc ?_ _)); done) | (simp [go_sem]; done) | (simp [go_sem, *]; done))
  have kc1 := cell_regrown (w := w1) (a := ⟨w.heap.size, 1, none⟩) (v := .int .i64 (d)) (by first | ((repeat (first | with_reducible assumption | with_reducible refine calloc ?_ _)); done) | (simp [go_sem]; done) | (simp [go_sem, *]; done))
  have kc2 := cell_regrown (w := w1) (a := ⟨w.heap.size, 2, none⟩) (v := .int .i64 (m)) (by first | ((repeat (first | with_reducible assumption | with_reducible refine calloc ?_ _)); done) | (simp [go_sem]; done) | (simp [go_sem, *]; done))
  have kc3 := cell_regrown (w := w1) (a := ⟨w.heap.size, 3, none⟩) (v := .int .i64 (k)) (by first | ((repeat (first | with_reducible assumption | with_reducible refine calloc ?_ _)); done) | (simp [go_sem]; done) | (simp [go_sem, *]; done))
  refine wp_region_quiet_below (by kernel_rfl) (by kernel_rfl) ?_
  repeat (go_big_quiet_step ((fail)))
  refine wpQuiet_nil ?_
  intro w2 hw'
  have b2 : Below w1.heap.size w1 w2 := by
    obtain ⟨pp, rfl⟩ := hw'
    exact below_regrown _ _ _
  clear hw' kc0 kc1 kc2 kc3
  have s2 := b2.size
  try simp at s2
  have z2_0 : w.heap.size < w2.heap.size := by omega
  have k2_0_0 : w2.cell? ⟨w.heap.size, 0, none⟩ = some (.int .i64 (n)) := (b2.cell (p := ⟨w.heap.size, 0, none⟩) (by first | (simp; done) | (simp; omega) | omega)).trans (by first | with_reducible assumption | (simp [go_sem]; done) | (simp [go_sem, *]; done))
  have g2_0_0 : w2.frozen? ⟨w.heap.size, 0, none⟩ = false := (b2.frozen (p := ⟨w.heap.size, 0, none⟩) (by first | (simp; done) | (simp; omega) | omega)).trans (by first | with_reducible assumption | (simp [go_sem]; done) | (simp [go_sem, *]; done))
  have k2_0_1 : w2.cell? ⟨w.heap.size, 1, none⟩ = some (.int .i64 (d)) := (b2.cell (p := ⟨w.heap.size, 1, none⟩) (by first | (simp; done) | (simp; omega) | omega)).trans (by first | with_reducible assumption | (simp [go_sem]; done) | (simp [go_sem, *]; done))
  have g2_0_1 : w2.frozen? ⟨w.heap.size, 1, none⟩ = false := (b2.frozen (p := ⟨w.heap.size, 1, none⟩) (by first | (simp; done) | (simp; omega) | omega)).trans (by first | with_reducible assumption | (simp [go_sem]; done) | (simp [go_sem, *]; done))
  have k2_0_2 : w2.cell? ⟨w.heap.size, 2, none⟩ = some (.int .i64 (m)) := (b2.cell (p := ⟨w.heap.size, 2, none⟩) (by first | (simp; done) | (simp; omega) | omega)).trans (by first | with_reducible assumption | (simp [go_sem]; done) | (simp [go_sem, *]; done))
  have g2_0_2 : w2.frozen? ⟨w.heap.size, 2, none⟩ = false := (b2.frozen (p := ⟨w.heap.size, 2, none⟩) (by first | (simp; done) | (simp; omega) | omega)).trans (by first | with_reducible assumption | (simp [go_sem]; done) | (simp [go_sem, *]; done))
  have k2_0_3 : w2.cell? ⟨w.heap.size, 3, none⟩ = some (.int .i64 (k)) := (b2.cell (p := ⟨w.heap.size, 3, none⟩) (by first | (simp; done) | (simp; omega) | omega)).trans (by first | with_reducible assumption | (simp [go_sem]; done) | (simp [go_sem, *]; done))
  have g2_0_3 : w2.frozen? ⟨w.heap.size, 3, none⟩ = false := (b2.frozen (p := ⟨w.heap.size, 3, none⟩) (by first | (simp; done) | (simp; omega) | omega)).trans (by first | with_reducible assumption | (simp [go_sem]; done) | (simp [go_sem, *]; done))
  clear k1_0_0 g1_0_0 k1_0_1 g1_0_1 k1_0_2 g1_0_2 k1_0_3 g1_0_3
  go_wp2
  have kc0 := cell_regrown (w := w2) (a := ⟨w.heap.size, 0, none⟩) (v := .int .i64 (n)) (by first | ((repeat (first | with_reducible assumption | with_reducible refine calloc ?_ _)); done) | (simp [go_sem]; done) | (simp [go_sem, *]; done))
  have kc1 := cell_regrown (w := w2) (a := ⟨w.heap.size, 1, none⟩) (v := .int .i64 (d)) (by first | ((repeat (first | with_reducible assumption | with_reducible refine calloc ?_ _)); done) | (simp [go_sem]; done) | (simp [go_sem, *]; done))
  have kc2 := cell_regrown (w := w2) (a := ⟨w.heap.size, 2, none⟩) (v := .int .i64 (m)) (by first | ((repeat (first | with_reducible assumption | with_reducible refine calloc ?_ _)); done) | (simp [go_sem]; done) | (simp [go_sem, *]; done))
  have kc3 := cell_regrown (w := w2) (a := ⟨w.heap.size, 3, none⟩) (v := .int .i64 (k)) (by first | ((repeat (first | with_reducible assumption | with_reducible refine calloc ?_ _)); done) | (simp [go_sem]; done) | (simp [go_sem, *]; done))
  refine wp_region_quiet_below (by kernel_rfl) (by kernel_rfl) ?_
  repeat (go_big_quiet_step ((first | (go_at_call 90; exact Calls.regrown_of (qb_same (K2.out _))))))
  refine wpQuiet_nil ?_
  intro w3 hw'
  have b3 : Below w2.heap.size w2 w3 := by
    obtain ⟨pp, rfl⟩ := hw'
    exact below_regrown _ _ _
  clear hw' kc0 kc1 kc2 kc3
  have s3 := b3.size
  try simp at s3
  have z3_0 : w.heap.size < w3.heap.size := by omega
  have k3_0_0 : w3.cell? ⟨w.heap.size, 0, none⟩ = some (.int .i64 (n)) := (b3.cell (p := ⟨w.heap.size, 0, none⟩) (by first | (simp; done) | (simp; omega) | omega)).trans (by first | with_reducible assumption | (simp [go_sem]; done) | (simp [go_sem, *]; done))
  have g3_0_0 : w3.frozen? ⟨w.heap.size, 0, none⟩ = false := (b3.frozen (p := ⟨w.heap.size, 0, none⟩) (by first | (simp; done) | (simp; omega) | omega)).trans (by first | with_reducible assumption | (simp [go_sem]; done) | (simp [go_sem, *]; done))
  have k3_0_1 : w3.cell? ⟨w.heap.size, 1, none⟩ = some (.int .i64 (d)) := (b3.cell (p := ⟨w.heap.size, 1, none⟩) (by first | (simp; done) | (simp; omega) | omega)).trans (by first | with_reducible assumption | (simp [go_sem]; done) | (simp [go_sem, *]; done))
  have g3_0_1 : w3.frozen? ⟨w.heap.size, 1, none⟩ = false := (b3.frozen (p := ⟨w.heap.size, 1, none⟩) (by first | (simp; done) | (simp; omega) | omega)).trans (by first | with_reducible assumption | (simp [go_sem]; done) | (simp [go_sem, *]; done))
  have k3_0_2 : w3.cell? ⟨w.heap.size, 2, none⟩ = some (.int .i64 (m)) := (b3.cell (p := ⟨w.heap.size, 2, none⟩) (by first | (simp; done) | (simp; omega) | omega)).trans (by first | with_reducible assumption | (simp [go_sem]; done) | (simp [go_sem, *]; done))
  have g3_0_2 : w3.frozen? ⟨w.heap.size, 2, none⟩ = false := (b3.frozen (p := ⟨w.heap.size, 2, none⟩) (by first | (simp; done) | (simp; omega) | omega)).trans (by first | with_reducible assumption | (simp [go_sem]; done) | (simp [go_sem, *]; done))
  have k3_0_3 : w3.cell? ⟨w.heap.size, 3, none⟩ = some (.int .i64 (k)) := (b3.cell (p := ⟨w.heap.size, 3, none⟩) (by first | (simp; done) | (simp; omega) | omega)).trans (by first | with_reducible assumption | (simp [go_sem]; done) | (simp [go_sem, *]; done))
  have g3_0_3 : w3.frozen? ⟨w.heap.size, 3, none⟩ = false := (b3.frozen (p := ⟨w.heap.size, 3, none⟩) (by first | (simp; done) | (simp; omega) | omega)).trans (by first | with_reducible assumption | (simp [go_sem]; done) | (simp [go_sem, *]; done))
  clear k2_0_0 g2_0_0 k2_0_1 g2_0_1 k2_0_2 g2_0_2 k2_0_3 g2_0_3
  go_wp2
  go_ret
  exact ⟨rfl, (by (repeat (first | with_reducible exact Below.refl _ _ | with_reducible refine bl_alloc ?_ _ | with_reducible refine bl_drew ?_ | with_reducible refine bl_set ?_ (by first | (simp; done) | (simp; omega)) _ | with_reducible refine bl_call (by assumption) ?_)))⟩

set_option maxHeartbeats 8000000 in
theorem spec_SideOfRat (a : Int) (b : Int) (c : Int) (n : Int) (d : Int) (m : Int) (k : Int) (w : World) :
    Calls Try.prog 36 #[.agg #[.int .i64 a, .int .i64 b, .int .i64 c], .agg #[.int .i64 n, .int .i64 d, .int .i64 m, .int .i64 k]] w fun e w' => e = .returned (.int .i64 (SoF a b c n d m k)) ∧ Below w.heap.size w w' := by
  cases q1 : lineB a b c with
  | false =>
    have hr : SoF a b c n d m k = 2 := by simp [SoF, q1]
    rw [hr]
    clear hr
    have K1 : Hid (∀ W : World, Calls Try.prog 70 #[.agg #[.int .i64 a, .int .i64 b, .int .i64 c]] W fun e w' => e = .returned (.bool false) ∧ Below W.heap.size W w') := Lib.hid fun W => by
      have h := spec_validLine (a) (b) (c) W
      rw [q1] at h
      exact h
    clear q1
    go_enter Try.func36, Try.ntmps36
    go_wp2_with fail
    refine (K1.out _).mono ?_
    rintro e w1 ⟨rfl, b1⟩
    have s1 := b1.size
    try simp at s1
    have z1_0 : w.heap.size < w1.heap.size := by omega
    have k1_0_0 : w1.cell? ⟨w.heap.size, 0, none⟩ = some (.int .i64 (a)) := (b1.cell (p := ⟨w.heap.size, 0, none⟩) (by first | (simp; done) | (simp; omega) | omega)).trans (by first | with_reducible assumption | (simp [go_sem]; done) | (simp [go_sem, *]; done))
    have g1_0_0 : w1.frozen? ⟨w.heap.size, 0, none⟩ = false := (b1.frozen (p := ⟨w.heap.size, 0, none⟩) (by first | (simp; done) | (simp; omega) | omega)).trans (by first | with_reducible assumption | (simp [go_sem]; done) | (simp [go_sem, *]; done))
    have k1_0_1 : w1.cell? ⟨w.heap.size, 1, none⟩ = some (.int .i64 (b)) := (b1.cell (p := ⟨w.heap.size, 1, none⟩) (by first | (simp; done) | (simp; omega) | omega)).trans (by first | with_reducible assumption | (simp [go_sem]; done) | (simp [go_sem, *]; done))
    have g1_0_1 : w1.frozen? ⟨w.heap.size, 1, none⟩ = false := (b1.frozen (p := ⟨w.heap.size, 1, none⟩) (by first | (simp; done) | (simp; omega) | omega)).trans (by first | with_reducible assumption | (simp [go_sem]; done) | (simp [go_sem, *]; done))
    have k1_0_2 : w1.cell? ⟨w.heap.size, 2, none⟩ = some (.int .i64 (c)) := (b1.cell (p := ⟨w.heap.size, 2, none⟩) (by first | (simp; done) | (simp; omega) | omega)).trans (by first | with_reducible assumption | (simp [go_sem]; done) | (simp [go_sem, *]; done))
    have g1_0_2 : w1.frozen? ⟨w.heap.size, 2, none⟩ = false := (b1.frozen (p := ⟨w.heap.size, 2, none⟩) (by first | (simp; done) | (simp; omega) | omega)).trans (by first | with_reducible assumption | (simp [go_sem]; done) | (simp [go_sem, *]; done))
    have z1_1 : w.heap.size + 1 < w1.heap.size := by omega
    have k1_1_0 : w1.cell? ⟨w.heap.size + 1, 0, none⟩ = some (.int .i64 (n)) := (b1.cell (p := ⟨w.heap.size + 1, 0, none⟩) (by first | (simp; done) | (simp; omega) | omega)).trans (by first | with_reducible assumption | (simp [go_sem]; done) | (simp [go_sem, *]; done))
    have g1_1_0 : w1.frozen? ⟨w.heap.size + 1, 0, none⟩ = false := (b1.frozen (p := ⟨w.heap.size + 1, 0, none⟩) (by first | (simp; done) | (simp; omega) | omega)).trans (by first | with_reducible assumption | (simp [go_sem]; done) | (simp [go_sem, *]; done))
    have k1_1_1 : w1.cell? ⟨w.heap.size + 1, 1, none⟩ = some (.int .i64 (d)) := (b1.cell (p := ⟨w.heap.size + 1, 1, none⟩) (by first | (simp; done) | (simp; omega) | omega)).trans (by first | with_reducible assumption | (simp [go_sem]; done) | (simp [go_sem, *]; done))
    have g1_1_1 : w1.frozen? ⟨w.heap.size + 1, 1, none⟩ = false := (b1.frozen (p := ⟨w.heap.size + 1, 1, none⟩) (by first | (simp; done) | (simp; omega) | omega)).trans (by first | with_reducible assumption | (simp [go_sem]; done) | (simp [go_sem, *]; done))
    have k1_1_2 : w1.cell? ⟨w.heap.size + 1, 2, none⟩ = some (.int .i64 (m)) := (b1.cell (p := ⟨w.heap.size + 1, 2, none⟩) (by first | (simp; done) | (simp; omega) | omega)).trans (by first | with_reducible assumption | (simp [go_sem]; done) | (simp [go_sem, *]; done))
    have g1_1_2 : w1.frozen? ⟨w.heap.size + 1, 2, none⟩ = false := (b1.frozen (p := ⟨w.heap.size + 1, 2, none⟩) (by first | (simp; done) | (simp; omega) | omega)).trans (by first | with_reducible assumption | (simp [go_sem]; done) | (simp [go_sem, *]; done))
    have k1_1_3 : w1.cell? ⟨w.heap.size + 1, 3, none⟩ = some (.int .i64 (k)) := (b1.cell (p := ⟨w.heap.size + 1, 3, none⟩) (by first | (simp; done) | (simp; omega) | omega)).trans (by first | with_reducible assumption | (simp [go_sem]; done) | (simp [go_sem, *]; done))
    have g1_1_3 : w1.frozen? ⟨w.heap.size + 1, 3, none⟩ = false := (b1.frozen (p := ⟨w.heap.size + 1, 3, none⟩) (by first | (simp; done) | (simp; omega) | omega)).trans (by first | with_reducible assumption | (simp [go_sem]; done) | (simp [go_sem, *]; done))
    go_wp2
    go_ret
    exact ⟨rfl, (by (repeat (first | with_reducible exact Below.refl _ _ | with_reducible refine bl_alloc ?_ _ | with_reducible refine bl_drew ?_ | with_reducible refine bl_set ?_ (by first | (simp; done) | (simp; omega)) _ | with_reducible refine bl_call (by assumption) ?_)))⟩
  
  | true =>
    cases q2 : soOk n d m k with
    | false =>
      have hr : SoF a b c n d m k = 2 := by simp [SoF, q1, q2]
      rw [hr]
      clear hr
      have K1 : Hid (∀ W : World, Calls Try.prog 70 #[.agg #[.int .i64 a, .int .i64 b, .int .i64 c]] W fun e w' => e = .returned (.bool true) ∧ Below W.heap.size W w') := Lib.hid fun W => by
        have h := spec_validLine (a) (b) (c) W
        rw [q1] at h
        exact h
      have K2 : Hid (∀ W : World, Calls Try.prog 71 #[.agg #[.int .i64 n, .int .i64 d, .int .i64 m, .int .i64 k]] W fun e w' => e = .returned (.bool false) ∧ Below W.heap.size W w') := Lib.hid fun W => by
        have h := spec_validSolution (n) (d) (m) (k) W
        rw [q2] at h
        exact h
      clear q1 q2
      go_enter Try.func36, Try.ntmps36
      go_wp2_with fail
      refine (K1.out _).mono ?_
      rintro e w1 ⟨rfl, b1⟩
      have s1 := b1.size
      try simp at s1
      have z1_0 : w.heap.size < w1.heap.size := by omega
      have k1_0_0 : w1.cell? ⟨w.heap.size, 0, none⟩ = some (.int .i64 (a)) := (b1.cell (p := ⟨w.heap.size, 0, none⟩) (by first | (simp; done) | (simp; omega) | omega)).trans (by first | with_reducible assumption | (simp [go_sem]; done) | (simp [go_sem, *]; done))
      have g1_0_0 : w1.frozen? ⟨w.heap.size, 0, none⟩ = false := (b1.frozen (p := ⟨w.heap.size, 0, none⟩) (by first | (simp; done) | (simp; omega) | omega)).trans (by first | with_reducible assumption | (simp [go_sem]; done) | (simp [go_sem, *]; done))
      have k1_0_1 : w1.cell? ⟨w.heap.size, 1, none⟩ = some (.int .i64 (b)) := (b1.cell (p := ⟨w.heap.size, 1, none⟩) (by first | (simp; done) | (simp; omega) | omega)).trans (by first | with_reducible assumption | (simp [go_sem]; done) | (simp [go_sem, *]; done))
      have g1_0_1 : w1.frozen? ⟨w.heap.size, 1, none⟩ = false := (b1.frozen (p := ⟨w.heap.size, 1, none⟩) (by first | (simp; done) | (simp; omega) | omega)).trans (by first | with_reducible assumption | (simp [go_sem]; done) | (simp [go_sem, *]; done))
      have k1_0_2 : w1.cell? ⟨w.heap.size, 2, none⟩ = some (.int .i64 (c)) := (b1.cell (p := ⟨w.heap.size, 2, none⟩) (by first | (simp; done) | (simp; omega) | omega)).trans (by first | with_reducible assumption | (simp [go_sem]; done) | (simp [go_sem, *]; done))
      have g1_0_2 : w1.frozen? ⟨w.heap.size, 2, none⟩ = false := (b1.frozen (p := ⟨w.heap.size, 2, none⟩) (by first | (simp; done) | (simp; omega) | omega)).trans (by first | with_reducible assumption | (simp [go_sem]; done) | (simp [go_sem, *]; done))
      have z1_1 : w.heap.size + 1 < w1.heap.size := by omega
      have k1_1_0 : w1.cell? ⟨w.heap.size + 1, 0, none⟩ = some (.int .i64 (n)) := (b1.cell (p := ⟨w.heap.size + 1, 0, none⟩) (by first | (simp; done) | (simp; omega) | omega)).trans (by first | with_reducible assumption | (simp [go_sem]; done) | (simp [go_sem, *]; done))
      have g1_1_0 : w1.frozen? ⟨w.heap.size + 1, 0, none⟩ = false := (b1.frozen (p := ⟨w.heap.size + 1, 0, none⟩) (by first | (simp; done) | (simp; omega) | omega)).trans (by first | with_reducible assumption | (simp [go_sem]; done) | (simp [go_sem, *]; done))
      have k1_1_1 : w1.cell? ⟨w.heap.size + 1, 1, none⟩ = some (.int .i64 (d)) := (b1.cell (p := ⟨w.heap.size + 1, 1, none⟩) (by first | (simp; done) | (simp; omega) | omega)).trans (by first | with_reducible assumption | (simp [go_sem]; done) | (simp [go_sem, *]; done))
      have g1_1_1 : w1.frozen? ⟨w.heap.size + 1, 1, none⟩ = false := (b1.frozen (p := ⟨w.heap.size + 1, 1, none⟩) (by first | (simp; done) | (simp; omega) | omega)).trans (by first | with_reducible assumption | (simp [go_sem]; done) | (simp [go_sem, *]; done))
      have k1_1_2 : w1.cell? ⟨w.heap.size + 1, 2, none⟩ = some (.int .i64 (m)) := (b1.cell (p := ⟨w.heap.size + 1, 2, none⟩) (by first | (simp; done) | (simp; omega) | omega)).trans (by first | with_reducible assumption | (simp [go_sem]; done) | (simp [go_sem, *]; done))
      have g1_1_2 : w1.frozen? ⟨w.heap.size + 1, 2, none⟩ = false := (b1.frozen (p := ⟨w.heap.size + 1, 2, none⟩) (by first | (simp; done) | (simp; omega) | omega)).trans (by first | with_reducible assumption | (simp [go_sem]; done) | (simp [go_sem, *]; done))
      have k1_1_3 : w1.cell? ⟨w.heap.size + 1, 3, none⟩ = some (.int .i64 (k)) := (b1.cell (p := ⟨w.heap.size + 1, 3, none⟩) (by first | (simp; done) | (simp; omega) | omega)).trans (by first | with_reducible assumption | (simp [go_sem]; done) | (simp [go_sem, *]; done))
      have g1_1_3 : w1.frozen? ⟨w.heap.size + 1, 3, none⟩ = false := (b1.frozen (p := ⟨w.heap.size + 1, 3, none⟩) (by first | (simp; done) | (simp; omega) | omega)).trans (by first | with_reducible assumption | (simp [go_sem]; done) | (simp [go_sem, *]; done))
      go_wp2_with fail
      refine (K2.out _).mono ?_
      rintro e w2 ⟨rfl, b2⟩
      have s2 := b2.size
      try simp at s2
      have z2_0 : w.heap.size < w2.heap.size := by omega
      have k2_0_0 : w2.cell? ⟨w.heap.size, 0, none⟩ = some (.int .i64 (a)) := (b2.cell (p := ⟨w.heap.size, 0, none⟩) (by first | (simp; done) | (simp; omega) | omega)).trans (by first | with_reducible assumption | (simp [go_sem]; done) | (simp [go_sem, *]; done))
      have g2_0_0 : w2.frozen? ⟨w.heap.size, 0, none⟩ = false := (b2.frozen (p := ⟨w.heap.size, 0, none⟩) (by first | (simp; done) | (simp; omega) | omega)).trans (by first | with_reducible assumption | (simp [go_sem]; done) | (simp [go_sem, *]; done))
      have k2_0_1 : w2.cell? ⟨w.heap.size, 1, none⟩ = some (.int .i64 (b)) := (b2.cell (p := ⟨w.heap.size, 1, none⟩) (by first | (simp; done) | (simp; omega) | omega)).trans (by first | with_reducible assumption | (simp [go_sem]; done) | (simp [go_sem, *]; done))
      have g2_0_1 : w2.frozen? ⟨w.heap.size, 1, none⟩ = false := (b2.frozen (p := ⟨w.heap.size, 1, none⟩) (by first | (simp; done) | (simp; omega) | omega)).trans (by first | with_reducible assumption | (simp [go_sem]; done) | (simp [go_sem, *]; done))
      have k2_0_2 : w2.cell? ⟨w.heap.size, 2, none⟩ = some (.int .i64 (c)) := (b2.cell (p := ⟨w.heap.size, 2, none⟩) (by first | (simp; done) | (simp; omega) | omega)).trans (by first | with_reducible assumption | (simp [go_sem]; done) | (simp [go_sem, *]; done))
      have g2_0_2 : w2.frozen? ⟨w.heap.size, 2, none⟩ = false := (b2.frozen (p := ⟨w.heap.size, 2, none⟩) (by first | (simp; done) | (simp; omega) | omega)).trans (by first | with_reducible assumption | (simp [go_sem]; done) | (simp [go_sem, *]; done))
      have z2_1 : w.heap.size + 1 < w2.heap.size := by omega
      have k2_1_0 : w2.cell? ⟨w.heap.size + 1, 0, none⟩ = some (.int .i64 (n)) := (b2.cell (p := ⟨w.heap.size + 1, 0, none⟩) (by first | (simp; done) | (simp; omega) | omega)).trans (by first | with_reducible assumption | (simp [go_sem]; done) | (simp [go_sem, *]; done))
      have g2_1_0 : w2.frozen? ⟨w.heap.size + 1, 0, none⟩ = false := (b2.frozen (p := ⟨w.heap.size + 1, 0, none⟩) (by first | (simp; done) | (simp; omega) | omega)).trans (by first | with_reducible assumption | (simp [go_sem]; done) | (simp [go_sem, *]; done))
      have k2_1_1 : w2.cell? ⟨w.heap.size + 1, 1, none⟩ = some (.int .i64 (d)) := (b2.cell (p := ⟨w.heap.size + 1, 1, none⟩) (by first | (simp; done) | (simp; omega) | omega)).trans (by first | with_reducible assumption | (simp [go_sem]; done) | (simp [go_sem, *]; done))
      have g2_1_1 : w2.frozen? ⟨w.heap.size + 1, 1, none⟩ = false := (b2.frozen (p := ⟨w.heap.size + 1, 1, none⟩) (by first | (simp; done) | (simp; omega) | omega)).trans (by first | with_reducible assumption | (simp [go_sem]; done) | (simp [go_sem, *]; done))
      have k2_1_2 : w2.cell? ⟨w.heap.size + 1, 2, none⟩ = some (.int .i64 (m)) := (b2.cell (p := ⟨w.heap.size + 1, 2, none⟩) (by first | (simp; done) | (simp; omega) | omega)).trans (by first | with_reducible assumption | (simp [go_sem]; done) | (simp [go_sem, *]; done))
      have g2_1_2 : w2.frozen? ⟨w.heap.size + 1, 2, none⟩ = false := (b2.frozen (p := ⟨w.heap.size + 1, 2, none⟩) (by first | (simp; done) | (simp; omega) | omega)).trans (by first | with_reducible assumption | (simp [go_sem]; done) | (simp [go_sem, *]; done))
      have k2_1_3 : w2.cell? ⟨w.heap.size + 1, 3, none⟩ = some (.int .i64 (k)) := (b2.cell (p := ⟨w.heap.size + 1, 3, none⟩) (by first | (simp; done) | (simp; omega) | omega)).trans (by first | with_reducible assumption | (simp [go_sem]; done) | (simp [go_sem, *]; done))
      have g2_1_3 : w2.frozen? ⟨w.heap.size + 1, 3, none⟩ = false := (b2.frozen (p := ⟨w.heap.size + 1, 3, none⟩) (by first | (simp; done) | (simp; omega) | omega)).trans (by first | with_reducible assumption | (simp [go_sem]; done) | (simp [go_sem, *]; done))
      clear k1_0_0 g1_0_0 k1_0_1 g1_0_1 k1_0_2 g1_0_2 k1_1_0 g1_1_0 k1_1_1 g1_1_1 k1_1_2 g1_1_2 k1_1_3 g1_1_3
      go_wp2
      go_ret
      exact ⟨rfl, (by (repeat (first | with_reducible exact Below.refl _ _ | with_reducible refine bl_alloc ?_ _ | with_reducible refine bl_drew ?_ | with_reducible refine bl_set ?_ (by first | (simp; done) | (simp; omega)) _ | with_reducible refine bl_call (by assumption) ?_)))⟩
  
    | true =>
      have hr : SoF a b c n d m k = soV a b c n d m k := by simp [SoF, q1, q2]
      rw [hr]
      clear hr
      obtain ⟨⟨la, ua⟩, ⟨lb, ub⟩, ⟨lc, uc⟩⟩ := lineB_tr q1
      have h2 := q2
      unfold soOk at h2
      simp only [Bool.and_eq_true, decide_eq_true_eq] at h2
      obtain ⟨t1, t2, hz, hn, hm⟩ := h2
      obtain ⟨-, ⟨ld, ud⟩⟩ := ratB_true t1
      obtain ⟨-, ⟨lk, uk⟩⟩ := ratB_true t2
      obtain ⟨b1, b2⟩ := so_bds n d m k ld lk hz hn hm
      have K1 : Hid (∀ W : World, Calls Try.prog 70 #[.agg #[.int .i64 a, .int .i64 b, .int .i64 c]] W fun e w' => e = .returned (.bool true) ∧ Below W.heap.size W w') := Lib.hid fun W => by
        have h := spec_validLine (a) (b) (c) W
        rw [q1] at h
        exact h
      have K2 : Hid (∀ W : World, Calls Try.prog 71 #[.agg #[.int .i64 n, .int .i64 d, .int .i64 m, .int .i64 k]] W fun e w' => e = .returned (.bool true) ∧ Below W.heap.size W w') := Lib.hid fun W => by
        have h := spec_validSolution (n) (d) (m) (k) W
        rw [q2] at h
        exact h
      have K3 : Hid (∀ W : World, Calls Try.prog 72 #[.int .i64 a, .int .i64 b, .int .i64 c, .agg #[.int .i64 n, .int .i64 d, .int .i64 m, .int .i64 k]] W fun e w' => e = .returned (.int .i64 (soV a b c n d m k)) ∧ Below W.heap.size W w') := Lib.hid fun W => spec_sideOfRat a b c n d m k W (by omega) (by omega) (by omega) (by omega) (by omega) hz b1 b2
      generalize soV a b c n d m k = R at *
      clear q1 q2 t1 t2 hz hn hm b1 b2
      go_enter Try.func36, Try.ntmps36
      go_wp2_with fail
      refine (K1.out _).mono ?_
      rintro e w1 ⟨rfl, b1⟩
      have s1 := b1.size
      try simp at s1
      have z1_0 : w.heap.size < w1.heap.size := by omega
      have k1_0_0 : w1.cell? ⟨w.heap.size, 0, none⟩ = some (.int .i64 (a)) := (b1.cell (p := ⟨w.heap.size, 0, none⟩) (by first | (simp; done) | (simp; omega) | omega)).trans (by first | with_reducible assumption | (simp [go_sem]; done) | (simp [go_sem, *]; done))
      have g1_0_0 : w1.frozen? ⟨w.heap.size, 0, none⟩ = false := (b1.frozen (p := ⟨w.heap.size, 0, none⟩) (by first | (simp; done) | (simp; omega) | omega)).trans (by first | with_reducible assumption | (simp [go_sem]; done) | (simp [go_sem, *]; done))
      have k1_0_1 : w1.cell? ⟨w.heap.size, 1, none⟩ = some (.int .i64 (b)) := (b1.cell (p := ⟨w.heap.size, 1, none⟩) (by first | (simp; done) | (simp; omega) | omega)).trans (by first | with_reducible assumption | (simp [go_sem]; done) | (simp [go_sem, *]; done))
      have g1_0_1 : w1.frozen? ⟨w.heap.size, 1, none⟩ = false := (b1.frozen (p := ⟨w.heap.size, 1, none⟩) (by first | (simp; done) | (simp; omega) | omega)).trans (by first | with_reducible assumption | (simp [go_sem]; done) | (simp [go_sem, *]; done))
      have k1_0_2 : w1.cell? ⟨w.heap.size, 2, none⟩ = some (.int .i64 (c)) := (b1.cell (p := ⟨w.heap.size, 2, none⟩) (by first | (simp; done) | (simp; omega) | omega)).trans (by first | with_reducible assumption | (simp [go_sem]; done) | (simp [go_sem, *]; done))
      have g1_0_2 : w1.frozen? ⟨w.heap.size, 2, none⟩ = false := (b1.frozen (p := ⟨w.heap.size, 2, none⟩) (by first | (simp; done) | (simp; omega) | omega)).trans (by first | with_reducible assumption | (simp [go_sem]; done) | (simp [go_sem, *]; done))
      have z1_1 : w.heap.size + 1 < w1.heap.size := by omega
      have k1_1_0 : w1.cell? ⟨w.heap.size + 1, 0, none⟩ = some (.int .i64 (n)) := (b1.cell (p := ⟨w.heap.size + 1, 0, none⟩) (by first | (simp; done) | (simp; omega) | omega)).trans (by first | with_reducible assumption | (simp [go_sem]; done) | (simp [go_sem, *]; done))
      have g1_1_0 : w1.frozen? ⟨w.heap.size + 1, 0, none⟩ = false := (b1.frozen (p := ⟨w.heap.size + 1, 0, none⟩) (by first | (simp; done) | (simp; omega) | omega)).trans (by first | with_reducible assumption | (simp [go_sem]; done) | (simp [go_sem, *]; done))
      have k1_1_1 : w1.cell? ⟨w.heap.size + 1, 1, none⟩ = some (.int .i64 (d)) := (b1.cell (p := ⟨w.heap.size + 1, 1, none⟩) (by first | (simp; done) | (simp; omega) | omega)).trans (by first | with_reducible assumption | (simp [go_sem]; done) | (simp [go_sem, *]; done))
      have g1_1_1 : w1.frozen? ⟨w.heap.size + 1, 1, none⟩ = false := (b1.frozen (p := ⟨w.heap.size + 1, 1, none⟩) (by first | (simp; done) | (simp; omega) | omega)).trans (by first | with_reducible assumption | (simp [go_sem]; done) | (simp [go_sem, *]; done))
      have k1_1_2 : w1.cell? ⟨w.heap.size + 1, 2, none⟩ = some (.int .i64 (m)) := (b1.cell (p := ⟨w.heap.size + 1, 2, none⟩) (by first | (simp; done) | (simp; omega) | omega)).trans (by first | with_reducible assumption | (simp [go_sem]; done) | (simp [go_sem, *]; done))
      have g1_1_2 : w1.frozen? ⟨w.heap.size + 1, 2, none⟩ = false := (b1.frozen (p := ⟨w.heap.size + 1, 2, none⟩) (by first | (simp; done) | (simp; omega) | omega)).trans (by first | with_reducible assumption | (simp [go_sem]; done) | (simp [go_sem, *]; done))
      have k1_1_3 : w1.cell? ⟨w.heap.size + 1, 3, none⟩ = some (.int .i64 (k)) := (b1.cell (p := ⟨w.heap.size + 1, 3, none⟩) (by first | (simp; done) | (simp; omega) | omega)).trans (by first | with_reducible assumption | (simp [go_sem]; done) | (simp [go_sem, *]; done))
      have g1_1_3 : w1.frozen? ⟨w.heap.size + 1, 3, none⟩ = false := (b1.frozen (p := ⟨w.heap.size + 1, 3, none⟩) (by first | (simp; done) | (simp; omega) | omega)).trans (by first | with_reducible assumption | (simp [go_sem]; done) | (simp [go_sem, *]; done))
      go_wp2_with fail
      refine (K2.out _).mono ?_
      rintro e w2 ⟨rfl, b2⟩
      have s2 := b2.size
      try simp at s2
      have z2_0 : w.heap.size < w2.heap.size := by omega
      have k2_0_0 : w2.cell? ⟨w.heap.size, 0, none⟩ = some (.int .i64 (a)) := (b2.cell (p := ⟨w.heap.size, 0, none⟩) (by first | (simp; done) | (simp; omega) | omega)).trans (by first | with_reducible assumption | (simp [go_sem]; done) | (simp [go_sem, *]; done))
      have g2_0_0 : w2.frozen? ⟨w.heap.size, 0, none⟩ = false := (b2.frozen (p := ⟨w.heap.size, 0, none⟩) (by first | (simp; done) | (simp; omega) | omega)).trans (by first | with_reducible assumption | (simp [go_sem]; done) | (simp [go_sem, *]; done))
      have k2_0_1 : w2.cell? ⟨w.heap.size, 1, none⟩ = some (.int .i64 (b)) := (b2.cell (p := ⟨w.heap.size, 1, none⟩) (by first | (simp; done) | (simp; omega) | omega)).trans (by first | with_reducible assumption | (simp [go_sem]; done) | (simp [go_sem, *]; done))
      have g2_0_1 : w2.frozen? ⟨w.heap.size, 1, none⟩ = false := (b2.frozen (p := ⟨w.heap.size, 1, none⟩) (by first | (simp; done) | (simp; omega) | omega)).trans (by first | with_reducible assumption | (simp [go_sem]; done) | (simp [go_sem, *]; done))
      have k2_0_2 : w2.cell? ⟨w.heap.size, 2, none⟩ = some (.int .i64 (c)) := (b2.cell (p := ⟨w.heap.size, 2, none⟩) (by first | (simp; done) | (simp; omega) | omega)).trans (by first | with_reducible assumption | (simp [go_sem]; done) | (simp [go_sem, *]; done))
      have g2_0_2 : w2.frozen? ⟨w.heap.size, 2, none⟩ = false := (b2.frozen (p := ⟨w.heap.size, 2, none⟩) (by first | (simp; done) | (simp; omega) | omega)).trans (by first | with_reducible assumption | (simp [go_sem]; done) | (simp [go_sem, *]; done))
      have z2_1 : w.heap.size + 1 < w2.heap.size := by omega
      have k2_1_0 : w2.cell? ⟨w.heap.size + 1, 0, none⟩ = some (.int .i64 (n)) := (b2.cell (p := ⟨w.heap.size + 1, 0, none⟩) (by first | (simp; done) | (simp; omega) | omega)).trans (by first | with_reducible assumption | (simp [go_sem]; done) | (simp [go_sem, *]; done))
      have g2_1_0 : w2.frozen? ⟨w.heap.size + 1, 0, none⟩ = false := (b2.frozen (p := ⟨w.heap.size + 1, 0, none⟩) (by first | (simp; done) | (simp; omega) | omega)).trans (by first | with_reducible assumption | (simp [go_sem]; done) | (simp [go_sem, *]; done))
      have k2_1_1 : w2.cell? ⟨w.heap.size + 1, 1, none⟩ = some (.int .i64 (d)) := (b2.cell (p := ⟨w.heap.size + 1, 1, none⟩) (by first | (simp; done) | (simp; omega) | omega)).trans (by first | with_reducible assumption | (simp [go_sem]; done) | (simp [go_sem, *]; done))
      have g2_1_1 : w2.frozen? ⟨w.heap.size + 1, 1, none⟩ = false := (b2.frozen (p := ⟨w.heap.size + 1, 1, none⟩) (by first | (simp; done) | (simp; omega) | omega)).trans (by first | with_reducible assumption | (simp [go_sem]; done) | (simp [go_sem, *]; done))
      have k2_1_2 : w2.cell? ⟨w.heap.size + 1, 2, none⟩ = some (.int .i64 (m)) := (b2.cell (p := ⟨w.heap.size + 1, 2, none⟩) (by first | (simp; done) | (simp; omega) | omega)).trans (by first | with_reducible assumption | (simp [go_sem]; done) | (simp [go_sem, *]; done))
      have g2_1_2 : w2.frozen? ⟨w.heap.size + 1, 2, none⟩ = false := (b2.frozen (p := ⟨w.heap.size + 1, 2, none⟩) (by first | (simp; done) | (simp; omega) | omega)).trans (by first | with_reducible assumption | (simp [go_sem]; done) | (simp [go_sem, *]; done))
      have k2_1_3 : w2.cell? ⟨w.heap.size + 1, 3, none⟩ = some (.int .i64 (k)) := (b2.cell (p := ⟨w.heap.size + 1, 3, none⟩) (by first | (simp; done) | (simp; omega) | omega)).trans (by first | with_reducible assumption | (simp [go_sem]; done) | (simp [go_sem, *]; done))
      have g2_1_3 : w2.frozen? ⟨w.heap.size + 1, 3, none⟩ = false := (b2.frozen (p := ⟨w.heap.size + 1, 3, none⟩) (by first | (simp; done) | (simp; omega) | omega)).trans (by first | with_reducible assumption | (simp [go_sem]; done) | (simp [go_sem, *]; done))
      clear k1_0_0 g1_0_0 k1_0_1 g1_0_1 k1_0_2 g1_0_2 k1_1_0 g1_1_0 k1_1_1 g1_1_1 k1_1_2 g1_1_2 k1_1_3 g1_1_3
      go_wp2_with fail
      refine (K3.out _).mono ?_
      rintro e w3 ⟨rfl, b3⟩
      have s3 := b3.size
      try simp at s3
      have z3_0 : w.heap.size < w3.heap.size := by omega
      have k3_0_0 : w3.cell? ⟨w.heap.size, 0, none⟩ = some (.int .i64 (a)) := (b3.cell (p := ⟨w.heap.size, 0, none⟩) (by first | (simp; done) | (simp; omega) | omega)).trans (by first | with_reducible assumption | (simp [go_sem]; done) | (simp [go_sem, *]; done))
      have g3_0_0 : w3.frozen? ⟨w.heap.size, 0, none⟩ = false := (b3.frozen (p := ⟨w.heap.size, 0, none⟩) (by first | (simp; done) | (simp; omega) | omega)).trans (by first | with_reducible assumption | (simp [go_sem]; done) | (simp [go_sem, *]; done))
      have k3_0_1 : w3.cell? ⟨w.heap.size, 1, none⟩ = some (.int .i64 (b)) := (b3.cell (p := ⟨w.heap.size, 1, none⟩) (by first | (simp; done) | (simp; omega) | omega)).trans (by first | with_reducible assumption | (simp [go_sem]; done) | (simp [go_sem, *]; done))
      have g3_0_1 : w3.frozen? ⟨w.heap.size, 1, none⟩ = false := (b3.frozen (p := ⟨w.heap.size, 1, none⟩) (by first | (simp; done) | (simp; omega) | omega)).trans (by first | with_reducible assumption | (simp [go_sem]; done) | (simp [go_sem, *]; done))
      have k3_0_2 : w3.cell? ⟨w.heap.size, 2, none⟩ = some (.int .i64 (c)) := (b3.cell (p := ⟨w.heap.size, 2, none⟩) (by first | (simp; done) | (simp; omega) | omega)).trans (by first | with_reducible assumption | (simp [go_sem]; done) | (simp [go_sem, *]; done))
      have g3_0_2 : w3.frozen? ⟨w.heap.size, 2, none⟩ = false := (b3.frozen (p := ⟨w.heap.size, 2, none⟩) (by first | (simp; done) | (simp; omega) | omega)).trans (by first | with_reducible assumption | (simp [go_sem]; done) | (simp [go_sem, *]; done))
      have z3_1 : w.heap.size + 1 < w3.heap.size := by omega
      have k3_1_0 : w3.cell? ⟨w.heap.size + 1, 0, none⟩ = some (.int .i64 (n)) := (b3.cell (p := ⟨w.heap.size + 1, 0, none⟩) (by first | (simp; done) | (simp; omega) | omega)).trans (by first | with_reducible assumption | (simp [go_sem]; done) | (simp [go_sem, *]; done))
      have g3_1_0 : w3.frozen? ⟨w.heap.size + 1, 0, none⟩ = false := (b3.frozen (p := ⟨w.heap.size + 1, 0, none⟩) (by first | (simp; done) | (simp; omega) | omega)).trans (by first | with_reducible assumption | (simp [go_sem]; done) | (simp [go_sem, *]; done))
      have k3_1_1 : w3.cell? ⟨w.heap.size + 1, 1, none⟩ = some (.int .i64 (d)) := (b3.cell (p := ⟨w.heap.size + 1, 1, none⟩) (by first | (simp; done) | (simp; omega) | omega)).trans (by first | with_reducible assumption | (simp [go_sem]; done) | (simp [go_sem, *]; done))
      have g3_1_1 : w3.frozen? ⟨w.heap.size + 1, 1, none⟩ = false := (b3.frozen (p := ⟨w.heap.size + 1, 1, none⟩) (by first | (simp; done) | (simp; omega) | omega)).trans (by first | with_reducible assumption | (simp [go_sem]; done) | (simp [go_sem, *]; done))
      have k3_1_2 : w3.cell? ⟨w.heap.size + 1, 2, none⟩ = some (.int .i64 (m)) := (b3.cell (p := ⟨w.heap.size + 1, 2, none⟩) (by first | (simp; done) | (simp; omega) | omega)).trans (by first | with_reducible assumption | (simp [go_sem]; done) | (simp [go_sem, *]; done))
      have g3_1_2 : w3.frozen? ⟨w.heap.size + 1, 2, none⟩ = false := (b3.frozen (p := ⟨w.heap.size + 1, 2, none⟩) (by first | (simp; done) | (simp; omega) | omega)).trans (by first | with_reducible assumption | (simp [go_sem]; done) | (simp [go_sem, *]; done))
      have k3_1_3 : w3.cell? ⟨w.heap.size + 1, 3, none⟩ = some (.int .i64 (k)) := (b3.cell (p := ⟨w.heap.size + 1, 3, none⟩) (by first | (simp; done) | (simp; omega) | omega)).trans (by first | with_reducible assumption | (simp [go_sem]; done) | (simp [go_sem, *]; done))
      have g3_1_3 : w3.frozen? ⟨w.heap.size + 1, 3, none⟩ = false := (b3.frozen (p := ⟨w.heap.size + 1, 3, none⟩) (by first | (simp; done) | (simp; omega) | omega)).trans (by first | with_reducible assumption | (simp [go_sem]; done) | (simp [go_sem, *]; done))
      clear k2_0_0 g2_0_0 k2_0_1 g2_0_1 k2_0_2 g2_0_2 k2_1_0 g2_1_0 k2_1_1 g2_1_1 k2_1_2 g2_1_2 k2_1_3 g2_1_3
      go_wp2
      go_ret
      exact ⟨rfl, (by (repeat (first | with_reducible exact Below.refl _ _ | with_reducible refine bl_alloc ?_ _ | with_reducible refine bl_drew ?_ | with_reducible refine bl_set ?_ (by first | (simp; done) | (simp; omega)) _ | with_reducible refine bl_call (by assumption) ?_)))⟩

end Go.Proofs.Ytgnjmcfkehgdfaa
