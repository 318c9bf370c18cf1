/- Contracts of functions that this seat's statements reach: each is shown to compute a plain Lean function, and to leave what was there as it was. No conditions but those in each theorem. -/
import Derived.Test.YtgnjmcfkehgdfaaRat
import Derived.Test.YtgnjmcfkehgdfaaLn
import Derived.Test.YtgnjmcfkehgdfaaB1
import Derived.Test.YtgnjmcfkehgdfaaPlainO
import Derived.Test.YtgnjmcfkehgdfaaGn
namespace Go.Proofs.Ytgnjmcfkehgdfaa
open Go.RowKit
set_option linter.unusedVariables false

open Go.Sort

theorem impl_RatPoint_valid (n : Int) (d : Int) (m : Int) (k : Int) (w : World) :
    Calls Try.prog 75 #[.agg #[.int .i64 n, .int .i64 d, .int .i64 m, .int .i64 k]] w fun e w' => e = .returned (.bool (ratB n d && ratB m k)) ∧ Below w.heap.size w w' := by
  go_enter Try.func75, Try.ntmps75
  go_wp2_with (first | (go_at_call 94; refine (impl_Rat_valid _ _ _).mono ?_; rintro e w' ⟨rfl, hb⟩; obtain ⟨hc, hf⟩ := bcell hb; have hz0 : w.heap.size < w'.heap.size := (by ((have := hb.size; try simp at this); omega))))
  all_goals go_ret
  all_goals exact ⟨ret_bool (by simp_all), (by (repeat (first | with_reducible exact Below.refl _ _ | with_reducible refine bl_alloc ?_ _ | with_reducible refine bl_drew ?_ | with_reducible refine bl_set ?_ (by first | (simp; done) | (simp; omega)) _ | with_reducible refine bl_call (by assumption) ?_)))⟩

set_option maxHeartbeats 4000000 in
theorem impl_Rat_reaches (n : Int) (d : Int) (w : World) (hn : -100000000000 ≤ n ∧ n ≤ 100000000000) (hd : 1 ≤ d ∧ d ≤ 20000000) :
    Calls Try.prog 76 #[.agg #[.int .i64 n, .int .i64 d]] w fun e w' => e = .returned (.bool (decide (iabs n ≤ 10000 * d))) ∧ Below w.heap.size w w' := by
  obtain ⟨ln, un⟩ := hn
  obtain ⟨ld, ud⟩ := hd
  have in0 : 0 ≤ iabs n := by unfold iabs; omega
  have in1 : iabs n ≤ 100000000000 := by unfold iabs; omega
  have K1 : Hid (∀ W : World, Calls Try.prog 83 #[.int .i64 n] W fun e w' => e = .returned (.int .i64 (iabs n)) ∧ W = w') := Lib.hid fun W => by
    have h := impl_abs (n) W (by omega) (by omega)
    exact h
  generalize iabs n = N at *
  have wr0 : IntKind.i64.wrap (10000 * d) = 10000 * d := IntWalk.i64_in _ (by omega)
  go_enter Try.func76, Try.ntmps76
  go_wp2
  have kc0 := cell_regrown (w := (w.alloc (Obj.cells #[.int .i64 (n), .int .i64 (d)] 60))) (a := ⟨w.heap.size, 0, none⟩) (v := .int .i64 (n)) (by first | ((repeat (first | with_reducible assumption | with_reducible refine calloc ?_ _)); done) | (simp [go_sem]; done) | (simp [go_sem, *]; done))
  have kc1 := cell_regrown (w := (w.alloc (Obj.cells #[.int .i64 (n), .int .i64 (d)] 60))) (a := ⟨w.heap.size, 1, none⟩) (v := .int .i64 (d)) (by first | ((repeat (first | with_reducible assumption | with_reducible refine calloc ?_ _)); done) | (simp [go_sem]; done) | (simp [go_sem, *]; done))
  refine wp_region_quiet_below (by kernel_rfl) (by kernel_rfl) ?_
  repeat (go_big_quiet_step ((first | (go_at_call 83; exact Calls.regrown_of (qb_same (K1.out _))))))
  refine wpQuiet_nil ?_
  intro w1 hw'
  have b1 : Below (w.alloc (Obj.cells #[.int .i64 (n), .int .i64 (d)] 60)).heap.size (w.alloc (Obj.cells #[.int .i64 (n), .int .i64 (d)] 60)) w1 := by
    obtain ⟨pp, rfl⟩ := hw'
    exact below_regrown _ _ _
  clear hw' kc0 kc1
  have s1 := b1.size
  try simp at s1
  have z1_0 : w.heap.size < w1.heap.size := by omega
  have k1_0_0 : w1.cell? ⟨w.heap.size, 0, none⟩ = some (.int .i64 (n)) := (b1.cell (p := ⟨w.heap.size, 0, none⟩) (by first | (simp; done) | (simp; omega) | omega)).trans (by first | with_reducible assumption | (simp [go_sem]; done) | (simp [go_sem, *]; done))
  have g1_0_0 : w1.frozen? ⟨w.heap.size, 0, none⟩ = false := (b1.frozen (p := ⟨w.heap.size, 0, none⟩) (by first | (simp; done) | (simp; omega) | omega)).trans (by first | with_reducible assumption | (simp [go_sem]; done) | (simp [go_sem, *]; done))
  have k1_0_1 : w1.cell? ⟨w.heap.size, 1, none⟩ = some (.int .i64 (d)) := (b1.cell (p := ⟨w.heap.size, 1, none⟩) (by first | (simp; done) | (simp; omega) | omega)).trans (by first | with_reducible assumption | (simp [go_sem]; done) | (simp [go_sem, *]; done))
  have g1_0_1 : w1.frozen? ⟨w.heap.size, 1, none⟩ = false := (b1.frozen (p := ⟨w.heap.size, 1, none⟩) (by first | (simp; done) | (simp; omega) | omega)).trans (by first | with_reducible assumption | (simp [go_sem]; done) | (simp [go_sem, *]; done))
  go_wp2
  go_ret
  exact ⟨rfl, (by (repeat (first | with_reducible exact Below.refl _ _ | with_reducible refine bl_alloc ?_ _ | with_reducible refine bl_drew ?_ | with_reducible refine bl_set ?_ (by first | (simp; done) | (simp; omega)) _ | with_reducible refine bl_call (by assumption) ?_)))⟩

set_option maxHeartbeats 16000000 in
theorem impl_SideOfRat (a : Int) (b : Int) (c : Int) (n : Int) (d : Int) (m : Int) (k : Int) (w : World) :
    Calls Try.prog 39 #[.agg #[.int .i64 a, .int .i64 b, .int .i64 c], .agg #[.int .i64 n, .int .i64 d, .int .i64 m, .int .i64 k]] w fun e w' => e = .returned (.int .i64 (SoF a b c n d m k)) ∧ Below w.heap.size w w' := by
  cases q0 : lineB a b c with
  | false =>
    have hr : SoF a b c n d m k = 2 := by simp [SoF, soOk, q0]
    rw [hr]
    clear hr
    have K1 : Hid (∀ W : World, Calls Try.prog 74 #[.agg #[.int .i64 a, .int .i64 b, .int .i64 c]] W fun e w' => e = .returned (.bool false) ∧ Below W.heap.size W w') := Lib.hid fun W => by
      have h := impl_Line_valid (a) (b) (c) W
      rw [q0] at h
      exact h
    clear q0
    go_enter Try.func39, Try.ntmps39
    go_wp2_with fail
    refine (K1.out _).mono ?_
    rintro e w1 ⟨rfl, b1⟩
    have s1 := b1.size
    try simp at s1
    have z1_0 : w.heap.size < w1.heap.size := by omega
    have k1_0_0 : w1.cell? ⟨w.heap.size, 0, none⟩ = some (.int .i64 (a)) := (b1.cell (p := ⟨w.heap.size, 0, none⟩) (by first | (simp; done) | (simp; omega) | omega)).trans (by first | with_reducible assumption | (simp [go_sem]; done) | (simp [go_sem, *]; done))
    have g1_0_0 : w1.frozen? ⟨w.heap.size, 0, none⟩ = false := (b1.frozen (p := ⟨w.heap.size, 0, none⟩) (by first | (simp; done) | (simp; omega) | omega)).trans (by first | with_reducible assumption | (simp [go_sem]; done) | (simp [go_sem, *]; done))
    have k1_0_1 : w1.cell? ⟨w.heap.size, 1, none⟩ = some (.int .i64 (b)) := (b1.cell (p := ⟨w.heap.size, 1, none⟩) (by first | (simp; done) | (simp; omega) | omega)).trans (by first | with_reducible assumption | (simp [go_sem]; done) | (simp [go_sem, *]; done))
    have g1_0_1 : w1.frozen? ⟨w.heap.size, 1, none⟩ = false := (b1.frozen (p := ⟨w.heap.size, 1, none⟩) (by first | (simp; done) | (simp; omega) | omega)).trans (by first | with_reducible assumption | (simp [go_sem]; done) | (simp [go_sem, *]; done))
    have k1_0_2 : w1.cell? ⟨w.heap.size, 2, none⟩ = some (.int .i64 (c)) := (b1.cell (p := ⟨w.heap.size, 2, none⟩) (by first | (simp; done) | (simp; omega) | omega)).trans (by first | with_reducible assumption | (simp [go_sem]; done) | (simp [go_sem, *]; done))
    have g1_0_2 : w1.frozen? ⟨w.heap.size, 2, none⟩ = false := (b1.frozen (p := ⟨w.heap.size, 2, none⟩) (by first | (simp; done) | (simp; omega) | omega)).trans (by first | with_reducible assumption | (simp [go_sem]; done) | (simp [go_sem, *]; done))
    have z1_1 : w.heap.size + 1 < w1.heap.size := by omega
    have k1_1_0 : w1.cell? ⟨w.heap.size + 1, 0, none⟩ = some (.int .i64 (n)) := (b1.cell (p := ⟨w.heap.size + 1, 0, none⟩) (by first | (simp; done) | (simp; omega) | omega)).trans (by first | with_reducible assumption | (simp [go_sem]; done) | (simp [go_sem, *]; done))
    have g1_1_0 : w1.frozen? ⟨w.heap.size + 1, 0, none⟩ = false := (b1.frozen (p := ⟨w.heap.size + 1, 0, none⟩) (by first | (simp; done) | (simp; omega) | omega)).trans (by first | with_reducible assumption | (simp [go_sem]; done) | (simp [go_sem, *]; done))
    have k1_1_1 : w1.cell? ⟨w.heap.size + 1, 1, none⟩ = some (.int .i64 (d)) := (b1.cell (p := ⟨w.heap.size + 1, 1, none⟩) (by first | (simp; done) | (simp; omega) | omega)).trans (by first | with_reducible assumption | (simp [go_sem]; done) | (simp [go_sem, *]; done))
    have g1_1_1 : w1.frozen? ⟨w.heap.size + 1, 1, none⟩ = false := (b1.frozen (p := ⟨w.heap.size + 1, 1, none⟩) (by first | (simp; done) | (simp; omega) | omega)).trans (by first | with_reducible assumption | (simp [go_sem]; done) | (simp [go_sem, *]; done))
    have k1_1_2 : w1.cell? ⟨w.heap.size + 1, 2, none⟩ = some (.int .i64 (m)) := (b1.cell (p := ⟨w.heap.size + 1, 2, none⟩) (by first | (simp; done) | (simp; omega) | omega)).trans (by first | with_reducible assumption | (simp [go_sem]; done) | (simp [go_sem, *]; done))
    have g1_1_2 : w1.frozen? ⟨w.heap.size + 1, 2, none⟩ = false := (b1.frozen (p := ⟨w.heap.size + 1, 2, none⟩) (by first | (simp; done) | (simp; omega) | omega)).trans (by first | with_reducible assumption | (simp [go_sem]; done) | (simp [go_sem, *]; done))
    have k1_1_3 : w1.cell? ⟨w.heap.size + 1, 3, none⟩ = some (.int .i64 (k)) := (b1.cell (p := ⟨w.heap.size + 1, 3, none⟩) (by first | (simp; done) | (simp; omega) | omega)).trans (by first | with_reducible assumption | (simp [go_sem]; done) | (simp [go_sem, *]; done))
    have g1_1_3 : w1.frozen? ⟨w.heap.size + 1, 3, none⟩ = false := (b1.frozen (p := ⟨w.heap.size + 1, 3, none⟩) (by first | (simp; done) | (simp; omega) | omega)).trans (by first | with_reducible assumption | (simp [go_sem]; done) | (simp [go_sem, *]; done))
    go_wp2
    go_ret
    exact ⟨rfl, (by (repeat (first | with_reducible exact Below.refl _ _ | with_reducible refine bl_alloc ?_ _ | with_reducible refine bl_drew ?_ | with_reducible refine bl_set ?_ (by first | (simp; done) | (simp; omega)) _ | with_reducible refine bl_call (by assumption) ?_)))⟩
  
  | true =>
    cases q1 : ratB n d with
    | false =>
      have hr : SoF a b c n d m k = 2 := by simp [SoF, soOk, q0, q1]
      rw [hr]
      clear hr
      have K1 : Hid (∀ W : World, Calls Try.prog 74 #[.agg #[.int .i64 a, .int .i64 b, .int .i64 c]] W fun e w' => e = .returned (.bool true) ∧ Below W.heap.size W w') := Lib.hid fun W => by
        have h := impl_Line_valid (a) (b) (c) W
        rw [q0] at h
        exact h
      have K2 : Hid (∀ W : World, Calls Try.prog 75 #[.agg #[.int .i64 n, .int .i64 d, .int .i64 m, .int .i64 k]] W fun e w' => e = .returned (.bool false) ∧ Below W.heap.size W w') := Lib.hid fun W => by
        have h := impl_RatPoint_valid (n) (d) (m) (k) W
        simp only [q1, Bool.false_and] at h
        exact h
      clear q0 q1
      go_enter Try.func39, Try.ntmps39
      go_wp2_with fail
      refine (K1.out _).mono ?_
      rintro e w1 ⟨rfl, b1⟩
      have s1 := b1.size
      try simp at s1
      have z1_0 : w.heap.size < w1.heap.size := by omega
      have k1_0_0 : w1.cell? ⟨w.heap.size, 0, none⟩ = some (.int .i64 (a)) := (b1.cell (p := ⟨w.heap.size, 0, none⟩) (by first | (simp; done) | (simp; omega) | omega)).trans (by first | with_reducible assumption | (simp [go_sem]; done) | (simp [go_sem, *]; done))
      have g1_0_0 : w1.frozen? ⟨w.heap.size, 0, none⟩ = false := (b1.frozen (p := ⟨w.heap.size, 0, none⟩) (by first | (simp; done) | (simp; omega) | omega)).trans (by first | with_reducible assumption | (simp [go_sem]; done) | (simp [go_sem, *]; done))
      have k1_0_1 : w1.cell? ⟨w.heap.size, 1, none⟩ = some (.int .i64 (b)) := (b1.cell (p := ⟨w.heap.size, 1, none⟩) (by first | (simp; done) | (simp; omega) | omega)).trans (by first | with_reducible assumption | (simp [go_sem]; done) | (simp [go_sem, *]; done))
      have g1_0_1 : w1.frozen? ⟨w.heap.size, 1, none⟩ = false := (b1.frozen (p := ⟨w.heap.size, 1, none⟩) (by first | (simp; done) | (simp; omega) | omega)).trans (by first | with_reducible assumption | (simp [go_sem]; done) | (simp [go_sem, *]; done))
      have k1_0_2 : w1.cell? ⟨w.heap.size, 2, none⟩ = some (.int .i64 (c)) := (b1.cell (p := ⟨w.heap.size, 2, none⟩) (by first | (simp; done) | (simp; omega) | omega)).trans (by first | with_reducible assumption | (simp [go_sem]; done) | (simp [go_sem, *]; done))
      have g1_0_2 : w1.frozen? ⟨w.heap.size, 2, none⟩ = false := (b1.frozen (p := ⟨w.heap.size, 2, none⟩) (by first | (simp; done) | (simp; omega) | omega)).trans (by first | with_reducible assumption | (simp [go_sem]; done) | (simp [go_sem, *]; done))
      have z1_1 : w.heap.size + 1 < w1.heap.size := by omega
      have k1_1_0 : w1.cell? ⟨w.heap.size + 1, 0, none⟩ = some (.int .i64 (n)) := (b1.cell (p := ⟨w.heap.size + 1, 0, none⟩) (by first | (simp; done) | (simp; omega) | omega)).trans (by first | with_reducible assumption | (simp [go_sem]; done) | (simp [go_sem, *]; done))
      have g1_1_0 : w1.frozen? ⟨w.heap.size + 1, 0, none⟩ = false := (b1.frozen (p := ⟨w.heap.size + 1, 0, none⟩) (by first | (simp; done) | (simp; omega) | omega)).trans (by first | with_reducible assumption | (simp [go_sem]; done) | (simp [go_sem, *]; done))
      have k1_1_1 : w1.cell? ⟨w.heap.size + 1, 1, none⟩ = some (.int .i64 (d)) := (b1.cell (p := ⟨w.heap.size + 1, 1, none⟩) (by first | (simp; done) | (simp; omega) | omega)).trans (by first | with_reducible assumption | (simp [go_sem]; done) | (simp [go_sem, *]; done))
      have g1_1_1 : w1.frozen? ⟨w.heap.size + 1, 1, none⟩ = false := (b1.frozen (p := ⟨w.heap.size + 1, 1, none⟩) (by first | (simp; done) | (simp; omega) | omega)).trans (by first | with_reducible assumption | (simp [go_sem]; done) | (simp [go_sem, *]; done))
      have k1_1_2 : w1.cell? ⟨w.heap.size + 1, 2, none⟩ = some (.int .i64 (m)) := (b1.cell (p := ⟨w.heap.size + 1, 2, none⟩) (by first | (simp; done) | (simp; omega) | omega)).trans (by first | with_reducible assumption | (simp [go_sem]; done) | (simp [go_sem, *]; done))
      have g1_1_2 : w1.frozen? ⟨w.heap.size + 1, 2, none⟩ = false := (b1.frozen (p := ⟨w.heap.size + 1, 2, none⟩) (by first | (simp; done) | (simp; omega) | omega)).trans (by first | with_reducible assumption | (simp [go_sem]; done) | (simp [go_sem, *]; done))
      have k1_1_3 : w1.cell? ⟨w.heap.size + 1, 3, none⟩ = some (.int .i64 (k)) := (b1.cell (p := ⟨w.heap.size + 1, 3, none⟩) (by first | (simp; done) | (simp; omega) | omega)).trans (by first | with_reducible assumption | (simp [go_sem]; done) | (simp [go_sem, *]; done))
      have g1_1_3 : w1.frozen? ⟨w.heap.size + 1, 3, none⟩ = false := (b1.frozen (p := ⟨w.heap.size + 1, 3, none⟩) (by first | (simp; done) | (simp; omega) | omega)).trans (by first | with_reducible assumption | (simp [go_sem]; done) | (simp [go_sem, *]; done))
      go_wp2_with fail
      refine (K2.out _).mono ?_
      rintro e w2 ⟨rfl, b2⟩
      have s2 := b2.size
      try simp at s2
      have z2_0 : w.heap.size < w2.heap.size := by omega
      have k2_0_0 : w2.cell? ⟨w.heap.size, 0, none⟩ = some (.int .i64 (a)) := (b2.cell (p := ⟨w.heap.size, 0, none⟩) (by first | (simp; done) | (simp; omega) | omega)).trans (by first | with_reducible assumption | (simp [go_sem]; done) | (simp [go_sem, *]; done))
      have g2_0_0 : w2.frozen? ⟨w.heap.size, 0, none⟩ = false := (b2.frozen (p := ⟨w.heap.size, 0, none⟩) (by first | (simp; done) | (simp; omega) | omega)).trans (by first | with_reducible assumption | (simp [go_sem]; done) | (simp [go_sem, *]; done))
      have k2_0_1 : w2.cell? ⟨w.heap.size, 1, none⟩ = some (.int .i64 (b)) := (b2.cell (p := ⟨w.heap.size, 1, none⟩) (by first | (simp; done) | (simp; omega) | omega)).trans (by first | with_reducible assumption | (simp [go_sem]; done) | (simp [go_sem, *]; done))
      have g2_0_1 : w2.frozen? ⟨w.heap.size, 1, none⟩ = false := (b2.frozen (p := ⟨w.heap.size, 1, none⟩) (by first | (simp; done) | (simp; omega) | omega)).trans (by first | with_reducible assumption | (simp [go_sem]; done) | (simp [go_sem, *]; done))
      have k2_0_2 : w2.cell? ⟨w.heap.size, 2, none⟩ = some (.int .i64 (c)) := (b2.cell (p := ⟨w.heap.size, 2, none⟩) (by first | (simp; done) | (simp; omega) | omega)).trans (by first | with_reducible assumption | (simp [go_sem]; done) | (simp [go_sem, *]; done))
      have g2_0_2 : w2.frozen? ⟨w.heap.size, 2, none⟩ = false := (b2.frozen (p := ⟨w.heap.size, 2, none⟩) (by first | (simp; done) | (simp; omega) | omega)).trans (by first | with_reducible assumption | (simp [go_sem]; done) | (simp [go_sem, *]; done))
      have z2_1 : w.heap.size + 1 < w2.heap.size := by omega
      have k2_1_0 : w2.cell? ⟨w.heap.size + 1, 0, none⟩ = some (.int .i64 (n)) := (b2.cell (p := ⟨w.heap.size + 1, 0, none⟩) (by first | (simp; done) | (simp; omega) | omega)).trans (by first | with_reducible assumption | (simp [go_sem]; done) | (simp [go_sem, *]; done))
      have g2_1_0 : w2.frozen? ⟨w.heap.size + 1, 0, none⟩ = false := (b2.frozen (p := ⟨w.heap.size + 1, 0, none⟩) (by first | (simp; done) | (simp; omega) | omega)).trans (by first | with_reducible assumption | (simp [go_sem]; done) | (simp [go_sem, *]; done))
      have k2_1_1 : w2.cell? ⟨w.heap.size + 1, 1, none⟩ = some (.int .i64 (d)) := (b2.cell (p := ⟨w.heap.size + 1, 1, none⟩) (by first | (simp; done) | (simp; omega) | omega)).trans (by first | with_reducible assumption | (simp [go_sem]; done) | (simp [go_sem, *]; done))
      have g2_1_1 : w2.frozen? ⟨w.heap.size + 1, 1, none⟩ = false := (b2.frozen (p := ⟨w.heap.size + 1, 1, none⟩) (by first | (simp; done) | (simp; omega) | omega)).trans (by first | with_reducible assumption | (simp [go_sem]; done) | (simp [go_sem, *]; done))
      have k2_1_2 : w2.cell? ⟨w.heap.size + 1, 2, none⟩ = some (.int .i64 (m)) := (b2.cell (p := ⟨w.heap.size + 1, 2, none⟩) (by first | (simp; done) | (simp; omega) | omega)).trans (by first | with_reducible assumption | (simp [go_sem]; done) | (simp [go_sem, *]; done))
      have g2_1_2 : w2.frozen? ⟨w.heap.size + 1, 2, none⟩ = false := (b2.frozen (p := ⟨w.heap.size + 1, 2, none⟩) (by first | (simp; done) | (simp; omega) | omega)).trans (by first | with_reducible assumption | (simp [go_sem]; done) | (simp [go_sem, *]; done))
      have k2_1_3 : w2.cell? ⟨w.heap.size + 1, 3, none⟩ = some (.int .i64 (k)) := (b2.cell (p := ⟨w.heap.size + 1, 3, none⟩) (by first | (simp; done) | (simp; omega) | omega)).trans (by first | with_reducible assumption | (simp [go_sem]; done) | (simp [go_sem, *]; done))
      have g2_1_3 : w2.frozen? ⟨w.heap.size + 1, 3, none⟩ = false := (b2.frozen (p := ⟨w.heap.size + 1, 3, none⟩) (by first | (simp; done) | (simp; omega) | omega)).trans (by first | with_reducible assumption | (simp [go_sem]; done) | (simp [go_sem, *]; done))
      clear k1_0_0 g1_0_0 k1_0_1 g1_0_1 k1_0_2 g1_0_2 k1_1_0 g1_1_0 k1_1_1 g1_1_1 k1_1_2 g1_1_2 k1_1_3 g1_1_3
      go_wp2
      go_ret
      exact ⟨rfl, (by (repeat (first | with_reducible exact Below.refl _ _ | with_reducible refine bl_alloc ?_ _ | with_reducible refine bl_drew ?_ | with_reducible refine bl_set ?_ (by first | (simp; done) | (simp; omega)) _ | with_reducible refine bl_call (by assumption) ?_)))⟩
  
    | true =>
      cases q2 : ratB m k with
      | false =>
        have hr : SoF a b c n d m k = 2 := by simp [SoF, soOk, q0, q1, q2]
        rw [hr]
        clear hr
        have K1 : Hid (∀ W : World, Calls Try.prog 74 #[.agg #[.int .i64 a, .int .i64 b, .int .i64 c]] W fun e w' => e = .returned (.bool true) ∧ Below W.heap.size W w') := Lib.hid fun W => by
          have h := impl_Line_valid (a) (b) (c) W
          rw [q0] at h
          exact h
        have K2 : Hid (∀ W : World, Calls Try.prog 75 #[.agg #[.int .i64 n, .int .i64 d, .int .i64 m, .int .i64 k]] W fun e w' => e = .returned (.bool false) ∧ Below W.heap.size W w') := Lib.hid fun W => by
          have h := impl_RatPoint_valid (n) (d) (m) (k) W
          simp only [q1, q2, Bool.and_false] at h
          exact h
        clear q0 q1 q2
        go_enter Try.func39, Try.ntmps39
        go_wp2_with fail
        refine (K1.out _).mono ?_
        rintro e w1 ⟨rfl, b1⟩
        have s1 := b1.size
        try simp at s1
        have z1_0 : w.heap.size < w1.heap.size := by omega
        have k1_0_0 : w1.cell? ⟨w.heap.size, 0, none⟩ = some (.int .i64 (a)) := (b1.cell (p := ⟨w.heap.size, 0, none⟩) (by first | (simp; done) | (simp; omega) | omega)).trans (by first | with_reducible assumption | (simp [go_sem]; done) | (simp [go_sem, *]; done))
        have g1_0_0 : w1.frozen? ⟨w.heap.size, 0, none⟩ = false := (b1.frozen (p := ⟨w.heap.size, 0, none⟩) (by first | (simp; done) | (simp; omega) | omega)).trans (by first | with_reducible assumption | (simp [go_sem]; done) | (simp [go_sem, *]; done))
        have k1_0_1 : w1.cell? ⟨w.heap.size, 1, none⟩ = some (.int .i64 (b)) := (b1.cell (p := ⟨w.heap.size, 1, none⟩) (by first | (simp; done) | (simp; omega) | omega)).trans (by first | with_reducible assumption | (simp [go_sem]; done) | (simp [go_sem, *]; done))
        have g1_0_1 : w1.frozen? ⟨w.heap.size, 1, none⟩ = false := (b1.frozen (p := ⟨w.heap.size, 1, none⟩) (by first | (simp; done) | (simp; omega) | omega)).trans (by first | with_reducible assumption | (simp [go_sem]; done) | (simp [go_sem, *]; done))
        have k1_0_2 : w1.cell? ⟨w.heap.size, 2, none⟩ = some (.int .i64 (c)) := (b1.cell (p := ⟨w.heap.size, 2, none⟩) (by first | (simp; done) | (simp; omega) | omega)).trans (by first | with_reducible assumption | (simp [go_sem]; done) | (simp [go_sem, *]; done))
        have g1_0_2 : w1.frozen? ⟨w.heap.size, 2, none⟩ = false := (b1.frozen (p := ⟨w.heap.size, 2, none⟩) (by first | (simp; done) | (simp; omega) | omega)).trans (by first | with_reducible assumption | (simp [go_sem]; done) | (simp [go_sem, *]; done))
        have z1_1 : w.heap.size + 1 < w1.heap.size := by omega
        have k1_1_0 : w1.cell? ⟨w.heap.size + 1, 0, none⟩ = some (.int .i64 (n)) := (b1.cell (p := ⟨w.heap.size + 1, 0, none⟩) (by first | (simp; done) | (simp; omega) | omega)).trans (by first | with_reducible assumption | (simp [go_sem]; done) | (simp [go_sem, *]; done))
        have g1_1_0 : w1.frozen? ⟨w.heap.size + 1, 0, none⟩ = false := (b1.frozen (p := ⟨w.heap.size + 1, 0, none⟩) (by first | (simp; done) | (simp; omega) | omega)).trans (by first | with_reducible assumption | (simp [go_sem]; done) | (simp [go_sem, *]; done))
        have k1_1_1 : w1.cell? ⟨w.heap.size + 1, 1, none⟩ = some (.int .i64 (d)) := (b1.cell (p := ⟨w.heap.size + 1, 1, none⟩) (by first | (simp; done) | (simp; omega) | omega)).trans (by first | with_reducible assumption | (simp [go_sem]; done) | (simp [go_sem, *]; done))
        have g1_1_1 : w1.frozen? ⟨w.heap.size + 1, 1, none⟩ = false := (b1.frozen (p := ⟨w.heap.size + 1, 1, none⟩) (by first | (simp; done) | (simp; omega) | omega)).trans (by first | with_reducible assumption | (simp [go_sem]; done) | (simp [go_sem, *]; done))
        have k1_1_2 : w1.cell? ⟨w.heap.size + 1, 2, none⟩ = some (.int .i64 (m)) := (b1.cell (p := ⟨w.heap.size + 1, 2, none⟩) (by first | (simp; done) | (simp; omega) | omega)).trans (by first | with_reducible assumption | (simp [go_sem]; done) | (simp [go_sem, *]; done))
        have g1_1_2 : w1.frozen? ⟨w.heap.size + 1, 2, none⟩ = false := (b1.frozen (p := ⟨w.heap.size + 1, 2, none⟩) (by first | (simp; done) | (simp; omega) | omega)).trans (by first | with_reducible assumption | (simp [go_sem]; done) | (simp [go_sem, *]; done))
        have k1_1_3 : w1.cell? ⟨w.heap.size + 1, 3, none⟩ = some (.int .i64 (k)) := (b1.cell (p := ⟨w.heap.size + 1, 3, none⟩) (by first | (simp; done) | (simp; omega) | omega)).trans (by first | with_reducible assumption | (simp [go_sem]; done) | (simp [go_sem, *]; done))
        have g1_1_3 : w1.frozen? ⟨w.heap.size + 1, 3, none⟩ = false := (b1.frozen (p := ⟨w.heap.size + 1, 3, none⟩) (by first | (simp; done) | (simp; omega) | omega)).trans (by first | with_reducible assumption | (simp [go_sem]; done) | (simp [go_sem, *]; done))
        go_wp2_with fail
        refine (K2.out _).mono ?_
        rintro e w2 ⟨rfl, b2⟩
        have s2 := b2.size
        try simp at s2
        have z2_0 : w.heap.size < w2.heap.size := by omega
        have k2_0_0 : w2.cell? ⟨w.heap.size, 0, none⟩ = some (.int .i64 (a)) := (b2.cell (p := ⟨w.heap.size, 0, none⟩) (by first | (simp; done) | (simp; omega) | omega)).trans (by first | with_reducible assumption | (simp [go_sem]; done) | (simp [go_sem, *]; done))
        have g2_0_0 : w2.frozen? ⟨w.heap.size, 0, none⟩ = false := (b2.frozen (p := ⟨w.heap.size, 0, none⟩) (by first | (simp; done) | (simp; omega) | omega)).trans (by first | with_reducible assumption | (simp [go_sem]; done) | (simp [go_sem, *]; done))
        have k2_0_1 : w2.cell? ⟨w.heap.size, 1, none⟩ = some (.int .i64 (b)) := (b2.cell (p := ⟨w.heap.size, 1, none⟩) (by first | (simp; done) | (simp; omega) | omega)).trans (by first | with_reducible assumption | (simp [go_sem]; done) | (simp [go_sem, *]; done))
        have g2_0_1 : w2.frozen? ⟨w.heap.size, 1, none⟩ = false := (b2.frozen (p := ⟨w.heap.size, 1, none⟩) (by first | (simp; done) | (simp; omega) | omega)).trans (by first | with_reducible assumption | (simp [go_sem]; done) | (simp [go_sem, *]; done))
        have k2_0_2 : w2.cell? ⟨w.heap.size, 2, none⟩ = some (.int .i64 (c)) := (b2.cell (p := ⟨w.heap.size, 2, none⟩) (by first | (simp; done) | (simp; omega) | omega)).trans (by first | with_reducible assumption | (simp [go_sem]; done) | (simp [go_sem, *]; done))
        have g2_0_2 : w2.frozen? ⟨w.heap.size, 2, none⟩ = false := (b2.frozen (p := ⟨w.heap.size, 2, none⟩) (by first | (simp; done) | (simp; omega) | omega)).trans (by first | with_reducible assumption | (simp [go_sem]; done) | (simp [go_sem, *]; done))
        have z2_1 : w.heap.size + 1 < w2.heap.size := by omega
        have k2_1_0 : w2.cell? ⟨w.heap.size + 1, 0, none⟩ = some (.int .i64 (n)) := (b2.cell (p := ⟨w.heap.size + 1, 0, none⟩) (by first | (simp; done) | (simp; omega) | omega)).trans (by first | with_reducible assumption | (simp [go_sem]; done) | (simp [go_sem, *]; done))
        have g2_1_0 : w2.frozen? ⟨w.heap.size + 1, 0, none⟩ = false := (b2.frozen (p := ⟨w.heap.size + 1, 0, none⟩) (by first | (simp; done) | (simp; omega) | omega)).trans (by first | with_reducible assumption | (simp [go_sem]; done) | (simp [go_sem, *]; done))
        have k2_1_1 : w2.cell? ⟨w.heap.size + 1, 1, none⟩ = some (.int .i64 (d)) := (b2.cell (p := ⟨w.heap.size + 1, 1, none⟩) (by first | (simp; done) | (simp; omega) | omega)).trans (by first | with_reducible assumption | (simp [go_sem]; done) | (simp [go_sem, *]; done))
        have g2_1_1 : w2.frozen? ⟨w.heap.size + 1, 1, none⟩ = false := (b2.frozen (p := ⟨w.heap.size + 1, 1, none⟩) (by first | (simp; done) | (simp; omega) | omega)).trans (by first | with_reducible assumption | (simp [go_sem]; done) | (simp [go_sem, *]; done))
        have k2_1_2 : w2.cell? ⟨w.heap.size + 1, 2, none⟩ = some (.int .i64 (m)) := (b2.cell (p := ⟨w.heap.size + 1, 2, none⟩) (by first | (simp; done) | (simp; omega) | omega)).trans (by first | with_reducible assumption | (simp [go_sem]; done) | (simp [go_sem, *]; done))
        have g2_1_2 : w2.frozen? ⟨w.heap.size + 1, 2, none⟩ = false := (b2.frozen (p := ⟨w.heap.size + 1, 2, none⟩) (by first | (simp; done) | (simp; omega) | omega)).trans (by first | with_reducible assumption | (simp [go_sem]; done) | (simp [go_sem, *]; done))
        have k2_1_3 : w2.cell? ⟨w.heap.size + 1, 3, none⟩ = some (.int .i64 (k)) := (b2.cell (p := ⟨w.heap.size + 1, 3, none⟩) (by first | (simp; done) | (simp; omega) | omega)).trans (by first | with_reducible assumption | (simp [go_sem]; done) | (simp [go_sem, *]; done))
        have g2_1_3 : w2.frozen? ⟨w.heap.size + 1, 3, none⟩ = false := (b2.frozen (p := ⟨w.heap.size + 1, 3, none⟩) (by first | (simp; done) | (simp; omega) | omega)).trans (by first | with_reducible assumption | (simp [go_sem]; done) | (simp [go_sem, *]; done))
        clear k1_0_0 g1_0_0 k1_0_1 g1_0_1 k1_0_2 g1_0_2 k1_1_0 g1_1_0 k1_1_1 g1_1_1 k1_1_2 g1_1_2 k1_1_3 g1_1_3
        go_wp2
        go_ret
        exact ⟨rfl, (by (repeat (first | with_reducible exact Below.refl _ _ | with_reducible refine bl_alloc ?_ _ | with_reducible refine bl_drew ?_ | with_reducible refine bl_set ?_ (by first | (simp; done) | (simp; omega)) _ | with_reducible refine bl_call (by assumption) ?_)))⟩
  
      | true =>
        by_cases q3 : soD d k * k ≤ 20000000
        · by_cases q4 : iabs n ≤ 10000 * d
          · by_cases q5 : iabs m ≤ 10000 * k
            · have hr : SoF a b c n d m k = soV a b c n d m k := by simp [SoF, soOk, q0, q1, q2, q3, q4, q5]
              rw [hr]
              clear hr
              obtain ⟨⟨la, ua⟩, ⟨lb, ub⟩, ⟨lc, uc⟩⟩ := lineB_tr q0
              obtain ⟨⟨ln, un⟩, ⟨ld, ud⟩⟩ := ratB_true q1
              obtain ⟨⟨lm, um⟩, ⟨lk, uk⟩⟩ := ratB_true q2
              obtain ⟨g1, gl, e1, e2, ⟨p1, p2⟩, ⟨r1, r2⟩, e3⟩ := so_div d k ld lk
              have pg1 : d / gcdI d k = soD d k := rfl
              have pg2 : k / gcdI d k = soK d k := rfl
              obtain ⟨f1, f2⟩ := so_quo d k ld lk
              obtain ⟨m1, m2⟩ := mul_bd (soD d k) k 20000000 20000000 (by omega) (by omega) (by omega) (by omega)
              have m0 := Int.mul_nonneg (show 0 ≤ soD d k by omega) (show 0 ≤ k by omega)
              have K1 : Hid (∀ W : World, Calls Try.prog 74 #[.agg #[.int .i64 a, .int .i64 b, .int .i64 c]] W fun e w' => e = .returned (.bool true) ∧ Below W.heap.size W w') := Lib.hid fun W => by
                have h := impl_Line_valid (a) (b) (c) W
                rw [q0] at h
                exact h
              have K2 : Hid (∀ W : World, Calls Try.prog 75 #[.agg #[.int .i64 n, .int .i64 d, .int .i64 m, .int .i64 k]] W fun e w' => e = .returned (.bool true) ∧ Below W.heap.size W w') := Lib.hid fun W => by
                have h := impl_RatPoint_valid (n) (d) (m) (k) W
                simp only [q1, q2, Bool.and_self] at h
                exact h
              have K3 : Hid (∀ W : World, Calls Try.prog 44 #[.int .i64 d, .int .i64 k] W fun e w' => e = .returned (.int .i64 (gcdI d k)) ∧ Below W.heap.size W w') := Lib.hid fun W => by
                have h := impl_divisor (d) (k) W (by omega) (by omega) (by omega) (by omega)
                exact h
              have K4 : Hid (∀ W : World, Calls Try.prog 76 #[.agg #[.int .i64 n, .int .i64 d]] W fun e w' => e = .returned (.bool true) ∧ Below W.heap.size W w') := Lib.hid fun W => by
                have h := impl_Rat_reaches (n) (d) W (by omega) (by omega)
                rw [decide_eq_true q4] at h
                exact h
              have K5 : Hid (∀ W : World, Calls Try.prog 76 #[.agg #[.int .i64 m, .int .i64 k]] W fun e w' => e = .returned (.bool true) ∧ Below W.heap.size W w') := Lib.hid fun W => by
                have h := impl_Rat_reaches (m) (k) W (by omega) (by omega)
                rw [decide_eq_true q5] at h
                exact h
              obtain ⟨⟨l1, u1⟩, ⟨l2, u2⟩⟩ := so_bds n d m k ld lk q3 q4 q5
              obtain ⟨n1, n2⟩ := mul_bd a (n * soK d k) 2000 200000000000 (by omega) (by omega) (by omega) (by omega)
              obtain ⟨n3, n4⟩ := mul_bd b (m * soD d k) 2000 200000000000 (by omega) (by omega) (by omega) (by omega)
              obtain ⟨n5, n6⟩ := mul_bd c (soD d k) 4000000 20000000 (by omega) (by omega) (by omega) (by omega)
              obtain ⟨n7, n8⟩ := mul_bd c (soD d k * k) 4000000 20000000 (by omega) (by have := Int.mul_nonneg (show 0 ≤ soD d k by omega) (show 0 ≤ k by omega); omega) (by omega) (by omega)
              rw [← Int.mul_assoc] at n7 n8
              rw [← Int.mul_assoc] at n1 n2 n3 n4
              rw [Int.mul_assoc] at n7 n8
              obtain ⟨x1, x2⟩ := mul_bd a n 2000 100000000000 (by omega) (by omega) (by omega) (by omega)
              obtain ⟨x3, x4⟩ := mul_bd b m 2000 100000000000 (by omega) (by omega) (by omega) (by omega)
              have hfl : sgnI (a * n * soK d k + b * m * soD d k - c * (soD d k * k)) = soV a b c n d m k := by unfold soV; rw [so_flat]
              have K6 : Hid (∀ W : World, Calls Try.prog 77 #[.int .i64 (a * n * soK d k + b * m * soD d k - c * (soD d k * k))] W fun e w' => e = .returned (.int .i64 (soV a b c n d m k)) ∧ W = w') := Lib.hid fun W => by
                have h := impl_sign (a * n * soK d k + b * m * soD d k - c * (soD d k * k)) W
                rw [hfl] at h
                exact h
              clear hfl
              generalize soV a b c n d m k = R at *
              have v0 : (soD d k * k ≤ 20000000) := by omega
              clear q0 q1 q2 q3 q4 q5
              generalize gcdI d k = G at *
              generalize soD d k = D1 at *
              generalize soK d k = KQ at *
              have pf1 : D1 * k / d = KQ := by rw [← Int.tdiv_eq_ediv_of_nonneg m0]; exact f1
              have pf2 : D1 * k / k = D1 := by rw [← Int.tdiv_eq_ediv_of_nonneg m0]; exact f2
              have wr0 : IntKind.i64.wrap (D1) = D1 := IntWalk.i64_in _ (by omega)
              have wr1 : IntKind.i64.wrap (D1 * k) = D1 * k := IntWalk.i64_in _ (by omega)
              have wr2 : IntKind.i64.wrap (KQ) = KQ := IntWalk.i64_in _ (by omega)
              have wr3 : IntKind.i64.wrap (a * n) = a * n := IntWalk.i64_in _ (by omega)
              have wr4 : IntKind.i64.wrap (a * n * KQ) = a * n * KQ := IntWalk.i64_in _ (by omega)
              have wr5 : IntKind.i64.wrap (b * m) = b * m := IntWalk.i64_in _ (by omega)
              have wr6 : IntKind.i64.wrap (b * m * D1) = b * m * D1 := IntWalk.i64_in _ (by omega)
              have wr7 : IntKind.i64.wrap (a * n * KQ + b * m * D1) = a * n * KQ + b * m * D1 := IntWalk.i64_in _ (by omega)
              have wr8 : IntKind.i64.wrap (c * (D1 * k)) = c * (D1 * k) := IntWalk.i64_in _ (by omega)
              have wr9 : IntKind.i64.wrap (a * n * KQ + b * m * D1 - c * (D1 * k)) = a * n * KQ + b * m * D1 - c * (D1 * k) := IntWalk.i64_in _ (by omega)
              have vb : decide (20000000 < D1 * k) = false := decide_eq_false (by omega)
              have gz : ¬ G = 0 := by omega
              have dz : ¬ d = 0 := by omega
              have kz : ¬ k = 0 := by omega
              clear e3
              go_enter Try.func39, Try.ntmps39
              go_wp2_with fail
              refine (K1.out _).mono ?_
              rintro e w1 ⟨rfl, b1⟩
              have s1 := b1.size
              try simp at s1
              have z1_0 : w.heap.size < w1.heap.size := by omega
              have k1_0_0 : w1.cell? ⟨w.heap.size, 0, none⟩ = some (.int .i64 (a)) := (b1.cell (p := ⟨w.heap.size, 0, none⟩) (by first | (simp; done) | (simp; omega) | omega)).trans (by first | with_reducible assumption | (simp [go_sem]; done) | (simp [go_sem, *]; done))
              have g1_0_0 : w1.frozen? ⟨w.heap.size, 0, none⟩ = false := (b1.frozen (p := ⟨w.heap.size, 0, none⟩) (by first | (simp; done) | (simp; omega) | omega)).trans (by first | with_reducible assumption | (simp [go_sem]; done) | (simp [go_sem, *]; done))
              have k1_0_1 : w1.cell? ⟨w.heap.size, 1, none⟩ = some (.int .i64 (b)) := (b1.cell (p := ⟨w.heap.size, 1, none⟩) (by first | (simp; done) | (simp; omega) | omega)).trans (by first | with_reducible assumption | (simp [go_sem]; done) | (simp [go_sem, *]; done))
              have g1_0_1 : w1.frozen? ⟨w.heap.size, 1, none⟩ = false := (b1.frozen (p := ⟨w.heap.size, 1, none⟩) (by first | (simp; done) | (simp; omega) | omega)).trans (by first | with_reducible assumption | (simp [go_sem]; done) | (simp [go_sem, *]; done))
              have k1_0_2 : w1.cell? ⟨w.heap.size, 2, none⟩ = some (.int .i64 (c)) := (b1.cell (p := ⟨w.heap.size, 2, none⟩) (by first | (simp; done) | (simp; omega) | omega)).trans (by first | with_reducible assumption | (simp [go_sem]; done) | (simp [go_sem, *]; done))
              have g1_0_2 : w1.frozen? ⟨w.heap.size, 2, none⟩ = false := (b1.frozen (p := ⟨w.heap.size, 2, none⟩) (by first | (simp; done) | (simp; omega) | omega)).trans (by first | with_reducible assumption | (simp [go_sem]; done) | (simp [go_sem, *]; done))
              have z1_1 : w.heap.size + 1 < w1.heap.size := by omega
              have k1_1_0 : w1.cell? ⟨w.heap.size + 1, 0, none⟩ = some (.int .i64 (n)) := (b1.cell (p := ⟨w.heap.size + 1, 0, none⟩) (by first | (simp; done) | (simp; omega) | omega)).trans (by first | with_reducible assumption | (simp [go_sem]; done) | (simp [go_sem, *]; done))
              have g1_1_0 : w1.frozen? ⟨w.heap.size + 1, 0, none⟩ = false := (b1.frozen (p := ⟨w.heap.size + 1, 0, none⟩) (by first | (simp; done) | (simp; omega) | omega)).trans (by first | with_reducible assumption | (simp [go_sem]; done) | (simp [go_sem, *]; done))
              have k1_1_1 : w1.cell? ⟨w.heap.size + 1, 1, none⟩ = some (.int .i64 (d)) := (b1.cell (p := ⟨w.heap.size + 1, 1, none⟩) (by first | (simp; done) | (simp; omega) | omega)).trans (by first | with_reducible assumption | (simp [go_sem]; done) | (simp [go_sem, *]; done))
              have g1_1_1 : w1.frozen? ⟨w.heap.size + 1, 1, none⟩ = false := (b1.frozen (p := ⟨w.heap.size + 1, 1, none⟩) (by first | (simp; done) | (simp; omega) | omega)).trans (by first | with_reducible assumption | (simp [go_sem]; done) | (simp [go_sem, *]; done))
              have k1_1_2 : w1.cell? ⟨w.heap.size + 1, 2, none⟩ = some (.int .i64 (m)) := (b1.cell (p := ⟨w.heap.size + 1, 2, none⟩) (by first | (simp; done) | (simp; omega) | omega)).trans (by first | with_reducible assumption | (simp [go_sem]; done) | (simp [go_sem, *]; done))
              have g1_1_2 : w1.frozen? ⟨w.heap.size + 1, 2, none⟩ = false := (b1.frozen (p := ⟨w.heap.size + 1, 2, none⟩) (by first | (simp; done) | (simp; omega) | omega)).trans (by first | with_reducible assumption | (simp [go_sem]; done) | (simp [go_sem, *]; done))
              have k1_1_3 : w1.cell? ⟨w.heap.size + 1, 3, none⟩ = some (.int .i64 (k)) := (b1.cell (p := ⟨w.heap.size + 1, 3, none⟩) (by first | (simp; done) | (simp; omega) | omega)).trans (by first | with_reducible assumption | (simp [go_sem]; done) | (simp [go_sem, *]; done))
              have g1_1_3 : w1.frozen? ⟨w.heap.size + 1, 3, none⟩ = false := (b1.frozen (p := ⟨w.heap.size + 1, 3, none⟩) (by first | (simp; done) | (simp; omega) | omega)).trans (by first | with_reducible assumption | (simp [go_sem]; done) | (simp [go_sem, *]; done))
              go_wp2_with fail
              refine (K2.out _).mono ?_
              rintro e w2 ⟨rfl, b2⟩
              have s2 := b2.size
              try simp at s2
              have z2_0 : w.heap.size < w2.heap.size := by omega
              have k2_0_0 : w2.cell? ⟨w.heap.size, 0, none⟩ = some (.int .i64 (a)) := (b2.cell (p := ⟨w.heap.size, 0, none⟩) (by first | (simp; done) | (simp; omega) | omega)).trans (by first | with_reducible assumption | (simp [go_sem]; done) | (simp [go_sem, *]; done))
              have g2_0_0 : w2.frozen? ⟨w.heap.size, 0, none⟩ = false := (b2.frozen (p := ⟨w.heap.size, 0, none⟩) (by first | (simp; done) | (simp; omega) | omega)).trans (by first | with_reducible assumption | (simp [go_sem]; done) | (simp [go_sem, *]; done))
              have k2_0_1 : w2.cell? ⟨w.heap.size, 1, none⟩ = some (.int .i64 (b)) := (b2.cell (p := ⟨w.heap.size, 1, none⟩) (by first | (simp; done) | (simp; omega) | omega)).trans (by first | with_reducible assumption | (simp [go_sem]; done) | (simp [go_sem, *]; done))
              have g2_0_1 : w2.frozen? ⟨w.heap.size, 1, none⟩ = false := (b2.frozen (p := ⟨w.heap.size, 1, none⟩) (by first | (simp; done) | (simp; omega) | omega)).trans (by first | with_reducible assumption | (simp [go_sem]; done) | (simp [go_sem, *]; done))
              have k2_0_2 : w2.cell? ⟨w.heap.size, 2, none⟩ = some (.int .i64 (c)) := (b2.cell (p := ⟨w.heap.size, 2, none⟩) (by first | (simp; done) | (simp; omega) | omega)).trans (by first | with_reducible assumption | (simp [go_sem]; done) | (simp [go_sem, *]; done))
              have g2_0_2 : w2.frozen? ⟨w.heap.size, 2, none⟩ = false := (b2.frozen (p := ⟨w.heap.size, 2, none⟩) (by first | (simp; done) | (simp; omega) | omega)).trans (by first | with_reducible assumption | (simp [go_sem]; done) | (simp [go_sem, *]; done))
              have z2_1 : w.heap.size + 1 < w2.heap.size := by omega
              have k2_1_0 : w2.cell? ⟨w.heap.size + 1, 0, none⟩ = some (.int .i64 (n)) := (b2.cell (p := ⟨w.heap.size + 1, 0, none⟩) (by first | (simp; done) | (simp; omega) | omega)).trans (by first | with_reducible assumption | (simp [go_sem]; done) | (simp [go_sem, *]; done))
              have g2_1_0 : w2.frozen? ⟨w.heap.size + 1, 0, none⟩ = false := (b2.frozen (p := ⟨w.heap.size + 1, 0, none⟩) (by first | (simp; done) | (simp; omega) | omega)).trans (by first | with_reducible assumption | (simp [go_sem]; done) | (simp [go_sem, *]; done))
              have k2_1_1 : w2.cell? ⟨w.heap.size + 1, 1, none⟩ = some (.int .i64 (d)) := (b2.cell (p := ⟨w.heap.size + 1, 1, none⟩) (by first | (simp; done) | (simp; omega) | omega)).trans (by first | with_reducible assumption | (simp [go_sem]; done) | (simp [go_sem, *]; done))
              have g2_1_1 : w2.frozen? ⟨w.heap.size + 1, 1, none⟩ = false := (b2.frozen (p := ⟨w.heap.size + 1, 1, none⟩) (by first | (simp; done) | (simp; omega) | omega)).trans (by first | with_reducible assumption | (simp [go_sem]; done) | (simp [go_sem, *]; done))
              have k2_1_2 : w2.cell? ⟨w.heap.size + 1, 2, none⟩ = some (.int .i64 (m)) := (b2.cell (p := ⟨w.heap.size + 1, 2, none⟩) (by first | (simp; done) | (simp; omega) | omega)).trans (by first | with_reducible assumption | (simp [go_sem]; done) | (simp [go_sem, *]; done))
              have g2_1_2 : w2.frozen? ⟨w.heap.size + 1, 2, none⟩ = false := (b2.frozen (p := ⟨w.heap.size + 1, 2, none⟩) (by first | (simp; done) | (simp; omega) | omega)).trans (by first | with_reducible assumption | (simp [go_sem]; done) | (simp [go_sem, *]; done))
              have k2_1_3 : w2.cell? ⟨w.heap.size + 1, 3, none⟩ = some (.int .i64 (k)) := (b2.cell (p := ⟨w.heap.size + 1, 3, none⟩) (by first | (simp; done) | (simp; omega) | omega)).trans (by first | with_reducible assumption | (simp [go_sem]; done) | (simp [go_sem, *]; done))
              have g2_1_3 : w2.frozen? ⟨w.heap.size + 1, 3, none⟩ = false := (b2.frozen (p := ⟨w.heap.size + 1, 3, none⟩) (by first | (simp; done) | (simp; omega) | omega)).trans (by first | with_reducible assumption | (simp [go_sem]; done) | (simp [go_sem, *]; done))
              clear k1_0_0 g1_0_0 k1_0_1 g1_0_1 k1_0_2 g1_0_2 k1_1_0 g1_1_0 k1_1_1 g1_1_1 k1_1_2 g1_1_2 k1_1_3 g1_1_3
              go_wp2
              have kc0 := cell_regrown (w := w2) (a := ⟨w.heap.size, 0, none⟩) (v := .int .i64 (a)) (by first | ((repeat (first | with_reducible assumption | with_reducible refine calloc ?_ _)); done) | (simp [go_sem]; done) | (simp [go_sem, *]; done))
              have kc1 := cell_regrown (w := w2) (a := ⟨w.heap.size, 1, none⟩) (v := .int .i64 (b)) (by first | ((repeat (first | with_reducible assumption | with_reducible refine calloc ?_ _)); done) | (simp [go_sem]; done) | (simp [go_sem, *]; done))
              have kc2 := cell_regrown (w := w2) (a := ⟨w.heap.size, 2, none⟩) (v := .int .i64 (c)) (by first | ((repeat (first | with_reducible assumption | with_reducible refine calloc ?_ _)); done) | (simp [go_sem]; done) | (simp [go_sem, *]; done))
              have kc3 := cell_regrown (w := w2) (a := ⟨w.heap.size + 1, 0, none⟩) (v := .int .i64 (n)) (by first | ((repeat (first | with_reducible assumption | with_reducible refine calloc ?_ _)); done) | (simp [go_sem]; done) | (simp [go_sem, *]; done))
              have kc4 := cell_regrown (w := w2) (a := ⟨w.heap.size + 1, 1, none⟩) (v := .int .i64 (d)) (by first | ((repeat (first | with_reducible assumption | with_reducible refine calloc ?_ _)); done) | (simp [go_sem]; done) | (simp [go_sem, *]; done))
              have kc5 := cell_regrown (w := w2) (a := ⟨w.heap.size + 1, 2, none⟩) (v := .int .i64 (m)) (by first | ((repeat (first | with_reducible assumption | with_reducible refine calloc ?_ _)); done) | (simp [go_sem]; done) | (simp [go_sem, *]; done))
              have kc6 := cell_regrown (w := w2) (a := ⟨w.heap.size + 1, 3, none⟩) (v := .int .i64 (k)) (by first | ((repeat (first | with_reducible assumption | with_reducible refine calloc ?_ _)); done) | (simp [go_sem]; done) | (simp [go_sem, *]; done))
              refine wp_region_quiet_below (by kernel_rfl) (by kernel_rfl) ?_
              repeat (go_big_quiet_step ((first | (go_at_call 44; exact Calls.regrown_of (K3.out _)))))
              refine wpQuiet_nil ?_
              intro w3 hw'
              have b3 : Below w2.heap.size w2 w3 := by
                obtain ⟨pp, rfl⟩ := hw'
                exact below_regrown _ _ _
              clear hw' kc0 kc1 kc2 kc3 kc4 kc5 kc6
              have s3 := b3.size
              try simp at s3
              have z3_0 : w.heap.size < w3.heap.size := by omega
              have k3_0_0 : w3.cell? ⟨w.heap.size, 0, none⟩ = some (.int .i64 (a)) := (b3.cell (p := ⟨w.heap.size, 0, none⟩) (by first | (simp; done) | (simp; omega) | omega)).trans (by first | with_reducible assumption | (simp [go_sem]; done) | (simp [go_sem, *]; done))
              have g3_0_0 : w3.frozen? ⟨w.heap.size, 0, none⟩ = false := (b3.frozen (p := ⟨w.heap.size, 0, none⟩) (by first | (simp; done) | (simp; omega) | omega)).trans (by first | with_reducible assumption | (simp [go_sem]; done) | (simp [go_sem, *]; done))
              have k3_0_1 : w3.cell? ⟨w.heap.size, 1, none⟩ = some (.int .i64 (b)) := (b3.cell (p := ⟨w.heap.size, 1, none⟩) (by first | (simp; done) | (simp; omega) | omega)).trans (by first | with_reducible assumption | (simp [go_sem]; done) | (simp [go_sem, *]; done))
              have g3_0_1 : w3.frozen? ⟨w.heap.size, 1, none⟩ = false := (b3.frozen (p := ⟨w.heap.size, 1, none⟩) (by first | (simp; done) | (simp; omega) | omega)).trans (by first | with_reducible assumption | (simp [go_sem]; done) | (simp [go_sem, *]; done))
              have k3_0_2 : w3.cell? ⟨w.heap.size, 2, none⟩ = some (.int .i64 (c)) := (b3.cell (p := ⟨w.heap.size, 2, none⟩) (by first | (simp; done) | (simp; omega) | omega)).trans (by first | with_reducible assumption | (simp [go_sem]; done) | (simp [go_sem, *]; done))
              have g3_0_2 : w3.frozen? ⟨w.heap.size, 2, none⟩ = false := (b3.frozen (p := ⟨w.heap.size, 2, none⟩) (by first | (simp; done) | (simp; omega) | omega)).trans (by first | with_reducible assumption | (simp [go_sem]; done) | (simp [go_sem, *]; done))
              have z3_1 : w.heap.size + 1 < w3.heap.size := by omega
              have k3_1_0 : w3.cell? ⟨w.heap.size + 1, 0, none⟩ = some (.int .i64 (n)) := (b3.cell (p := ⟨w.heap.size + 1, 0, none⟩) (by first | (simp; done) | (simp; omega) | omega)).trans (by first | with_reducible assumption | (simp [go_sem]; done) | (simp [go_sem, *]; done))
              have g3_1_0 : w3.frozen? ⟨w.heap.size + 1, 0, none⟩ = false := (b3.frozen (p := ⟨w.heap.size + 1, 0, none⟩) (by first | (simp; done) | (simp; omega) | omega)).trans (by first | with_reducible assumption | (simp [go_sem]; done) | (simp [go_sem, *]; done))
              have k3_1_1 : w3.cell? ⟨w.heap.size + 1, 1, none⟩ = some (.int .i64 (d)) := (b3.cell (p := ⟨w.heap.size + 1, 1, none⟩) (by first | (simp; done) | (simp; omega) | omega)).trans (by first | with_reducible assumption | (simp [go_sem]; done) | (simp [go_sem, *]; done))
              have g3_1_1 : w3.frozen? ⟨w.heap.size + 1, 1, none⟩ = false := (b3.frozen (p := ⟨w.heap.size + 1, 1, none⟩) (by first | (simp; done) | (simp; omega) | omega)).trans (by first | with_reducible assumption | (simp [go_sem]; done) | (simp [go_sem, *]; done))
              have k3_1_2 : w3.cell? ⟨w.heap.size + 1, 2, none⟩ = some (.int .i64 (m)) := (b3.cell (p := ⟨w.heap.size + 1, 2, none⟩) (by first | (simp; done) | (simp; omega) | omega)).trans (by first | with_reducible assumption | (simp [go_sem]; done) | (simp [go_sem, *]; done))
              have g3_1_2 : w3.frozen? ⟨w.heap.size + 1, 2, none⟩ = false := (b3.frozen (p := ⟨w.heap.size + 1, 2, none⟩) (by first | (simp; done) | (simp; omega) | omega)).trans (by first | with_reducible assumption | (simp [go_sem]; done) | (simp [go_sem, *]; done))
              have k3_1_3 : w3.cell? ⟨w.heap.size + 1, 3, none⟩ = some (.int .i64 (k)) := (b3.cell (p := ⟨w.heap.size + 1, 3, none⟩) (by first | (simp; done) | (simp; omega) | omega)).trans (by first | with_reducible assumption | (simp [go_sem]; done) | (simp [go_sem, *]; done))
              have g3_1_3 : w3.frozen? ⟨w.heap.size + 1, 3, none⟩ = false := (b3.frozen (p := ⟨w.heap.size + 1, 3, none⟩) (by first | (simp; done) | (simp; omega) | omega)).trans (by first | with_reducible assumption | (simp [go_sem]; done) | (simp [go_sem, *]; done))
              clear k2_0_0 g2_0_0 k2_0_1 g2_0_1 k2_0_2 g2_0_2 k2_1_0 g2_1_0 k2_1_1 g2_1_1 k2_1_2 g2_1_2 k2_1_3 g2_1_3
              go_wp2_with fail
              refine (K4.out _).mono ?_
              rintro e w4 ⟨rfl, b4⟩
              have s4 := b4.size
              try simp at s4
              have z4_0 : w.heap.size < w4.heap.size := by omega
              have k4_0_0 : w4.cell? ⟨w.heap.size, 0, none⟩ = some (.int .i64 (a)) := (b4.cell (p := ⟨w.heap.size, 0, none⟩) (by first | (simp; done) | (simp; omega) | omega)).trans (by first | with_reducible assumption | (simp [go_sem]; done) | (simp [go_sem, *]; done))
              have g4_0_0 : w4.frozen? ⟨w.heap.size, 0, none⟩ = false := (b4.frozen (p := ⟨w.heap.size, 0, none⟩) (by first | (simp; done) | (simp; omega) | omega)).trans (by first | with_reducible assumption | (simp [go_sem]; done) | (simp [go_sem, *]; done))
              have k4_0_1 : w4.cell? ⟨w.heap.size, 1, none⟩ = some (.int .i64 (b)) := (b4.cell (p := ⟨w.heap.size, 1, none⟩) (by first | (simp; done) | (simp; omega) | omega)).trans (by first | with_reducible assumption | (simp [go_sem]; done) | (simp [go_sem, *]; done))
              have g4_0_1 : w4.frozen? ⟨w.heap.size, 1, none⟩ = false := (b4.frozen (p := ⟨w.heap.size, 1, none⟩) (by first | (simp; done) | (simp; omega) | omega)).trans (by first | with_reducible assumption | (simp [go_sem]; done) | (simp [go_sem, *]; done))
              have k4_0_2 : w4.cell? ⟨w.heap.size, 2, none⟩ = some (.int .i64 (c)) := (b4.cell (p := ⟨w.heap.size, 2, none⟩) (by first | (simp; done) | (simp; omega) | omega)).trans (by first | with_reducible assumption | (simp [go_sem]; done) | (simp [go_sem, *]; done))
              have g4_0_2 : w4.frozen? ⟨w.heap.size, 2, none⟩ = false := (b4.frozen (p := ⟨w.heap.size, 2, none⟩) (by first | (simp; done) | (simp; omega) | omega)).trans (by first | with_reducible assumption | (simp [go_sem]; done) | (simp [go_sem, *]; done))
              have z4_1 : w.heap.size + 1 < w4.heap.size := by omega
              have k4_1_0 : w4.cell? ⟨w.heap.size + 1, 0, none⟩ = some (.int .i64 (n)) := (b4.cell (p := ⟨w.heap.size + 1, 0, none⟩) (by first | (simp; done) | (simp; omega) | omega)).trans (by first | with_reducible assumption | (simp [go_sem]; done) | (simp [go_sem, *]; done))
              have g4_1_0 : w4.frozen? ⟨w.heap.size + 1, 0, none⟩ = false := (b4.frozen (p := ⟨w.heap.size + 1, 0, none⟩) (by first | (simp; done) | (simp; omega) | omega)).trans (by first | with_reducible assumption | (simp [go_sem]; done) | (simp [go_sem, *]; done))
              have k4_1_1 : w4.cell? ⟨w.heap.size + 1, 1, none⟩ = some (.int .i64 (d)) := (b4.cell (p := ⟨w.heap.size + 1, 1, none⟩) (by first | (simp; done) | (simp; omega) | omega)).trans (by first | with_reducible assumption | (simp [go_sem]; done) | (simp [go_sem, *]; done))
              have g4_1_1 : w4.frozen? ⟨w.heap.size + 1, 1, none⟩ = false := (b4.frozen (p := ⟨w.heap.size + 1, 1, none⟩) (by first | (simp; done) | (simp; omega) | omega)).trans (by first | with_reducible assumption | (simp [go_sem]; done) | (simp [go_sem, *]; done))
              have k4_1_2 : w4.cell? ⟨w.heap.size + 1, 2, none⟩ = some (.int .i64 (m)) := (b4.cell (p := ⟨w.heap.size + 1, 2, none⟩) (by first | (simp; done) | (simp; omega) | omega)).trans (by first | with_reducible assumption | (simp [go_sem]; done) | (simp [go_sem, *]; done))
              have g4_1_2 : w4.frozen? ⟨w.heap.size + 1, 2, none⟩ = false := (b4.frozen (p := ⟨w.heap.size + 1, 2, none⟩) (by first | (simp; done) | (simp; omega) | omega)).trans (by first | with_reducible assumption | (simp [go_sem]; done) | (simp [go_sem, *]; done))
              have k4_1_3 : w4.cell? ⟨w.heap.size + 1, 3, none⟩ = some (.int .i64 (k)) := (b4.cell (p := ⟨w.heap.size + 1, 3, none⟩) (by first | (simp; done) | (simp; omega) | omega)).trans (by first | with_reducible assumption | (simp [go_sem]; done) | (simp [go_sem, *]; done))
              have g4_1_3 : w4.frozen? ⟨w.heap.size + 1, 3, none⟩ = false := (b4.frozen (p := ⟨w.heap.size + 1, 3, none⟩) (by first | (simp; done) | (simp; omega) | omega)).trans (by first | with_reducible assumption | (simp [go_sem]; done) | (simp [go_sem, *]; done))
              clear k3_0_0 g3_0_0 k3_0_1 g3_0_1 k3_0_2 g3_0_2 k3_1_0 g3_1_0 k3_1_1 g3_1_1 k3_1_2 g3_1_2 k3_1_3 g3_1_3
              go_wp2_with fail
              refine (K5.out _).mono ?_
              rintro e w5 ⟨rfl, b5⟩
              have s5 := b5.size
              try simp at s5
              have z5_0 : w.heap.size < w5.heap.size := by omega
              have k5_0_0 : w5.cell? ⟨w.heap.size, 0, none⟩ = some (.int .i64 (a)) := (b5.cell (p := ⟨w.heap.size, 0, none⟩) (by first | (simp; done) | (simp; omega) | omega)).trans (by first | with_reducible assumption | (simp [go_sem]; done) | (simp [go_sem, *]; done))
              have g5_0_0 : w5.frozen? ⟨w.heap.size, 0, none⟩ = false := (b5.frozen (p := ⟨w.heap.size, 0, none⟩) (by first | (simp; done) | (simp; omega) | omega)).trans (by first | with_reducible assumption | (simp [go_sem]; done) | (simp [go_sem, *]; done))
              have k5_0_1 : w5.cell? ⟨w.heap.size, 1, none⟩ = some (.int .i64 (b)) := (b5.cell (p := ⟨w.heap.size, 1, none⟩) (by first | (simp; done) | (simp; omega) | omega)).trans (by first | with_reducible assumption | (simp [go_sem]; done) | (simp [go_sem, *]; done))
              have g5_0_1 : w5.frozen? ⟨w.heap.size, 1, none⟩ = false := (b5.frozen (p := ⟨w.heap.size, 1, none⟩) (by first | (simp; done) | (simp; omega) | omega)).trans (by first | with_reducible assumption | (simp [go_sem]; done) | (simp [go_sem, *]; done))
              have k5_0_2 : w5.cell? ⟨w.heap.size, 2, none⟩ = some (.int .i64 (c)) := (b5.cell (p := ⟨w.heap.size, 2, none⟩) (by first | (simp; done) | (simp; omega) | omega)).trans (by first | with_reducible assumption | (simp [go_sem]; done) | (simp [go_sem, *]; done))
              have g5_0_2 : w5.frozen? ⟨w.heap.size, 2, none⟩ = false := (b5.frozen (p := ⟨w.heap.size, 2, none⟩) (by first | (simp; done) | (simp; omega) | omega)).trans (by first | with_reducible assumption | (simp [go_sem]; done) | (simp [go_sem, *]; done))
              have z5_1 : w.heap.size + 1 < w5.heap.size := by omega
              have k5_1_0 : w5.cell? ⟨w.heap.size + 1, 0, none⟩ = some (.int .i64 (n)) := (b5.cell (p := ⟨w.heap.size + 1, 0, none⟩) (by first | (simp; done) | (simp; omega) | omega)).trans (by first | with_reducible assumption | (simp [go_sem]; done) | (simp [go_sem, *]; done))
              have g5_1_0 : w5.frozen? ⟨w.heap.size + 1, 0, none⟩ = false := (b5.frozen (p := ⟨w.heap.size + 1, 0, none⟩) (by first | (simp; done) | (simp; omega) | omega)).trans (by first | with_reducible assumption | (simp [go_sem]; done) | (simp [go_sem, *]; done))
              have k5_1_1 : w5.cell? ⟨w.heap.size + 1, 1, none⟩ = some (.int .i64 (d)) := (b5.cell (p := ⟨w.heap.size + 1, 1, none⟩) (by first | (simp; done) | (simp; omega) | omega)).trans (by first | with_reducible assumption | (simp [go_sem]; done) | (simp [go_sem, *]; done))
              have g5_1_1 : w5.frozen? ⟨w.heap.size + 1, 1, none⟩ = false := (b5.frozen (p := ⟨w.heap.size + 1, 1, none⟩) (by first | (simp; done) | (simp; omega) | omega)).trans (by first | with_reducible assumption | (simp [go_sem]; done) | (simp [go_sem, *]; done))
              have k5_1_2 : w5.cell? ⟨w.heap.size + 1, 2, none⟩ = some (.int .i64 (m)) := (b5.cell (p := ⟨w.heap.size + 1, 2, none⟩) (by first | (simp; done) | (simp; omega) | omega)).trans (by first | with_reducible assumption | (simp [go_sem]; done) | (simp [go_sem, *]; done))
              have g5_1_2 : w5.frozen? ⟨w.heap.size + 1, 2, none⟩ = false := (b5.frozen (p := ⟨w.heap.size + 1, 2, none⟩) (by first | (simp; done) | (simp; omega) | omega)).trans (by first | with_reducible assumption | (simp [go_sem]; done) | (simp [go_sem, *]; done))
              have k5_1_3 : w5.cell? ⟨w.heap.size + 1, 3, none⟩ = some (.int .i64 (k)) := (b5.cell (p := ⟨w.heap.size + 1, 3, none⟩) (by first | (simp; done) | (simp; omega) | omega)).trans (by first | with_reducible assumption | (simp [go_sem]; done) | (simp [go_sem, *]; done))
              have g5_1_3 : w5.frozen? ⟨w.heap.size + 1, 3, none⟩ = false := (b5.frozen (p := ⟨w.heap.size + 1, 3, none⟩) (by first | (simp; done) | (simp; omega) | omega)).trans (by first | with_reducible assumption | (simp [go_sem]; done) | (simp [go_sem, *]; done))
              clear k4_0_0 g4_0_0 k4_0_1 g4_0_1 k4_0_2 g4_0_2 k4_1_0 g4_1_0 k4_1_1 g4_1_1 k4_1_2 g4_1_2 k4_1_3 g4_1_3
              go_wp2
              have kc0 := cell_regrown (w := w5) (a := ⟨w.heap.size, 0, none⟩) (v := .int .i64 (a)) (by first | ((repeat (first | with_reducible assumption | with_reducible refine calloc ?_ _)); done) | (simp [go_sem]; done) | (simp [go_sem, *]; done))
              have kc1 := cell_regrown (w := w5) (a := ⟨w.heap.size, 1, none⟩) (v := .int .i64 (b)) (by first | ((repeat (first | with_reducible assumption | with_reducible refine calloc ?_ _)); done) | (simp [go_sem]; done) | (simp [go_sem, *]; done))
              have kc2 := cell_regrown (w := w5) (a := ⟨w.heap.size, 2, none⟩) (v := .int .i64 (c)) (by first | ((repeat (first | with_reducible assumption | with_reducible refine calloc ?_ _)); done) | (simp [go_sem]; done) | (simp [go_sem, *]; done))
              have kc3 := cell_regrown (w := w5) (a := ⟨w.heap.size + 1, 0, none⟩) (v := .int .i64 (n)) (by first | ((repeat (first | with_reducible assumption | with_reducible refine calloc ?_ _)); done) | (simp [go_sem]; done) | (simp [go_sem, *]; done))
              have kc4 := cell_regrown (w := w5) (a := ⟨w.heap.size + 1, 1, none⟩) (v := .int .i64 (d)) (by first | ((repeat (first | with_reducible assumption | with_reducible refine calloc ?_ _)); done) | (simp [go_sem]; done) | (simp [go_sem, *]; done))
              have kc5 := cell_regrown (w := w5) (a := ⟨w.heap.size + 1, 2, none⟩) (v := .int .i64 (m)) (by first | ((repeat (first | with_reducible assumption | with_reducible refine calloc ?_ _)); done) | (simp [go_sem]; done) | (simp [go_sem, *]; done))
              have kc6 := cell_regrown (w := w5) (a := ⟨w.heap.size + 1, 3, none⟩) (v := .int .i64 (k)) (by first | ((repeat (first | with_reducible assumption | with_reducible refine calloc ?_ _)); done) | (simp [go_sem]; done) | (simp [go_sem, *]; done))
              refine wp_region_quiet_below (by kernel_rfl) (by kernel_rfl) ?_
              repeat (go_big_quiet_step ((first | (go_at_call 77; exact Calls.regrown_of (qb_same (K6.out _))))))
              refine wpQuiet_nil ?_
              intro w6 hw'
              have b6 : Below w5.heap.size w5 w6 := by
                obtain ⟨pp, rfl⟩ := hw'
                exact below_regrown _ _ _
              clear hw' kc0 kc1 kc2 kc3 kc4 kc5 kc6
              have s6 := b6.size
              try simp at s6
              have z6_0 : w.heap.size < w6.heap.size := by omega
              have k6_0_0 : w6.cell? ⟨w.heap.size, 0, none⟩ = some (.int .i64 (a)) := (b6.cell (p := ⟨w.heap.size, 0, none⟩) (by first | (simp; done) | (simp; omega) | omega)).trans (by first | with_reducible assumption | (simp [go_sem]; done) | (simp [go_sem, *]; done))
              have g6_0_0 : w6.frozen? ⟨w.heap.size, 0, none⟩ = false := (b6.frozen (p := ⟨w.heap.size, 0, none⟩) (by first | (simp; done) | (simp; omega) | omega)).trans (by first | with_reducible assumption | (simp [go_sem]; done) | (simp [go_sem, *]; done))
              have k6_0_1 : w6.cell? ⟨w.heap.size, 1, none⟩ = some (.int .i64 (b)) := (b6.cell (p := ⟨w.heap.size, 1, none⟩) (by first | (simp; done) | (simp; omega) | omega)).trans (by first | with_reducible assumption | (simp [go_sem]; done) | (simp [go_sem, *]; done))
              have g6_0_1 : w6.frozen? ⟨w.heap.size, 1, none⟩ = false := (b6.frozen (p := ⟨w.heap.size, 1, none⟩) (by first | (simp; done) | (simp; omega) | omega)).trans (by first | with_reducible assumption | (simp [go_sem]; done) | (simp [go_sem, *]; done))
              have k6_0_2 : w6.cell? ⟨w.heap.size, 2, none⟩ = some (.int .i64 (c)) := (b6.cell (p := ⟨w.heap.size, 2, none⟩) (by first | (simp; done) | (simp; omega) | omega)).trans (by first | with_reducible assumption | (simp [go_sem]; done) | (simp [go_sem, *]; done))
              have g6_0_2 : w6.frozen? ⟨w.heap.size, 2, none⟩ = false := (b6.frozen (p := ⟨w.heap.size, 2, none⟩) (by first | (simp; done) | (simp; omega) | omega)).trans (by first | with_reducible assumption | (simp [go_sem]; done) | (simp [go_sem, *]; done))
              have z6_1 : w.heap.size + 1 < w6.heap.size := by omega
              have k6_1_0 : w6.cell? ⟨w.heap.size + 1, 0, none⟩ = some (.int .i64 (n)) := (b6.cell (p := ⟨w.heap.size + 1, 0, none⟩) (by first | (simp; done) | (simp; omega) | omega)).trans (by first | with_reducible assumption | (simp [go_sem]; done) | (simp [go_sem, *]; done))
              have g6_1_0 : w6.frozen? ⟨w.heap.size + 1, 0, none⟩ = false := (b6.frozen (p := ⟨w.heap.size + 1, 0, none⟩) (by first | (simp; done) | (simp; omega) | omega)).trans (by first | with_reducible assumption | (simp [go_sem]; done) | (simp [go_sem, *]; done))
              have k6_1_1 : w6.cell? ⟨w.heap.size + 1, 1, none⟩ = some (.int .i64 (d)) := (b6.cell (p := ⟨w.heap.size + 1, 1, none⟩) (by first | (simp; done) | (simp; omega) | omega)).trans (by first | with_reducible assumption | (simp [go_sem]; done) | (simp [go_sem, *]; done))
              have g6_1_1 : w6.frozen? ⟨w.heap.size + 1, 1, none⟩ = false := (b6.frozen (p := ⟨w.heap.size + 1, 1, none⟩) (by first | (simp; done) | (simp; omega) | omega)).trans (by first | with_reducible assumption | (simp [go_sem]; done) | (simp [go_sem, *]; done))
              have k6_1_2 : w6.cell? ⟨w.heap.size + 1, 2, none⟩ = some (.int .i64 (m)) := (b6.cell (p := ⟨w.heap.size + 1, 2, none⟩) (by first | (simp; done) | (simp; omega) | omega)).trans (by first | with_reducible assumption | (simp [go_sem]; done) | (simp [go_sem, *]; done))
              have g6_1_2 : w6.frozen? ⟨w.heap.size + 1, 2, none⟩ = false := (b6.frozen (p := ⟨w.heap.size + 1, 2, none⟩) (by first | (simp; done) | (simp; omega) | omega)).trans (by first | with_reducible assumption | (simp [go_sem]; done) | (simp [go_sem, *]; done))
              have k6_1_3 : w6.cell? ⟨w.heap.size + 1, 3, none⟩ = some (.int .i64 (k)) := (b6.cell (p := ⟨w.heap.size + 1, 3, none⟩) (by first | (simp; done) | (simp; omega) | omega)).trans (by first | with_reducible assumption | (simp [go_sem]; done) | (simp [go_sem, *]; done))
              have g6_1_3 : w6.frozen? ⟨w.heap.size + 1, 3, none⟩ = false := (b6.frozen (p := ⟨w.heap.size + 1, 3, none⟩) (by first | (simp; done) | (simp; omega) | omega)).trans (by first | with_reducible assumption | (simp [go_sem]; done) | (simp [go_sem, *]; done))
              clear k5_0_0 g5_0_0 k5_0_1 g5_0_1 k5_0_2 g5_0_2 k5_1_0 g5_1_0 k5_1_1 g5_1_1 k5_1_2 g5_1_2 k5_1_3 g5_1_3
              go_wp2
              go_ret
              exact ⟨rfl, (by (repeat (first | with_reducible exact Below.refl _ _ | with_reducible refine bl_alloc ?_ _ | with_reducible refine bl_drew ?_ | with_reducible refine bl_set ?_ (by first | (simp; done) | (simp; omega)) _ | with_reducible refine bl_call (by assumption) ?_)))⟩
            · have hr : SoF a b c n d m k = 2 := by simp [SoF, soOk, q0, q1, q2, q3, q4, q5]
              rw [hr]
              clear hr
              obtain ⟨⟨la, ua⟩, ⟨lb, ub⟩, ⟨lc, uc⟩⟩ := lineB_tr q0
              obtain ⟨⟨ln, un⟩, ⟨ld, ud⟩⟩ := ratB_true q1
              obtain ⟨⟨lm, um⟩, ⟨lk, uk⟩⟩ := ratB_true q2
              obtain ⟨g1, gl, e1, e2, ⟨p1, p2⟩, ⟨r1, r2⟩, e3⟩ := so_div d k ld lk
              have pg1 : d / gcdI d k = soD d k := rfl
              have pg2 : k / gcdI d k = soK d k := rfl
              obtain ⟨f1, f2⟩ := so_quo d k ld lk
              obtain ⟨m1, m2⟩ := mul_bd (soD d k) k 20000000 20000000 (by omega) (by omega) (by omega) (by omega)
              have m0 := Int.mul_nonneg (show 0 ≤ soD d k by omega) (show 0 ≤ k by omega)
              have K1 : Hid (∀ W : World, Calls Try.prog 74 #[.agg #[.int .i64 a, .int .i64 b, .int .i64 c]] W fun e w' => e = .returned (.bool true) ∧ Below W.heap.size W w') := Lib.hid fun W => by
                have h := impl_Line_valid (a) (b) (c) W
                rw [q0] at h
                exact h
              have K2 : Hid (∀ W : World, Calls Try.prog 75 #[.agg #[.int .i64 n, .int .i64 d, .int .i64 m, .int .i64 k]] W fun e w' => e = .returned (.bool true) ∧ Below W.heap.size W w') := Lib.hid fun W => by
                have h := impl_RatPoint_valid (n) (d) (m) (k) W
                simp only [q1, q2, Bool.and_self] at h
                exact h
              have K3 : Hid (∀ W : World, Calls Try.prog 44 #[.int .i64 d, .int .i64 k] W fun e w' => e = .returned (.int .i64 (gcdI d k)) ∧ Below W.heap.size W w') := Lib.hid fun W => by
                have h := impl_divisor (d) (k) W (by omega) (by omega) (by omega) (by omega)
                exact h
              have K4 : Hid (∀ W : World, Calls Try.prog 76 #[.agg #[.int .i64 n, .int .i64 d]] W fun e w' => e = .returned (.bool true) ∧ Below W.heap.size W w') := Lib.hid fun W => by
                have h := impl_Rat_reaches (n) (d) W (by omega) (by omega)
                rw [decide_eq_true q4] at h
                exact h
              have K5 : Hid (∀ W : World, Calls Try.prog 76 #[.agg #[.int .i64 m, .int .i64 k]] W fun e w' => e = .returned (.bool false) ∧ Below W.heap.size W w') := Lib.hid fun W => by
                have h := impl_Rat_reaches (m) (k) W (by omega) (by omega)
                rw [decide_eq_false q5] at h
                exact h
              have v0 : (soD d k * k ≤ 20000000) := by omega
              clear q0 q1 q2 q3 q4 q5
              generalize gcdI d k = G at *
              generalize soD d k = D1 at *
              generalize soK d k = KQ at *
              have pf1 : D1 * k / d = KQ := by rw [← Int.tdiv_eq_ediv_of_nonneg m0]; exact f1
              have pf2 : D1 * k / k = D1 := by rw [← Int.tdiv_eq_ediv_of_nonneg m0]; exact f2
              have wr0 : IntKind.i64.wrap (D1) = D1 := IntWalk.i64_in _ (by omega)
              have wr1 : IntKind.i64.wrap (D1 * k) = D1 * k := IntWalk.i64_in _ (by omega)
              have wr2 : IntKind.i64.wrap (KQ) = KQ := IntWalk.i64_in _ (by omega)
              have vb : decide (20000000 < D1 * k) = false := decide_eq_false (by omega)
              have gz : ¬ G = 0 := by omega
              have dz : ¬ d = 0 := by omega
              have kz : ¬ k = 0 := by omega
              clear e3
              go_enter Try.func39, Try.ntmps39
              go_wp2_with fail
              refine (K1.out _).mono ?_
              rintro e w1 ⟨rfl, b1⟩
              have s1 := b1.size
              try simp at s1
              have z1_0 : w.heap.size < w1.heap.size := by omega
              have k1_0_0 : w1.cell? ⟨w.heap.size, 0, none⟩ = some (.int .i64 (a)) := (b1.cell (p := ⟨w.heap.size, 0, none⟩) (by first | (simp; done) | (simp; omega) | omega)).trans (by first | with_reducible assumption | (simp [go_sem]; done) | (simp [go_sem, *]; done))
              have g1_0_0 : w1.frozen? ⟨w.heap.size, 0, none⟩ = false := (b1.frozen (p := ⟨w.heap.size, 0, none⟩) (by first | (simp; done) | (simp; omega) | omega)).trans (by first | with_reducible assumption | (simp [go_sem]; done) | (simp [go_sem, *]; done))
              have k1_0_1 : w1.cell? ⟨w.heap.size, 1, none⟩ = some (.int .i64 (b)) := (b1.cell (p := ⟨w.heap.size, 1, none⟩) (by first | (simp; done) | (simp; omega) | omega)).trans (by first | with_reducible assumption | (simp [go_sem]; done) | (simp [go_sem, *]; done))
              have g1_0_1 : w1.frozen? ⟨w.heap.size, 1, none⟩ = false := (b1.frozen (p := ⟨w.heap.size, 1, none⟩) (by first | (simp; done) | (simp; omega) | omega)).trans (by first | with_reducible assumption | (simp [go_sem]; done) | (simp [go_sem, *]; done))
              have k1_0_2 : w1.cell? ⟨w.heap.size, 2, none⟩ = some (.int .i64 (c)) := (b1.cell (p := ⟨w.heap.size, 2, none⟩) (by first | (simp; done) | (simp; omega) | omega)).trans (by first | with_reducible assumption | (simp [go_sem]; done) | (simp [go_sem, *]; done))
              have g1_0_2 : w1.frozen? ⟨w.heap.size, 2, none⟩ = false := (b1.frozen (p := ⟨w.heap.size, 2, none⟩) (by first | (simp; done) | (simp; omega) | omega)).trans (by first | with_reducible assumption | (simp [go_sem]; done) | (simp [go_sem, *]; done))
              have z1_1 : w.heap.size + 1 < w1.heap.size := by omega
              have k1_1_0 : w1.cell? ⟨w.heap.size + 1, 0, none⟩ = some (.int .i64 (n)) := (b1.cell (p := ⟨w.heap.size + 1, 0, none⟩) (by first | (simp; done) | (simp; omega) | omega)).trans (by first | with_reducible assumption | (simp [go_sem]; done) | (simp [go_sem, *]; done))
              have g1_1_0 : w1.frozen? ⟨w.heap.size + 1, 0, none⟩ = false := (b1.frozen (p := ⟨w.heap.size + 1, 0, none⟩) (by first | (simp; done) | (simp; omega) | omega)).trans (by first | with_reducible assumption | (simp [go_sem]; done) | (simp [go_sem, *]; done))
              have k1_1_1 : w1.cell? ⟨w.heap.size + 1, 1, none⟩ = some (.int .i64 (d)) := (b1.cell (p := ⟨w.heap.size + 1, 1, none⟩) (by first | (simp; done) | (simp; omega) | omega)).trans (by first | with_reducible assumption | (simp [go_sem]; done) | (simp [go_sem, *]; done))
              have g1_1_1 : w1.frozen? ⟨w.heap.size + 1, 1, none⟩ = false := (b1.frozen (p := ⟨w.heap.size + 1, 1, none⟩) (by first | (simp; done) | (simp; omega) | omega)).trans (by first | with_reducible assumption | (simp [go_sem]; done) | (simp [go_sem, *]; done))
              have k1_1_2 : w1.cell? ⟨w.heap.size + 1, 2, none⟩ = some (.int .i64 (m)) := (b1.cell (p := ⟨w.heap.size + 1, 2, none⟩) (by first | (simp; done) | (simp; omega) | omega)).trans (by first | with_reducible assumption | (simp [go_sem]; done) | (simp [go_sem, *]; done))
              have g1_1_2 : w1.frozen? ⟨w.heap.size + 1, 2, none⟩ = false := (b1.frozen (p := ⟨w.heap.size + 1, 2, none⟩) (by first | (simp; done) | (simp; omega) | omega)).trans (by first | with_reducible assumption | (simp [go_sem]; done) | (simp [go_sem, *]; done))
              have k1_1_3 : w1.cell? ⟨w.heap.size + 1, 3, none⟩ = some (.int .i64 (k)) := (b1.cell (p := ⟨w.heap.size + 1, 3, none⟩) (by first | (simp; done) | (simp; omega) | omega)).trans (by first | with_reducible assumption | (simp [go_sem]; done) | (simp [go_sem, *]; done))
              have g1_1_3 : w1.frozen? ⟨w.heap.size + 1, 3, none⟩ = false := (b1.frozen (p := ⟨w.heap.size + 1, 3, none⟩) (by first | (simp; done) | (simp; omega) | omega)).trans (by first | with_reducible assumption | (simp [go_sem]; done) | (simp [go_sem, *]; done))
              go_wp2_with fail
              refine (K2.out _).mono ?_
              rintro e w2 ⟨rfl, b2⟩
              have s2 := b2.size
              try simp at s2
              have z2_0 : w.heap.size < w2.heap.size := by omega
              have k2_0_0 : w2.cell? ⟨w.heap.size, 0, none⟩ = some (.int .i64 (a)) := (b2.cell (p := ⟨w.heap.size, 0, none⟩) (by first | (simp; done) | (simp; omega) | omega)).trans (by first | with_reducible assumption | (simp [go_sem]; done) | (simp [go_sem, *]; done))
              have g2_0_0 : w2.frozen? ⟨w.heap.size, 0, none⟩ = false := (b2.frozen (p := ⟨w.heap.size, 0, none⟩) (by first | (simp; done) | (simp; omega) | omega)).trans (by first | with_reducible assumption | (simp [go_sem]; done) | (simp [go_sem, *]; done))
              have k2_0_1 : w2.cell? ⟨w.heap.size, 1, none⟩ = some (.int .i64 (b)) := (b2.cell (p := ⟨w.heap.size, 1, none⟩) (by first | (simp; done) | (simp; omega) | omega)).trans (by first | with_reducible assumption | (simp [go_sem]; done) | (simp [go_sem, *]; done))
              have g2_0_1 : w2.frozen? ⟨w.heap.size, 1, none⟩ = false := (b2.frozen (p := ⟨w.heap.size, 1, none⟩) (by first | (simp; done) | (simp; omega) | omega)).trans (by first | with_reducible assumption | (simp [go_sem]; done) | (simp [go_sem, *]; done))
              have k2_0_2 : w2.cell? ⟨w.heap.size, 2, none⟩ = some (.int .i64 (c)) := (b2.cell (p := ⟨w.heap.size, 2, none⟩) (by first | (simp; done) | (simp; omega) | omega)).trans (by first | with_reducible assumption | (simp [go_sem]; done) | (simp [go_sem, *]; done))
              have g2_0_2 : w2.frozen? ⟨w.heap.size, 2, none⟩ = false := (b2.frozen (p := ⟨w.heap.size, 2, none⟩) (by first | (simp; done) | (simp; omega) | omega)).trans (by first | with_reducible assumption | (simp [go_sem]; done) | (simp [go_sem, *]; done))
              have z2_1 : w.heap.size + 1 < w2.heap.size := by omega
              have k2_1_0 : w2.cell? ⟨w.heap.size + 1, 0, none⟩ = some (.int .i64 (n)) := (b2.cell (p := ⟨w.heap.size + 1, 0, none⟩) (by first | (simp; done) | (simp; omega) | omega)).trans (by first | with_reducible assumption | (simp [go_sem]; done) | (simp [go_sem, *]; done))
              have g2_1_0 : w2.frozen? ⟨w.heap.size + 1, 0, none⟩ = false := (b2.frozen (p := ⟨w.heap.size + 1, 0, none⟩) (by first | (simp; done) | (simp; omega) | omega)).trans (by first | with_reducible assumption | (simp [go_sem]; done) | (simp [go_sem, *]; done))
              have k2_1_1 : w2.cell? ⟨w.heap.size + 1, 1, none⟩ = some (.int .i64 (d)) := (b2.cell (p := ⟨w.heap.size + 1, 1, none⟩) (by first | (simp; done) | (simp; omega) | omega)).trans (by first | with_reducible assumption | (simp [go_sem]; done) | (simp [go_sem, *]; done))
              have g2_1_1 : w2.frozen? ⟨w.heap.size + 1, 1, none⟩ = false := (b2.frozen (p := ⟨w.heap.size + 1, 1, none⟩) (by first | (simp; done) | (simp; omega) | omega)).trans (by first | with_reducible assumption | (simp [go_sem]; done) | (simp [go_sem, *]; done))
              have k2_1_2 : w2.cell? ⟨w.heap.size + 1, 2, none⟩ = some (.int .i64 (m)) := (b2.cell (p := ⟨w.heap.size + 1, 2, none⟩) (by first | (simp; done) | (simp; omega) | omega)).trans (by first | with_reducible assumption | (simp [go_sem]; done) | (simp [go_sem, *]; done))
              have g2_1_2 : w2.frozen? ⟨w.heap.size + 1, 2, none⟩ = false := (b2.frozen (p := ⟨w.heap.size + 1, 2, none⟩) (by first | (simp; done) | (simp; omega) | omega)).trans (by first | with_reducible assumption | (simp [go_sem]; done) | (simp [go_sem, *]; done))
              have k2_1_3 : w2.cell? ⟨w.heap.size + 1, 3, none⟩ = some (.int .i64 (k)) := (b2.cell (p := ⟨w.heap.size + 1, 3, none⟩) (by first | (simp; done) | (simp; omega) | omega)).trans (by first | with_reducible assumption | (simp [go_sem]; done) | (simp [go_sem, *]; done))
              have g2_1_3 : w2.frozen? ⟨w.heap.size + 1, 3, none⟩ = false := (b2.frozen (p := ⟨w.heap.size + 1, 3, none⟩) (by first | (simp; done) | (simp; omega) | omega)).trans (by first | with_reducible assumption | (simp [go_sem]; done) | (simp [go_sem, *]; done))
              clear k1_0_0 g1_0_0 k1_0_1 g1_0_1 k1_0_2 g1_0_2 k1_1_0 g1_1_0 k1_1_1 g1_1_1 k1_1_2 g1_1_2 k1_1_3 g1_1_3
              go_wp2
              have kc0 := cell_regrown (w := w2) (a := ⟨w.heap.size, 0, none⟩) (v := .int .i64 (a)) (by first | ((repeat (first | with_reducible assumption | with_reducible refine calloc ?_ _)); done) | (simp [go_sem]; done) | (simp [go_sem, *]; done))
              have kc1 := cell_regrown (w := w2) (a := ⟨w.heap.size, 1, none⟩) (v := .int .i64 (b)) (by first | ((repeat (first | with_reducible assumption | with_reducible refine calloc ?_ _)); done) | (simp [go_sem]; done) | (simp [go_sem, *]; done))
              have kc2 := cell_regrown (w := w2) (a := ⟨w.heap.size, 2, none⟩) (v := .int .i64 (c)) (by first | ((repeat (first | with_reducible assumption | with_reducible refine calloc ?_ _)); done) | (simp [go_sem]; done) | (simp [go_sem, *]; done))
              have kc3 := cell_regrown (w := w2) (a := ⟨w.heap.size + 1, 0, none⟩) (v := .int .i64 (n)) (by first | ((repeat (first | with_reducible assumption | with_reducible refine calloc ?_ _)); done) | (simp [go_sem]; done) | (simp [go_sem, *]; done))
              have kc4 := cell_regrown (w := w2) (a := ⟨w.heap.size + 1, 1, none⟩) (v := .int .i64 (d)) (by first | ((repeat (first | with_reducible assumption | with_reducible refine calloc ?_ _)); done) | (simp [go_sem]; done) | (simp [go_sem, *]; done))
              have kc5 := cell_regrown (w := w2) (a := ⟨w.heap.size + 1, 2, none⟩) (v := .int .i64 (m)) (by first | ((repeat (first | with_reducible assumption | with_reducible refine calloc ?_ _)); done) | (simp [go_sem]; done) | (simp [go_sem, *]; done))
              have kc6 := cell_regrown (w := w2) (a := ⟨w.heap.size + 1, 3, none⟩) (v := .int .i64 (k)) (by first | ((repeat (first | with_reducible assumption | with_reducible refine calloc ?_ _)); done) | (simp [go_sem]; done) | (simp [go_sem, *]; done))
              refine wp_region_quiet_below (by kernel_rfl) (by kernel_rfl) ?_
              repeat (go_big_quiet_step ((first | (go_at_call 44; exact Calls.regrown_of (K3.out _)))))
              refine wpQuiet_nil ?_
              intro w3 hw'
              have b3 : Below w2.heap.size w2 w3 := by
                obtain ⟨pp, rfl⟩ := hw'
                exact below_regrown _ _ _
              clear hw' kc0 kc1 kc2 kc3 kc4 kc5 kc6
              have s3 := b3.size
              try simp at s3
              have z3_0 : w.heap.size < w3.heap.size := by omega
              have k3_0_0 : w3.cell? ⟨w.heap.size, 0, none⟩ = some (.int .i64 (a)) := (b3.cell (p := ⟨w.heap.size, 0, none⟩) (by first | (simp; done) | (simp; omega) | omega)).trans (by first | with_reducible assumption | (simp [go_sem]; done) | (simp [go_sem, *]; done))
              have g3_0_0 : w3.frozen? ⟨w.heap.size, 0, none⟩ = false := (b3.frozen (p := ⟨w.heap.size, 0, none⟩) (by first | (simp; done) | (simp; omega) | omega)).trans (by first | with_reducible assumption | (simp [go_sem]; done) | (simp [go_sem, *]; done))
              have k3_0_1 : w3.cell? ⟨w.heap.size, 1, none⟩ = some (.int .i64 (b)) := (b3.cell (p := ⟨w.heap.size, 1, none⟩) (by first | (simp; done) | (simp; omega) | omega)).trans (by first | with_reducible assumption | (simp [go_sem]; done) | (simp [go_sem, *]; done))
              have g3_0_1 : w3.frozen? ⟨w.heap.size, 1, none⟩ = false := (b3.frozen (p := ⟨w.heap.size, 1, none⟩) (by first | (simp; done) | (simp; omega) | omega)).trans (by first | with_reducible assumption | (simp [go_sem]; done) | (simp [go_sem, *]; done))
              have k3_0_2 : w3.cell? ⟨w.heap.size, 2, none⟩ = some (.int .i64 (c)) := (b3.cell (p := ⟨w.heap.size, 2, none⟩) (by first | (simp; done) | (simp; omega) | omega)).trans (by first | with_reducible assumption | (simp [go_sem]; done) | (simp [go_sem, *]; done))
              have g3_0_2 : w3.frozen? ⟨w.heap.size, 2, none⟩ = false := (b3.frozen (p := ⟨w.heap.size, 2, none⟩) (by first | (simp; done) | (simp; omega) | omega)).trans (by first | with_reducible assumption | (simp [go_sem]; done) | (simp [go_sem, *]; done))
              have z3_1 : w.heap.size + 1 < w3.heap.size := by omega
              have k3_1_0 : w3.cell? ⟨w.heap.size + 1, 0, none⟩ = some (.int .i64 (n)) := (b3.cell (p := ⟨w.heap.size + 1, 0, none⟩) (by first | (simp; done) | (simp; omega) | omega)).trans (by first | with_reducible assumption | (simp [go_sem]; done) | (simp [go_sem, *]; done))
              have g3_1_0 : w3.frozen? ⟨w.heap.size + 1, 0, none⟩ = false := (b3.frozen (p := ⟨w.heap.size + 1, 0, none⟩) (by first | (simp; done) | (simp; omega) | omega)).trans (by first | with_reducible assumption | (simp [go_sem]; done) | (simp [go_sem, *]; done))
              have k3_1_1 : w3.cell? ⟨w.heap.size + 1, 1, none⟩ = some (.int .i64 (d)) := (b3.cell (p := ⟨w.heap.size + 1, 1, none⟩) (by first | (simp; done) | (simp; omega) | omega)).trans (by first | with_reducible assumption | (simp [go_sem]; done) | (simp [go_sem, *]; done))
              have g3_1_1 : w3.frozen? ⟨w.heap.size + 1, 1, none⟩ = false := (b3.frozen (p := ⟨w.heap.size + 1, 1, none⟩) (by first | (simp; done) | (simp; omega) | omega)).trans (by first | with_reducible assumption | (simp [go_sem]; done) | (simp [go_sem, *]; done))
              have k3_1_2 : w3.cell? ⟨w.heap.size + 1, 2, none⟩ = some (.int .i64 (m)) := (b3.cell (p := ⟨w.heap.size + 1, 2, none⟩) (by first | (simp; done) | (simp; omega) | omega)).trans (by first | with_reducible assumption | (simp [go_sem]; done) | (simp [go_sem, *]; done))
              have g3_1_2 : w3.frozen? ⟨w.heap.size + 1, 2, none⟩ = false := (b3.frozen (p := ⟨w.heap.size + 1, 2, none⟩) (by first | (simp; done) | (simp; omega) | omega)).trans (by first | with_reducible assumption | (simp [go_sem]; done) | (simp [go_sem, *]; done))
              have k3_1_3 : w3.cell? ⟨w.heap.size + 1, 3, none⟩ = some (.int .i64 (k)) := (b3.cell (p := ⟨w.heap.size + 1, 3, none⟩) (by first | (simp; done) | (simp; omega) | omega)).trans (by first | with_reducible assumption | (simp [go_sem]; done) | (simp [go_sem, *]; done))
              have g3_1_3 : w3.frozen? ⟨w.heap.size + 1, 3, none⟩ = false := (b3.frozen (p := ⟨w.heap.size + 1, 3, none⟩) (by first | (simp; done) | (simp; omega) | omega)).trans (by first | with_reducible assumption | (simp [go_sem]; done) | (simp [go_sem, *]; done))
              clear k2_0_0 g2_0_0 k2_0_1 g2_0_1 k2_0_2 g2_0_2 k2_1_0 g2_1_0 k2_1_1 g2_1_1 k2_1_2 g2_1_2 k2_1_3 g2_1_3
              go_wp2_with fail
              refine (K4.out _).mono ?_
              rintro e w4 ⟨rfl, b4⟩
              have s4 := b4.size
              try simp at s4
              have z4_0 : w.heap.size < w4.heap.size := by omega
              have k4_0_0 : w4.cell? ⟨w.heap.size, 0, none⟩ = some (.int .i64 (a)) := (b4.cell (p := ⟨w.heap.size, 0, none⟩) (by first | (simp; done) | (simp; omega) | omega)).trans (by first | with_reducible assumption | (simp [go_sem]; done) | (simp [go_sem, *]; done))
              have g4_0_0 : w4.frozen? ⟨w.heap.size, 0, none⟩ = false := (b4.frozen (p := ⟨w.heap.size, 0, none⟩) (by first | (simp; done) | (simp; omega) | omega)).trans (by first | with_reducible assumption | (simp [go_sem]; done) | (simp [go_sem, *]; done))
              have k4_0_1 : w4.cell? ⟨w.heap.size, 1, none⟩ = some (.int .i64 (b)) := (b4.cell (p := ⟨w.heap.size, 1, none⟩) (by first | (simp; done) | (simp; omega) | omega)).trans (by first | with_reducible assumption | (simp [go_sem]; done) | (simp [go_sem, *]; done))
              have g4_0_1 : w4.frozen? ⟨w.heap.size, 1, none⟩ = false := (b4.frozen (p := ⟨w.heap.size, 1, none⟩) (by first | (simp; done) | (simp; omega) | omega)).trans (by first | with_reducible assumption | (simp [go_sem]; done) | (simp [go_sem, *]; done))
              have k4_0_2 : w4.cell? ⟨w.heap.size, 2, none⟩ = some (.int .i64 (c)) := (b4.cell (p := ⟨w.heap.size, 2, none⟩) (by first | (simp; done) | (simp; omega) | omega)).trans (by first | with_reducible assumption | (simp [go_sem]; done) | (simp [go_sem, *]; done))
              have g4_0_2 : w4.frozen? ⟨w.heap.size, 2, none⟩ = false := (b4.frozen (p := ⟨w.heap.size, 2, none⟩) (by first | (simp; done) | (simp; omega) | omega)).trans (by first | with_reducible assumption | (simp [go_sem]; done) | (simp [go_sem, *]; done))
              have z4_1 : w.heap.size + 1 < w4.heap.size := by omega
              have k4_1_0 : w4.cell? ⟨w.heap.size + 1, 0, none⟩ = some (.int .i64 (n)) := (b4.cell (p := ⟨w.heap.size + 1, 0, none⟩) (by first | (simp; done) | (simp; omega) | omega)).trans (by first | with_reducible assumption | (simp [go_sem]; done) | (simp [go_sem, *]; done))
              have g4_1_0 : w4.frozen? ⟨w.heap.size + 1, 0, none⟩ = false := (b4.frozen (p := ⟨w.heap.size + 1, 0, none⟩) (by first | (simp; done) | (simp; omega) | omega)).trans (by first | with_reducible assumption | (simp [go_sem]; done) | (simp [go_sem, *]; done))
              have k4_1_1 : w4.cell? ⟨w.heap.size + 1, 1, none⟩ = some (.int .i64 (d)) := (b4.cell (p := ⟨w.heap.size + 1, 1, none⟩) (by first | (simp; done) | (simp; omega) | omega)).trans (by first | with_reducible assumption | (simp [go_sem]; done) | (simp [go_sem, *]; done))
              have g4_1_1 : w4.frozen? ⟨w.heap.size + 1, 1, none⟩ = false := (b4.frozen (p := ⟨w.heap.size + 1, 1, none⟩) (by first | (simp; done) | (simp; omega) | omega)).trans (by first | with_reducible assumption | (simp [go_sem]; done) | (simp [go_sem, *]; done))
              have k4_1_2 : w4.cell? ⟨w.heap.size + 1, 2, none⟩ = some (.int .i64 (m)) := (b4.cell (p := ⟨w.heap.size + 1, 2, none⟩) (by first | (simp; done) | (simp; omega) | omega)).trans (by first | with_reducible assumption | (simp [go_sem]; done) | (simp [go_sem, *]; done))
              have g4_1_2 : w4.frozen? ⟨w.heap.size + 1, 2, none⟩ = false := (b4.frozen (p := ⟨w.heap.size + 1, 2, none⟩) (by first | (simp; done) | (simp; omega) | omega)).trans (by first | with_reducible assumption | (simp [go_sem]; done) | (simp [go_sem, *]; done))
              have k4_1_3 : w4.cell? ⟨w.heap.size + 1, 3, none⟩ = some (.int .i64 (k)) := (b4.cell (p := ⟨w.heap.size + 1, 3, none⟩) (by first | (simp; done) | (simp; omega) | omega)).trans (by first | with_reducible assumption | (simp [go_sem]; done) | (simp [go_sem, *]; done))
              have g4_1_3 : w4.frozen? ⟨w.heap.size + 1, 3, none⟩ = false := (b4.frozen (p := ⟨w.heap.size + 1, 3, none⟩) (by first | (simp; done) | (simp; omega) | omega)).trans (by first | with_reducible assumption | (simp [go_sem]; done) | (simp [go_sem, *]; done))
              clear k3_0_0 g3_0_0 k3_0_1 g3_0_1 k3_0_2 g3_0_2 k3_1_0 g3_1_0 k3_1_1 g3_1_1 k3_1_2 g3_1_2 k3_1_3 g3_1_3
              go_wp2_with fail
              refine (K5.out _).mono ?_
              rintro e w5 ⟨rfl, b5⟩
              have s5 := b5.size
              try simp at s5
              have z5_0 : w.heap.size < w5.heap.size := by omega
              have k5_0_0 : w5.cell? ⟨w.heap.size, 0, none⟩ = some (.int .i64 (a)) := (b5.cell (p := ⟨w.heap.size, 0, none⟩) (by first | (simp; done) | (simp; omega) | omega)).trans (by first | with_reducible assumption | (simp [go_sem]; done) | (simp [go_sem, *]; done))
              have g5_0_0 : w5.frozen? ⟨w.heap.size, 0, none⟩ = false := (b5.frozen (p := ⟨w.heap.size, 0, none⟩) (by first | (simp; done) | (simp; omega) | omega)).trans (by first | with_reducible assumption | (simp [go_sem]; done) | (simp [go_sem, *]; done))
              have k5_0_1 : w5.cell? ⟨w.heap.size, 1, none⟩ = some (.int .i64 (b)) := (b5.cell (p := ⟨w.heap.size, 1, none⟩) (by first | (simp; done) | (simp; omega) | omega)).trans (by first | with_reducible assumption | (simp [go_sem]; done) | (simp [go_sem, *]; done))
              have g5_0_1 : w5.frozen? ⟨w.heap.size, 1, none⟩ = false := (b5.frozen (p := ⟨w.heap.size, 1, none⟩) (by first | (simp; done) | (simp; omega) | omega)).trans (by first | with_reducible assumption | (simp [go_sem]; done) | (simp [go_sem, *]; done))
              have k5_0_2 : w5.cell? ⟨w.heap.size, 2, none⟩ = some (.int .i64 (c)) := (b5.cell (p := ⟨w.heap.size, 2, none⟩) (by first | (simp; done) | (simp; omega) | omega)).trans (by first | with_reducible assumption | (simp [go_sem]; done) | (simp [go_sem, *]; done))
              have g5_0_2 : w5.frozen? ⟨w.heap.size, 2, none⟩ = false := (b5.frozen (p := ⟨w.heap.size, 2, none⟩) (by first | (simp; done) | (simp; omega) | omega)).trans (by first | with_reducible assumption | (simp [go_sem]; done) | (simp [go_sem, *]; done))
              have z5_1 : w.heap.size + 1 < w5.heap.size := by omega
              have k5_1_0 : w5.cell? ⟨w.heap.size + 1, 0, none⟩ = some (.int .i64 (n)) := (b5.cell (p := ⟨w.heap.size + 1, 0, none⟩) (by first | (simp; done) | (simp; omega) | omega)).trans (by first | with_reducible assumption | (simp [go_sem]; done) | (simp [go_sem, *]; done))
              have g5_1_0 : w5.frozen? ⟨w.heap.size + 1, 0, none⟩ = false := (b5.frozen (p := ⟨w.heap.size + 1, 0, none⟩) (by first | (simp; done) | (simp; omega) | omega)).trans (by first | with_reducible assumption | (simp [go_sem]; done) | (simp [go_sem, *]; done))
              have k5_1_1 : w5.cell? ⟨w.heap.size + 1, 1, none⟩ = some (.int .i64 (d)) := (b5.cell (p := ⟨w.heap.size + 1, 1, none⟩) (by first | (simp; done) | (simp; omega) | omega)).trans (by first | with_reducible assumption | (simp [go_sem]; done) | (simp [go_sem, *]; done))
              have g5_1_1 : w5.frozen? ⟨w.heap.size + 1, 1, none⟩ = false := (b5.frozen (p := ⟨w.heap.size + 1, 1, none⟩) (by first | (simp; done) | (simp; omega) | omega)).trans (by first | with_reducible assumption | (simp [go_sem]; done) | (simp [go_sem, *]; done))
              have k5_1_2 : w5.cell? ⟨w.heap.size + 1, 2, none⟩ = some (.int .i64 (m)) := (b5.cell (p := ⟨w.heap.size + 1, 2, none⟩) (by first | (simp; done) | (simp; omega) | omega)).trans (by first | with_reducible assumption | (simp [go_sem]; done) | (simp [go_sem, *]; done))
              have g5_1_2 : w5.frozen? ⟨w.heap.size + 1, 2, none⟩ = false := (b5.frozen (p := ⟨w.heap.size + 1, 2, none⟩) (by first | (simp; done) | (simp; omega) | omega)).trans (by first | with_reducible assumption | (simp [go_sem]; done) | (simp [go_sem, *]; done))
              have k5_1_3 : w5.cell? ⟨w.heap.size + 1, 3, none⟩ = some (.int .i64 (k)) := (b5.cell (p := ⟨w.heap.size + 1, 3, none⟩) (by first | (simp; done) | (simp; omega) | omega)).trans (by first | with_reducible assumption | (simp [go_sem]; done) | (simp [go_sem, *]; done))
              have g5_1_3 : w5.frozen? ⟨w.heap.size + 1, 3, none⟩ = false := (b5.frozen (p := ⟨w.heap.size + 1, 3, none⟩) (by first | (simp; done) | (simp; omega) | omega)).trans (by first | with_reducible assumption | (simp [go_sem]; done) | (simp [go_sem, *]; done))
              clear k4_0_0 g4_0_0 k4_0_1 g4_0_1 k4_0_2 g4_0_2 k4_1_0 g4_1_0 k4_1_1 g4_1_1 k4_1_2 g4_1_2 k4_1_3 g4_1_3
              go_wp2
              go_ret
              exact ⟨rfl, (by (repeat (first | with_reducible exact Below.refl _ _ | with_reducible refine bl_alloc ?_ _ | with_reducible refine bl_drew ?_ | with_reducible refine bl_set ?_ (by first | (simp; done) | (simp; omega)) _ | with_reducible refine bl_call (by assumption) ?_)))⟩
          · have hr : SoF a b c n d m k = 2 := by simp [SoF, soOk, q0, q1, q2, q3, q4]
            rw [hr]
            clear hr
            obtain ⟨⟨la, ua⟩, ⟨lb, ub⟩, ⟨lc, uc⟩⟩ := lineB_tr q0
            obtain ⟨⟨ln, un⟩, ⟨ld, ud⟩⟩ := ratB_true q1
            obtain ⟨⟨lm, um⟩, ⟨lk, uk⟩⟩ := ratB_true q2
            obtain ⟨g1, gl, e1, e2, ⟨p1, p2⟩, ⟨r1, r2⟩, e3⟩ := so_div d k ld lk
            have pg1 : d / gcdI d k = soD d k := rfl
            have pg2 : k / gcdI d k = soK d k := rfl
            obtain ⟨f1, f2⟩ := so_quo d k ld lk
            obtain ⟨m1, m2⟩ := mul_bd (soD d k) k 20000000 20000000 (by omega) (by omega) (by omega) (by omega)
            have m0 := Int.mul_nonneg (show 0 ≤ soD d k by omega) (show 0 ≤ k by omega)
            have K1 : Hid (∀ W : World, Calls Try.prog 74 #[.agg #[.int .i64 a, .int .i64 b, .int .i64 c]] W fun e w' => e = .returned (.bool true) ∧ Below W.heap.size W w') := Lib.hid fun W => by
              have h := impl_Line_valid (a) (b) (c) W
              rw [q0] at h
              exact h
            have K2 : Hid (∀ W : World, Calls Try.prog 75 #[.agg #[.int .i64 n, .int .i64 d, .int .i64 m, .int .i64 k]] W fun e w' => e = .returned (.bool true) ∧ Below W.heap.size W w') := Lib.hid fun W => by
              have h := impl_RatPoint_valid (n) (d) (m) (k) W
              simp only [q1, q2, Bool.and_self] at h
              exact h
            have K3 : Hid (∀ W : World, Calls Try.prog 44 #[.int .i64 d, .int .i64 k] W fun e w' => e = .returned (.int .i64 (gcdI d k)) ∧ Below W.heap.size W w') := Lib.hid fun W => by
              have h := impl_divisor (d) (k) W (by omega) (by omega) (by omega) (by omega)
              exact h
            have K4 : Hid (∀ W : World, Calls Try.prog 76 #[.agg #[.int .i64 n, .int .i64 d]] W fun e w' => e = .returned (.bool false) ∧ Below W.heap.size W w') := Lib.hid fun W => by
              have h := impl_Rat_reaches (n) (d) W (by omega) (by omega)
              rw [decide_eq_false q4] at h
              exact h
            have v0 : (soD d k * k ≤ 20000000) := by omega
            clear q0 q1 q2 q3 q4
            generalize gcdI d k = G at *
            generalize soD d k = D1 at *
            generalize soK d k = KQ at *
            have pf1 : D1 * k / d = KQ := by rw [← Int.tdiv_eq_ediv_of_nonneg m0]; exact f1
            have pf2 : D1 * k / k = D1 := by rw [← Int.tdiv_eq_ediv_of_nonneg m0]; exact f2
            have wr0 : IntKind.i64.wrap (D1) = D1 := IntWalk.i64_in _ (by omega)
            have wr1 : IntKind.i64.wrap (D1 * k) = D1 * k := IntWalk.i64_in _ (by omega)
            have wr2 : IntKind.i64.wrap (KQ) = KQ := IntWalk.i64_in _ (by omega)
            have vb : decide (20000000 < D1 * k) = false := decide_eq_false (by omega)
            have gz : ¬ G = 0 := by omega
            have dz : ¬ d = 0 := by omega
            have kz : ¬ k = 0 := by omega
            clear e3
            go_enter Try.func39, Try.ntmps39
            go_wp2_with fail
            refine (K1.out _).mono ?_
            rintro e w1 ⟨rfl, b1⟩
            have s1 := b1.size
            try simp at s1
            have z1_0 : w.heap.size < w1.heap.size := by omega
            have k1_0_0 : w1.cell? ⟨w.heap.size, 0, none⟩ = some (.int .i64 (a)) := (b1.cell (p := ⟨w.heap.size, 0, none⟩) (by first | (simp; done) | (simp; omega) | omega)).trans (by first | with_reducible assumption | (simp [go_sem]; done) | (simp [go_sem, *]; done))
            have g1_0_0 : w1.frozen? ⟨w.heap.size, 0, none⟩ = false := (b1.frozen (p := ⟨w.heap.size, 0, none⟩) (by first | (simp; done) | (simp; omega) | omega)).trans (by first | with_reducible assumption | (simp [go_sem]; done) | (simp [go_sem, *]; done))
            have k1_0_1 : w1.cell? ⟨w.heap.size, 1, none⟩ = some (.int .i64 (b)) := (b1.cell (p := ⟨w.heap.size, 1, none⟩) (by first | (simp; done) | (simp; omega) | omega)).trans (by first | with_reducible assumption | (simp [go_sem]; done) | (simp [go_sem, *]; done))
            have g1_0_1 : w1.frozen? ⟨w.heap.size, 1, none⟩ = false := (b1.frozen (p := ⟨w.heap.size, 1, none⟩) (by first | (simp; done) | (simp; omega) | omega)).trans (by first | with_reducible assumption | (simp [go_sem]; done) | (simp [go_sem, *]; done))
            have k1_0_2 : w1.cell? ⟨w.heap.size, 2, none⟩ = some (.int .i64 (c)) := (b1.cell (p := ⟨w.heap.size, 2, none⟩) (by first | (simp; done) | (simp; omega) | omega)).trans (by first | with_reducible assumption | (simp [go_sem]; done) | (simp [go_sem, *]; done))
            have g1_0_2 : w1.frozen? ⟨w.heap.size, 2, none⟩ = false := (b1.frozen (p := ⟨w.heap.size, 2, none⟩) (by first | (simp; done) | (simp; omega) | omega)).trans (by first | with_reducible assumption | (simp [go_sem]; done) | (simp [go_sem, *]; done))
            have z1_1 : w.heap.size + 1 < w1.heap.size := by omega
            have k1_1_0 : w1.cell? ⟨w.heap.size + 1, 0, none⟩ = some (.int .i64 (n)) := (b1.cell (p := ⟨w.heap.size + 1, 0, none⟩) (by first | (simp; done) | (simp; omega) | omega)).trans (by first | with_reducible assumption | (simp [go_sem]; done) | (simp [go_sem, *]; done))
            have g1_1_0 : w1.frozen? ⟨w.heap.size + 1, 0, none⟩ = false := (b1.frozen (p := ⟨w.heap.size + 1, 0, none⟩) (by first | (simp; done) | (simp; omega) | omega)).trans (by first | with_reducible assumption | (simp [go_sem]; done) | (simp [go_sem, *]; done))
            have k1_1_1 : w1.cell? ⟨w.heap.size + 1, 1, none⟩ = some (.int .i64 (d)) := (b1.cell (p := ⟨w.heap.size + 1, 1, none⟩) (by first | (simp; done) | (simp; omega) | omega)).trans (by first | with_reducible assumption | (simp [go_sem]; done) | (simp [go_sem, *]; done))
            have g1_1_1 : w1.frozen? ⟨w.heap.size + 1, 1, none⟩ = false := (b1.frozen (p := ⟨w.heap.size + 1, 1, none⟩) (by first | (simp; done) | (simp; omega) | omega)).trans (by first | with_reducible assumption | (simp [go_sem]; done) | (simp [go_sem, *]; done))
            have k1_1_2 : w1.cell? ⟨w.heap.size + 1, 2, none⟩ = some (.int .i64 (m)) := (b1.cell (p := ⟨w.heap.size + 1, 2, none⟩) (by first | (simp; done) | (simp; omega) | omega)).trans (by first | with_reducible assumption | (simp [go_sem]; done) | (simp [go_sem, *]; done))
            have g1_1_2 : w1.frozen? ⟨w.heap.size + 1, 2, none⟩ = false := (b1.frozen (p := ⟨w.heap.size + 1, 2, none⟩) (by first | (simp; done) | (simp; omega) | omega)).trans (by first | with_reducible assumption | (simp [go_sem]; done) | (simp [go_sem, *]; done))
            have k1_1_3 : w1.cell? ⟨w.heap.size + 1, 3, none⟩ = some (.int .i64 (k)) := (b1.cell (p := ⟨w.heap.size + 1, 3, none⟩) (by first | (simp; done) | (simp; omega) | omega)).trans (by first | with_reducible assumption | (simp [go_sem]; done) | (simp [go_sem, *]; done))
            have g1_1_3 : w1.frozen? ⟨w.heap.size + 1, 3, none⟩ = false := (b1.frozen (p := ⟨w.heap.size + 1, 3, none⟩) (by first | (simp; done) | (simp; omega) | omega)).trans (by first | with_reducible assumption | (simp [go_sem]; done) | (simp [go_sem, *]; done))
            go_wp2_with fail
            refine (K2.out _).mono ?_
            rintro e w2 ⟨rfl, b2⟩
            have s2 := b2.size
            try simp at s2
            have z2_0 : w.heap.size < w2.heap.size := by omega
            have k2_0_0 : w2.cell? ⟨w.heap.size, 0, none⟩ = some (.int .i64 (a)) := (b2.cell (p := ⟨w.heap.size, 0, none⟩) (by first | (simp; done) | (simp; omega) | omega)).trans (by first | with_reducible assumption | (simp [go_sem]; done) | (simp [go_sem, *]; done))
            have g2_0_0 : w2.frozen? ⟨w.heap.size, 0, none⟩ = false := (b2.frozen (p := ⟨w.heap.size, 0, none⟩) (by first | (simp; done) | (simp; omega) | omega)).trans (by first | with_reducible assumption | (simp [go_sem]; done) | (simp [go_sem, *]; done))
            have k2_0_1 : w2.cell? ⟨w.heap.size, 1, none⟩ = some (.int .i64 (b)) := (b2.cell (p := ⟨w.heap.size, 1, none⟩) (by first | (simp; done) | (simp; omega) | omega)).trans (by first | with_reducible assumption | (simp [go_sem]; done) | (simp [go_sem, *]; done))
            have g2_0_1 : w2.frozen? ⟨w.heap.size, 1, none⟩ = false := (b2.frozen (p := ⟨w.heap.size, 1, none⟩) (by first | (simp; done) | (simp; omega) | omega)).trans (by first | with_reducible assumption | (simp [go_sem]; done) | (simp [go_sem, *]; done))
            have k2_0_2 : w2.cell? ⟨w.heap.size, 2, none⟩ = some (.int .i64 (c)) := (b2.cell (p := ⟨w.heap.size, 2, none⟩) (by first | (simp; done) | (simp; omega) | omega)).trans (by first | with_reducible assumption | (simp [go_sem]; done) | (simp [go_sem, *]; done))
            have g2_0_2 : w2.frozen? ⟨w.heap.size, 2, none⟩ = false := (b2.frozen (p := ⟨w.heap.size, 2, none⟩) (by first | (simp; done) | (simp; omega) | omega)).trans (by first | with_reducible assumption | (simp [go_sem]; done) | (simp [go_sem, *]; done))
            have z2_1 : w.heap.size + 1 < w2.heap.size := by omega
            have k2_1_0 : w2.cell? ⟨w.heap.size + 1, 0, none⟩ = some (.int .i64 (n)) := (b2.cell (p := ⟨w.heap.size + 1, 0, none⟩) (by first | (simp; done) | (simp; omega) | omega)).trans (by first | with_reducible assumption | (simp [go_sem]; done) | (simp [go_sem, *]; done))
            have g2_1_0 : w2.frozen? ⟨w.heap.size + 1, 0, none⟩ = false := (b2.frozen (p := ⟨w.heap.size + 1, 0, none⟩) (by first | (simp; done) | (simp; omega) | omega)).trans (by first | with_reducible assumption | (simp [go_sem]; done) | (simp [go_sem, *]; done))
            have k2_1_1 : w2.cell? ⟨w.heap.size + 1, 1, none⟩ = some (.int .i64 (d)) := (b2.cell (p := ⟨w.heap.size + 1, 1, none⟩) (by first | (simp; done) | (simp; omega) | omega)).trans (by first | with_reducible assumption | (simp [go_sem]; done) | (simp [go_sem, *]; done))
            have g2_1_1 : w2.frozen? ⟨w.heap.size + 1, 1, none⟩ = false := (b2.frozen (p := ⟨w.heap.size + 1, 1, none⟩) (by first | (simp; done) | (simp; omega) | omega)).trans (by first | with_reducible assumption | (simp [go_sem]; done) | (simp [go_sem, *]; done))
            have k2_1_2 : w2.cell? ⟨w.heap.size + 1, 2, none⟩ = some (.int .i64 (m)) := (b2.cell (p := ⟨w.heap.size + 1, 2, none⟩) (by first | (simp; done) | (simp; omega) | omega)).trans (by first | with_reducible assumption | (simp [go_sem]; done) | (simp [go_sem, *]; done))
            have g2_1_2 : w2.frozen? ⟨w.heap.size + 1, 2, none⟩ = false := (b2.frozen (p := ⟨w.heap.size + 1, 2, none⟩) (by first | (simp; done) | (simp; omega) | omega)).trans (by first | with_reducible assumption | (simp [go_sem]; done) | (simp [go_sem, *]; done))
            have k2_1_3 : w2.cell? ⟨w.heap.size + 1, 3, none⟩ = some (.int .i64 (k)) := (b2.cell (p := ⟨w.heap.size + 1, 3, none⟩) (by first | (simp; done) | (simp; omega) | omega)).trans (by first | with_reducible assumption | (simp [go_sem]; done) | (simp [go_sem, *]; done))
            have g2_1_3 : w2.frozen? ⟨w.heap.size + 1, 3, none⟩ = false := (b2.frozen (p := ⟨w.heap.size + 1, 3, none⟩) (by first | (simp; done) | (simp; omega) | omega)).trans (by first | with_reducible assumption | (simp [go_sem]; done) | (simp [go_sem, *]; done))
            clear k1_0_0 g1_0_0 k1_0_1 g1_0_1 k1_0_2 g1_0_2 k1_1_0 g1_1_0 k1_1_1 g1_1_1 k1_1_2 g1_1_2 k1_1_3 g1_1_3
            go_wp2
            have kc0 := cell_regrown (w := w2) (a := ⟨w.heap.size, 0, none⟩) (v := .int .i64 (a)) (by first | ((repeat (first | with_reducible assumption | with_reducible refine calloc ?_ _)); done) | (simp [go_sem]; done) | (simp [go_sem, *]; done))
            have kc1 := cell_regrown (w := w2) (a := ⟨w.heap.size, 1, none⟩) (v := .int .i64 (b)) (by first | ((repeat (first | with_reducible assumption | with_reducible refine calloc ?_ _)); done) | (simp [go_sem]; done) | (simp [go_sem, *]; done))
            have kc2 := cell_regrown (w := w2) (a := ⟨w.heap.size, 2, none⟩) (v := .int .i64 (c)) (by first | ((repeat (first | with_reducible assumption | with_reducible refine calloc ?_ _)); done) | (simp [go_sem]; done) | (simp [go_sem, *]; done))
            have kc3 := cell_regrown (w := w2) (a := ⟨w.heap.size + 1, 0, none⟩) (v := .int .i64 (n)) (by first | ((repeat (first | with_reducible assumption | with_reducible refine calloc ?_ _)); done) | (simp [go_sem]; done) | (simp [go_sem, *]; done))
            have kc4 := cell_regrown (w := w2) (a := ⟨w.heap.size + 1, 1, none⟩) (v := .int .i64 (d)) (by first | ((repeat (first | with_reducible assumption | with_reducible refine calloc ?_ _)); done) | (simp [go_sem]; done) | (simp [go_sem, *]; done))
            have kc5 := cell_regrown (w := w2) (a := ⟨w.heap.size + 1, 2, none⟩) (v := .int .i64 (m)) (by first | ((repeat (first | with_reducible assumption | with_reducible refine calloc ?_ _)); done) | (simp [go_sem]; done) | (simp [go_sem, *]; done))
            have kc6 := cell_regrown (w := w2) (a := ⟨w.heap.size + 1, 3, none⟩) (v := .int .i64 (k)) (by first | ((repeat (first | with_reducible assumption | with_reducible refine calloc ?_ _)); done) | (simp [go_sem]; done) | (simp [go_sem, *]; done))
            refine wp_region_quiet_below (by kernel_rfl) (by kernel_rfl) ?_
            repeat (go_big_quiet_step ((first | (go_at_call 44; exact Calls.regrown_of (K3.out _)))))
            refine wpQuiet_nil ?_
            intro w3 hw'
            have b3 : Below w2.heap.size w2 w3 := by
              obtain ⟨pp, rfl⟩ := hw'
              exact below_regrown _ _ _
            clear hw' kc0 kc1 kc2 kc3 kc4 kc5 kc6
            have s3 := b3.size
            try simp at s3
            have z3_0 : w.heap.size < w3.heap.size := by omega
            have k3_0_0 : w3.cell? ⟨w.heap.size, 0, none⟩ = some (.int .i64 (a)) := (b3.cell (p := ⟨w.heap.size, 0, none⟩) (by first | (simp; done) | (simp; omega) | omega)).trans (by first | with_reducible assumption | (simp [go_sem]; done) | (simp [go_sem, *]; done))
            have g3_0_0 : w3.frozen? ⟨w.heap.size, 0, none⟩ = false := (b3.frozen (p := ⟨w.heap.size, 0, none⟩) (by first | (simp; done) | (simp; omega) | omega)).trans (by first | with_reducible assumption | (simp [go_sem]; done) | (simp [go_sem, *]; done))
            have k3_0_1 : w3.cell? ⟨w.heap.size, 1, none⟩ = some (.int .i64 (b)) := (b3.cell (p := ⟨w.heap.size, 1, none⟩) (by first | (simp; done) | (simp; omega) | omega)).trans (by first | with_reducible assumption | (simp [go_sem]; done) | (simp [go_sem, *]; done))
            have g3_0_1 : w3.frozen? ⟨w.heap.size, 1, none⟩ = false := (b3.frozen (p := ⟨w.heap.size, 1, none⟩) (by first | (simp; done) | (simp; omega) | omega)).trans (by first | with_reducible assumption | (simp [go_sem]; done) | (simp [go_sem, *]; done))
            have k3_0_2 : w3.cell? ⟨w.heap.size, 2, none⟩ = some (.int .i64 (c)) := (b3.cell (p := ⟨w.heap.size, 2, none⟩) (by first | (simp; done) | (simp; omega) | omega)).trans (by first | with_reducible assumption | (simp [go_sem]; done) | (simp [go_sem, *]; done))
            have g3_0_2 : w3.frozen? ⟨w.heap.size, 2, none⟩ = false := (b3.frozen (p := ⟨w.heap.size, 2, none⟩) (by first | (simp; done) | (simp; omega) | omega)).trans (by first | with_reducible assumption | (simp [go_sem]; done) | (simp [go_sem, *]; done))
            have z3_1 : w.heap.size + 1 < w3.heap.size := by omega
            have k3_1_0 : w3.cell? ⟨w.heap.size + 1, 0, none⟩ = some (.int .i64 (n)) := (b3.cell (p := ⟨w.heap.size + 1, 0, none⟩) (by first | (simp; done) | (simp; omega) | omega)).trans (by first | with_reducible assumption | (simp [go_sem]; done) | (simp [go_sem, *]; done))
            have g3_1_0 : w3.frozen? ⟨w.heap.size + 1, 0, none⟩ = false := (b3.frozen (p := ⟨w.heap.size + 1, 0, none⟩) (by first | (simp; done) | (simp; omega) | omega)).trans (by first | with_reducible assumption | (simp [go_sem]; done) | (simp [go_sem, *]; done))
            have k3_1_1 : w3.cell? ⟨w.heap.size + 1, 1, none⟩ = some (.int .i64 (d)) := (b3.cell (p := ⟨w.heap.size + 1, 1, none⟩) (by first | (simp; done) | (simp; omega) | omega)).trans (by first | with_reducible assumption | (simp [go_sem]; done) | (simp [go_sem, *]; done))
            have g3_1_1 : w3.frozen? ⟨w.heap.size + 1, 1, none⟩ = false := (b3.frozen (p := ⟨w.heap.size + 1, 1, none⟩) (by first | (simp; done) | (simp; omega) | omega)).trans (by first | with_reducible assumption | (simp [go_sem]; done) | (simp [go_sem, *]; done))
            have k3_1_2 : w3.cell? ⟨w.heap.size + 1, 2, none⟩ = some (.int .i64 (m)) := (b3.cell (p := ⟨w.heap.size + 1, 2, none⟩) (by first | (simp; done) | (simp; omega) | omega)).trans (by first | with_reducible assumption | (simp [go_sem]; done) | (simp [go_sem, *]; done))
            have g3_1_2 : w3.frozen? ⟨w.heap.size + 1, 2, none⟩ = false := (b3.frozen (p := ⟨w.heap.size + 1, 2, none⟩) (by first | (simp; done) | (simp; omega) | omega)).trans (by first | with_reducible assumption | (simp [go_sem]; done) | (simp [go_sem, *]; done))
            have k3_1_3 : w3.cell? ⟨w.heap.size + 1, 3, none⟩ = some (.int .i64 (k)) := (b3.cell (p := ⟨w.heap.size + 1, 3, none⟩) (by first | (simp; done) | (simp; omega) | omega)).trans (by first | with_reducible assumption | (simp [go_sem]; done) | (simp [go_sem, *]; done))
            have g3_1_3 : w3.frozen? ⟨w.heap.size + 1, 3, none⟩ = false := (b3.frozen (p := ⟨w.heap.size + 1, 3, none⟩) (by first | (simp; done) | (simp; omega) | omega)).trans (by first | with_reducible assumption | (simp [go_sem]; done) | (simp [go_sem, *]; done))
            clear k2_0_0 g2_0_0 k2_0_1 g2_0_1 k2_0_2 g2_0_2 k2_1_0 g2_1_0 k2_1_1 g2_1_1 k2_1_2 g2_1_2 k2_1_3 g2_1_3
            go_wp2_with fail
            refine (K4.out _).mono ?_
            rintro e w4 ⟨rfl, b4⟩
            have s4 := b4.size
            try simp at s4
            have z4_0 : w.heap.size < w4.heap.size := by omega
            have k4_0_0 : w4.cell? ⟨w.heap.size, 0, none⟩ = some (.int .i64 (a)) := (b4.cell (p := ⟨w.heap.size, 0, none⟩) (by first | (simp; done) | (simp; omega) | omega)).trans (by first | with_reducible assumption | (simp [go_sem]; done) | (simp [go_sem, *]; done))
            have g4_0_0 : w4.frozen? ⟨w.heap.size, 0, none⟩ = false := (b4.frozen (p := ⟨w.heap.size, 0, none⟩) (by first | (simp; done) | (simp; omega) | omega)).trans (by first | with_reducible assumption | (simp [go_sem]; done) | (simp [go_sem, *]; done))
            have k4_0_1 : w4.cell? ⟨w.heap.size, 1, none⟩ = some (.int .i64 (b)) := (b4.cell (p := ⟨w.heap.size, 1, none⟩) (by first | (simp; done) | (simp; omega) | omega)).trans (by first | with_reducible assumption | (simp [go_sem]; done) | (simp [go_sem, *]; done))
            have g4_0_1 : w4.frozen? ⟨w.heap.size, 1, none⟩ = false := (b4.frozen (p := ⟨w.heap.size, 1, none⟩) (by first | (simp; done) | (simp; omega) | omega)).trans (by first | with_reducible assumption | (simp [go_sem]; done) | (simp [go_sem, *]; done))
            have k4_0_2 : w4.cell? ⟨w.heap.size, 2, none⟩ = some (.int .i64 (c)) := (b4.cell (p := ⟨w.heap.size, 2, none⟩) (by first | (simp; done) | (simp; omega) | omega)).trans (by first | with_reducible assumption | (simp [go_sem]; done) | (simp [go_sem, *]; done))
            have g4_0_2 : w4.frozen? ⟨w.heap.size, 2, none⟩ = false := (b4.frozen (p := ⟨w.heap.size, 2, none⟩) (by first | (simp; done) | (simp; omega) | omega)).trans (by first | with_reducible assumption | (simp [go_sem]; done) | (simp [go_sem, *]; done))
            have z4_1 : w.heap.size + 1 < w4.heap.size := by omega
            have k4_1_0 : w4.cell? ⟨w.heap.size + 1, 0, none⟩ = some (.int .i64 (n)) := (b4.cell (p := ⟨w.heap.size + 1, 0, none⟩) (by first | (simp; done) | (simp; omega) | omega)).trans (by first | with_reducible assumption | (simp [go_sem]; done) | (simp [go_sem, *]; done))
            have g4_1_0 : w4.frozen? ⟨w.heap.size + 1, 0, none⟩ = false := (b4.frozen (p := ⟨w.heap.size + 1, 0, none⟩) (by first | (simp; done) | (simp; omega) | omega)).trans (by first | with_reducible assumption | (simp [go_sem]; done) | (simp [go_sem, *]; done))
            have k4_1_1 : w4.cell? ⟨w.heap.size + 1, 1, none⟩ = some (.int .i64 (d)) := (b4.cell (p := ⟨w.heap.size + 1, 1, none⟩) (by first | (simp; done) | (simp; omega) | omega)).trans (by first | with_reducible assumption | (simp [go_sem]; done) | (simp [go_sem, *]; done))
            have g4_1_1 : w4.frozen? ⟨w.heap.size + 1, 1, none⟩ = false := (b4.frozen (p := ⟨w.heap.size + 1, 1, none⟩) (by first | (simp; done) | (simp; omega) | omega)).trans (by first | with_reducible assumption | (simp [go_sem]; done) | (simp [go_sem, *]; done))
            have k4_1_2 : w4.cell? ⟨w.heap.size + 1, 2, none⟩ = some (.int .i64 (m)) := (b4.cell (p := ⟨w.heap.size + 1, 2, none⟩) (by first | (simp; done) | (simp; omega) | omega)).trans (by first | with_reducible assumption | (simp [go_sem]; done) | (simp [go_sem, *]; done))
            have g4_1_2 : w4.frozen? ⟨w.heap.size + 1, 2, none⟩ = false := (b4.frozen (p := ⟨w.heap.size + 1, 2, none⟩) (by first | (simp; done) | (simp; omega) | omega)).trans (by first | with_reducible assumption | (simp [go_sem]; done) | (simp [go_sem, *]; done))
            have k4_1_3 : w4.cell? ⟨w.heap.size + 1, 3, none⟩ = some (.int .i64 (k)) := (b4.cell (p := ⟨w.heap.size + 1, 3, none⟩) (by first | (simp; done) | (simp; omega) | omega)).trans (by first | with_reducible assumption | (simp [go_sem]; done) | (simp [go_sem, *]; done))
            have g4_1_3 : w4.frozen? ⟨w.heap.size + 1, 3, none⟩ = false := (b4.frozen (p := ⟨w.heap.size + 1, 3, none⟩) (by first | (simp; done) | (simp; omega) | omega)).trans (by first | with_reducible assumption | (simp [go_sem]; done) | (simp [go_sem, *]; done))
            clear k3_0_0 g3_0_0 k3_0_1 g3_0_1 k3_0_2 g3_0_2 k3_1_0 g3_1_0 k3_1_1 g3_1_1 k3_1_2 g3_1_2 k3_1_3 g3_1_3
            go_wp2
            go_ret
            exact ⟨rfl, (by (repeat (first | with_reducible exact Below.refl _ _ | with_reducible refine bl_alloc ?_ _ | with_reducible refine bl_drew ?_ | with_reducible refine bl_set ?_ (by first | (simp; done) | (simp; omega)) _ | with_reducible refine bl_call (by assumption) ?_)))⟩
        · have hr : SoF a b c n d m k = 2 := by simp [SoF, soOk, q0, q1, q2, q3]
          rw [hr]
          clear hr
          obtain ⟨⟨la, ua⟩, ⟨lb, ub⟩, ⟨lc, uc⟩⟩ := lineB_tr q0
          obtain ⟨⟨ln, un⟩, ⟨ld, ud⟩⟩ := ratB_true q1
          obtain ⟨⟨lm, um⟩, ⟨lk, uk⟩⟩ := ratB_true q2
          obtain ⟨g1, gl, e1, e2, ⟨p1, p2⟩, ⟨r1, r2⟩, e3⟩ := so_div d k ld lk
          have pg1 : d / gcdI d k = soD d k := rfl
          have pg2 : k / gcdI d k = soK d k := rfl
          obtain ⟨f1, f2⟩ := so_quo d k ld lk
          obtain ⟨m1, m2⟩ := mul_bd (soD d k) k 20000000 20000000 (by omega) (by omega) (by omega) (by omega)
          have m0 := Int.mul_nonneg (show 0 ≤ soD d k by omega) (show 0 ≤ k by omega)
          have K1 : Hid (∀ W : World, Calls Try.prog 74 #[.agg #[.int .i64 a, .int .i64 b, .int .i64 c]] W fun e w' => e = .returned (.bool true) ∧ Below W.heap.size W w') := Lib.hid fun W => by
            have h := impl_Line_valid (a) (b) (c) W
            rw [q0] at h
            exact h
          have K2 : Hid (∀ W : World, Calls Try.prog 75 #[.agg #[.int .i64 n, .int .i64 d, .int .i64 m, .int .i64 k]] W fun e w' => e = .returned (.bool true) ∧ Below W.heap.size W w') := Lib.hid fun W => by
            have h := impl_RatPoint_valid (n) (d) (m) (k) W
            simp only [q1, q2, Bool.and_self] at h
            exact h
          have K3 : Hid (∀ W : World, Calls Try.prog 44 #[.int .i64 d, .int .i64 k] W fun e w' => e = .returned (.int .i64 (gcdI d k)) ∧ Below W.heap.size W w') := Lib.hid fun W => by
            have h := impl_divisor (d) (k) W (by omega) (by omega) (by omega) (by omega)
            exact h
          have v0 : ¬ (soD d k * k ≤ 20000000) := by omega
          clear q0 q1 q2 q3
          generalize gcdI d k = G at *
          generalize soD d k = D1 at *
          generalize soK d k = KQ at *
          have pf1 : D1 * k / d = KQ := by rw [← Int.tdiv_eq_ediv_of_nonneg m0]; exact f1
          have pf2 : D1 * k / k = D1 := by rw [← Int.tdiv_eq_ediv_of_nonneg m0]; exact f2
          have wr0 : IntKind.i64.wrap (D1) = D1 := IntWalk.i64_in _ (by omega)
          have wr1 : IntKind.i64.wrap (D1 * k) = D1 * k := IntWalk.i64_in _ (by omega)
          have wr2 : IntKind.i64.wrap (KQ) = KQ := IntWalk.i64_in _ (by omega)
          have vb : decide (20000000 < D1 * k) = true := decide_eq_true (by omega)
          have gz : ¬ G = 0 := by omega
          have dz : ¬ d = 0 := by omega
          have kz : ¬ k = 0 := by omega
          clear e3
          go_enter Try.func39, Try.ntmps39
          go_wp2_with fail
          refine (K1.out _).mono ?_
          rintro e w1 ⟨rfl, b1⟩
          have s1 := b1.size
          try simp at s1
          have z1_0 : w.heap.size < w1.heap.size := by omega
          have k1_0_0 : w1.cell? ⟨w.heap.size, 0, none⟩ = some (.int .i64 (a)) := (b1.cell (p := ⟨w.heap.size, 0, none⟩) (by first | (simp; done) | (simp; omega) | omega)).trans (by first | with_reducible assumption | (simp [go_sem]; done) | (simp [go_sem, *]; done))
          have g1_0_0 : w1.frozen? ⟨w.heap.size, 0, none⟩ = false := (b1.frozen (p := ⟨w.heap.size, 0, none⟩) (by first | (simp; done) | (simp; omega) | omega)).trans (by first | with_reducible assumption | (simp [go_sem]; done) | (simp [go_sem, *]; done))
          have k1_0_1 : w1.cell? ⟨w.heap.size, 1, none⟩ = some (.int .i64 (b)) := (b1.cell (p := ⟨w.heap.size, 1, none⟩) (by first | (simp; done) | (simp; omega) | omega)).trans (by first | with_reducible assumption | (simp [go_sem]; done) | (simp [go_sem, *]; done))
          have g1_0_1 : w1.frozen? ⟨w.heap.size, 1, none⟩ = false := (b1.frozen (p := ⟨w.heap.size, 1, none⟩) (by first | (simp; done) | (simp; omega) | omega)).trans (by first | with_reducible assumption | (simp [go_sem]; done) | (simp [go_sem, *]; done))
          have k1_0_2 : w1.cell? ⟨w.heap.size, 2, none⟩ = some (.int .i64 (c)) := (b1.cell (p := ⟨w.heap.size, 2, none⟩) (by first | (simp; done) | (simp; omega) | omega)).trans (by first | with_reducible assumption | (simp [go_sem]; done) | (simp [go_sem, *]; done))
          have g1_0_2 : w1.frozen? ⟨w.heap.size, 2, none⟩ = false := (b1.frozen (p := ⟨w.heap.size, 2, none⟩) (by first | (simp; done) | (simp; omega) | omega)).trans (by first | with_reducible assumption | (simp [go_sem]; done) | (simp [go_sem, *]; done))
          have z1_1 : w.heap.size + 1 < w1.heap.size := by omega
          have k1_1_0 : w1.cell? ⟨w.heap.size + 1, 0, none⟩ = some (.int .i64 (n)) := (b1.cell (p := ⟨w.heap.size + 1, 0, none⟩) (by first | (simp; done) | (simp; omega) | omega)).trans (by first | with_reducible assumption | (simp [go_sem]; done) | (simp [go_sem, *]; done))
          have g1_1_0 : w1.frozen? ⟨w.heap.size + 1, 0, none⟩ = false := (b1.frozen (p := ⟨w.heap.size + 1, 0, none⟩) (by first | (simp; done) | (simp; omega) | omega)).trans (by first | with_reducible assumption | (simp [go_sem]; done) | (simp [go_sem, *]; done))
          have k1_1_1 : w1.cell? ⟨w.heap.size + 1, 1, none⟩ = some (.int .i64 (d)) := (b1.cell (p := ⟨w.heap.size + 1, 1, none⟩) (by first | (simp; done) | (simp; omega) | omega)).trans (by first | with_reducible assumption | (simp [go_sem]; done) | (simp [go_sem, *]; done))
          have g1_1_1 : w1.frozen? ⟨w.heap.size + 1, 1, none⟩ = false := (b1.frozen (p := ⟨w.heap.size + 1, 1, none⟩) (by first | (simp; done) | (simp; omega) | omega)).trans (by first | with_reducible assumption | (simp [go_sem]; done) | (simp [go_sem, *]; done))
          have k1_1_2 : w1.cell? ⟨w.heap.size + 1, 2, none⟩ = some (.int .i64 (m)) := (b1.cell (p := ⟨w.heap.size + 1, 2, none⟩) (by first | (simp; done) | (simp; omega) | omega)).trans (by first | with_reducible assumption | (simp [go_sem]; done) | (simp [go_sem, *]; done))
          have g1_1_2 : w1.frozen? ⟨w.heap.size + 1, 2, none⟩ = false := (b1.frozen (p := ⟨w.heap.size + 1, 2, none⟩) (by first | (simp; done) | (simp; omega) | omega)).trans (by first | with_reducible assumption | (simp [go_sem]; done) | (simp [go_sem, *]; done))
          have k1_1_3 : w1.cell? ⟨w.heap.size + 1, 3, none⟩ = some (.int .i64 (k)) := (b1.cell (p := ⟨w.heap.size + 1, 3, none⟩) (by first | (simp; done) | (simp; omega) | omega)).trans (by first | with_reducible assumption | (simp [go_sem]; done) | (simp [go_sem, *]; done))
          have g1_1_3 : w1.frozen? ⟨w.heap.size + 1, 3, none⟩ = false := (b1.frozen (p := ⟨w.heap.size + 1, 3, none⟩) (by first | (simp; done) | (simp; omega) | omega)).trans (by first | with_reducible assumption | (simp [go_sem]; done) | (simp [go_sem, *]; done))
          go_wp2_with fail
          refine (K2.out _).mono ?_
          rintro e w2 ⟨rfl, b2⟩
          have s2 := b2.size
          try simp at s2
          have z2_0 : w.heap.size < w2.heap.size := by omega
          have k2_0_0 : w2.cell? ⟨w.heap.size, 0, none⟩ = some (.int .i64 (a)) := (b2.cell (p := ⟨w.heap.size, 0, none⟩) (by first | (simp; done) | (simp; omega) | omega)).trans (by first | with_reducible assumption | (simp [go_sem]; done) | (simp [go_sem, *]; done))
          have g2_0_0 : w2.frozen? ⟨w.heap.size, 0, none⟩ = false := (b2.frozen (p := ⟨w.heap.size, 0, none⟩) (by first | (simp; done) | (simp; omega) | omega)).trans (by first | with_reducible assumption | (simp [go_sem]; done) | (simp [go_sem, *]; done))
          have k2_0_1 : w2.cell? ⟨w.heap.size, 1, none⟩ = some (.int .i64 (b)) := (b2.cell (p := ⟨w.heap.size, 1, none⟩) (by first | (simp; done) | (simp; omega) | omega)).trans (by first | with_reducible assumption | (simp [go_sem]; done) | (simp [go_sem, *]; done))
          have g2_0_1 : w2.frozen? ⟨w.heap.size, 1, none⟩ = false := (b2.frozen (p := ⟨w.heap.size, 1, none⟩) (by first | (simp; done) | (simp; omega) | omega)).trans (by first | with_reducible assumption | (simp [go_sem]; done) | (simp [go_sem, *]; done))
          have k2_0_2 : w2.cell? ⟨w.heap.size, 2, none⟩ = some (.int .i64 (c)) := (b2.cell (p := ⟨w.heap.size, 2, none⟩) (by first | (simp; done) | (simp; omega) | omega)).trans (by first | with_reducible assumption | (simp [go_sem]; done) | (simp [go_sem, *]; done))
          have g2_0_2 : w2.frozen? ⟨w.heap.size, 2, none⟩ = false := (b2.frozen (p := ⟨w.heap.size, 2, none⟩) (by first | (simp; done) | (simp; omega) | omega)).trans (by first | with_reducible assumption | (simp [go_sem]; done) | (simp [go_sem, *]; done))
          have z2_1 : w.heap.size + 1 < w2.heap.size := by omega
          have k2_1_0 : w2.cell? ⟨w.heap.size + 1, 0, none⟩ = some (.int .i64 (n)) := (b2.cell (p := ⟨w.heap.size + 1, 0, none⟩) (by first | (simp; done) | (simp; omega) | omega)).trans (by first | with_reducible assumption | (simp [go_sem]; done) | (simp [go_sem, *]; done))
          have g2_1_0 : w2.frozen? ⟨w.heap.size + 1, 0, none⟩ = false := (b2.frozen (p := ⟨w.heap.size + 1, 0, none⟩) (by first | (simp; done) | (simp; omega) | omega)).trans (by first | with_reducible assumption | (simp [go_sem]; done) | (simp [go_sem, *]; done))
          have k2_1_1 : w2.cell? ⟨w.heap.size + 1, 1, none⟩ = some (.int .i64 (d)) := (b2.cell (p := ⟨w.heap.size + 1, 1, none⟩) (by first | (simp; done) | (simp; omega) | omega)).trans (by first | with_reducible assumption | (simp [go_sem]; done) | (simp [go_sem, *]; done))
          have g2_1_1 : w2.frozen? ⟨w.heap.size + 1, 1, none⟩ = false := (b2.frozen (p := ⟨w.heap.size + 1, 1, none⟩) (by first | (simp; done) | (simp; omega) | omega)).trans (by first | with_reducible assumption | (simp [go_sem]; done) | (simp [go_sem, *]; done))
          have k2_1_2 : w2.cell? ⟨w.heap.size + 1, 2, none⟩ = some (.int .i64 (m)) := (b2.cell (p := ⟨w.heap.size + 1, 2, none⟩) (by first | (simp; done) | (simp; omega) | omega)).trans (by first | with_reducible assumption | (simp [go_sem]; done) | (simp [go_sem, *]; done))
          have g2_1_2 : w2.frozen? ⟨w.heap.size + 1, 2, none⟩ = false := (b2.frozen (p := ⟨w.heap.size + 1, 2, none⟩) (by first | (simp; done) | (simp; omega) | omega)).trans (by first | with_reducible assumption | (simp [go_sem]; done) | (simp [go_sem, *]; done))
          have k2_1_3 : w2.cell? ⟨w.heap.size + 1, 3, none⟩ = some (.int .i64 (k)) := (b2.cell (p := ⟨w.heap.size + 1, 3, none⟩) (by first | (simp; done) | (simp; omega) | omega)).trans (by first | with_reducible assumption | (simp [go_sem]; done) | (simp [go_sem, *]; done))
          have g2_1_3 : w2.frozen? ⟨w.heap.size + 1, 3, none⟩ = false := (b2.frozen (p := ⟨w.heap.size + 1, 3, none⟩) (by first | (simp; done) | (simp; omega) | omega)).trans (by first | with_reducible assumption | (simp [go_sem]; done) | (simp [go_sem, *]; done))
          clear k1_0_0 g1_0_0 k1_0_1 g1_0_1 k1_0_2 g1_0_2 k1_1_0 g1_1_0 k1_1_1 g1_1_1 k1_1_2 g1_1_2 k1_1_3 g1_1_3
          go_wp2
          have kc0 := cell_regrown (w := w2) (a := ⟨w.heap.size, 0, none⟩) (v := .int .i64 (a)) (by first | ((repeat (first | with_reducible assumption | with_reducible refine calloc ?_ _)); done) | (simp [go_sem]; done) | (simp [go_sem, *]; done))
          have kc1 := cell_regrown (w := w2) (a := ⟨w.heap.size, 1, none⟩) (v := .int .i64 (b)) (by first | ((repeat (first | with_reducible assumption | with_reducible refine calloc ?_ _)); done) | (simp [go_sem]; done) | (simp [go_sem, *]; done))
          have kc2 := cell_regrown (w := w2) (a := ⟨w.heap.size, 2, none⟩) (v := .int .i64 (c)) (by first | ((repeat (first | with_reducible assumption | with_reducible refine calloc ?_ _)); done) | (simp [go_sem]; done) | (simp [go_sem, *]; done))
          have kc3 := cell_regrown (w := w2) (a := ⟨w.heap.size + 1, 0, none⟩) (v := .int .i64 (n)) (by first | ((repeat (first | with_reducible assumption | with_reducible refine calloc ?_ _)); done) | (simp [go_sem]; done) | (simp [go_sem, *]; done))
          have kc4 := cell_regrown (w := w2) (a := ⟨w.heap.size + 1, 1, none⟩) (v := .int .i64 (d)) (by first | ((repeat (first | with_reducible assumption | with_reducible refine calloc ?_ _)); done) | (simp [go_sem]; done) | (simp [go_sem, *]; done))
          have kc5 := cell_regrown (w := w2) (a := ⟨w.heap.size + 1, 2, none⟩) (v := .int .i64 (m)) (by first | ((repeat (first | with_reducible assumption | with_reducible refine calloc ?_ _)); done) | (simp [go_sem]; done) | (simp [go_sem, *]; done))
          have kc6 := cell_regrown (w := w2) (a := ⟨w.heap.size + 1, 3, none⟩) (v := .int .i64 (k)) (by first | ((repeat (first | with_reducible assumption | with_reducible refine calloc ?_ _)); done) | (simp [go_sem]; done) | (simp [go_sem, *]; done))
          refine wp_region_quiet_below (by kernel_rfl) (by kernel_rfl) ?_
          repeat (go_big_quiet_step ((first | (go_at_call 44; exact Calls.regrown_of (K3.out _)))))
          refine wpQuiet_nil ?_
          intro w3 hw'
          have b3 : Below w2.heap.size w2 w3 := by
            obtain ⟨pp, rfl⟩ := hw'
            exact below_regrown _ _ _
          clear hw' kc0 kc1 kc2 kc3 kc4 kc5 kc6
          have s3 := b3.size
          try simp at s3
          have z3_0 : w.heap.size < w3.heap.size := by omega
          have k3_0_0 : w3.cell? ⟨w.heap.size, 0, none⟩ = some (.int .i64 (a)) := (b3.cell (p := ⟨w.heap.size, 0, none⟩) (by first | (simp; done) | (simp; omega) | omega)).trans (by first | with_reducible assumption | (simp [go_sem]; done) | (simp [go_sem, *]; done))
          have g3_0_0 : w3.frozen? ⟨w.heap.size, 0, none⟩ = false := (b3.frozen (p := ⟨w.heap.size, 0, none⟩) (by first | (simp; done) | (simp; omega) | omega)).trans (by first | with_reducible assumption | (simp [go_sem]; done) | (simp [go_sem, *]; done))
          have k3_0_1 : w3.cell? ⟨w.heap.size, 1, none⟩ = some (.int .i64 (b)) := (b3.cell (p := ⟨w.heap.size, 1, none⟩) (by first | (simp; done) | (simp; omega) | omega)).trans (by first | with_reducible assumption | (simp [go_sem]; done) | (simp [go_sem, *]; done))
          have g3_0_1 : w3.frozen? ⟨w.heap.size, 1, none⟩ = false := (b3.frozen (p := ⟨w.heap.size, 1, none⟩) (by first | (simp; done) | (simp; omega) | omega)).trans (by first | with_reducible assumption | (simp [go_sem]; done) | (simp [go_sem, *]; done))
          have k3_0_2 : w3.cell? ⟨w.heap.size, 2, none⟩ = some (.int .i64 (c)) := (b3.cell (p := ⟨w.heap.size, 2, none⟩) (by first | (simp; done) | (simp; omega) | omega)).trans (by first | with_reducible assumption | (simp [go_sem]; done) | (simp [go_sem, *]; done))
          have g3_0_2 : w3.frozen? ⟨w.heap.size, 2, none⟩ = false := (b3.frozen (p := ⟨w.heap.size, 2, none⟩) (by first | (simp; done) | (simp; omega) | omega)).trans (by first | with_reducible assumption | (simp [go_sem]; done) | (simp [go_sem, *]; done))
          have z3_1 : w.heap.size + 1 < w3.heap.size := by omega
          have k3_1_0 : w3.cell? ⟨w.heap.size + 1, 0, none⟩ = some (.int .i64 (n)) := (b3.cell (p := ⟨w.heap.size + 1, 0, none⟩) (by first | (simp; done) | (simp; omega) | omega)).trans (by first | with_reducible assumption | (simp [go_sem]; done) | (simp [go_sem, *]; done))
          have g3_1_0 : w3.frozen? ⟨w.heap.size + 1, 0, none⟩ = false := (b3.frozen (p := ⟨w.heap.size + 1, 0, none⟩) (by first | (simp; done) | (simp; omega) | omega)).trans (by first | with_reducible assumption | (simp [go_sem]; done) | (simp [go_sem, *]; done))
          have k3_1_1 : w3.cell? ⟨w.heap.size + 1, 1, none⟩ = some (.int .i64 (d)) := (b3.cell (p := ⟨w.heap.size + 1, 1, none⟩) (by first | (simp; done) | (simp; omega) | omega)).trans (by first | with_reducible assumption | (simp [go_sem]; done) | (simp [go_sem, *]; done))
          have g3_1_1 : w3.frozen? ⟨w.heap.size + 1, 1, none⟩ = false := (b3.frozen (p := ⟨w.heap.size + 1, 1, none⟩) (by first | (simp; done) | (simp; omega) | omega)).trans (by first | with_reducible assumption | (simp [go_sem]; done) | (simp [go_sem, *]; done))
          have k3_1_2 : w3.cell? ⟨w.heap.size + 1, 2, none⟩ = some (.int .i64 (m)) := (b3.cell (p := ⟨w.heap.size + 1, 2, none⟩) (by first | (simp; done) | (simp; omega) | omega)).trans (by first | with_reducible assumption | (simp [go_sem]; done) | (simp [go_sem, *]; done))
          have g3_1_2 : w3.frozen? ⟨w.heap.size + 1, 2, none⟩ = false := (b3.frozen (p := ⟨w.heap.size + 1, 2, none⟩) (by first | (simp; done) | (simp; omega) | omega)).trans (by first | with_reducible assumption | (simp [go_sem]; done) | (simp [go_sem, *]; done))
          have k3_1_3 : w3.cell? ⟨w.heap.size + 1, 3, none⟩ = some (.int .i64 (k)) := (b3.cell (p := ⟨w.heap.size + 1, 3, none⟩) (by first | (simp; done) | (simp; omega) | omega)).trans (by first | with_reducible assumption | (simp [go_sem]; done) | (simp [go_sem, *]; done))
          have g3_1_3 : w3.frozen? ⟨w.heap.size + 1, 3, none⟩ = false := (b3.frozen (p := ⟨w.heap.size + 1, 3, none⟩) (by first | (simp; done) | (simp; omega) | omega)).trans (by first | with_reducible assumption | (simp [go_sem]; done) | (simp [go_sem, *]; done))
          clear k2_0_0 g2_0_0 k2_0_1 g2_0_1 k2_0_2 g2_0_2 k2_1_0 g2_1_0 k2_1_1 g2_1_1 k2_1_2 g2_1_2 k2_1_3 g2_1_3
          go_wp2
          go_ret
          exact ⟨rfl, (by (repeat (first | with_reducible exact Below.refl _ _ | with_reducible refine bl_alloc ?_ _ | with_reducible refine bl_drew ?_ | with_reducible refine bl_set ?_ (by first | (simp; done) | (simp; omega)) _ | with_reducible refine bl_call (by assumption) ?_)))⟩

end Go.Proofs.Ytgnjmcfkehgdfaa
