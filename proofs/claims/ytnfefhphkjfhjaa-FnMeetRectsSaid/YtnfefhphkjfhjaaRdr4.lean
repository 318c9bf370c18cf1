/- What the draws yield. -/
import Derived.Test.YtnfefhphkjfhjaaRdr3
import Derived.Deep.RegionWith
namespace Go.Proofs.Ytnfefhphkjfhjaa
open Go.RowKit
set_option linter.unusedVariables false

def D222 (M : Int) (w : World) (e : Ending) (w' : World) : Prop := ∃ x1 x2 y1 y2 z1 z2 : Int, e = .returned (.tuple #[.agg #[.int .i64 (x1), .int .i64 (x2)], .agg #[.int .i64 (y1), .int .i64 (y2)], .agg #[.int .i64 (z1), .int .i64 (z2)]]) ∧ (-M ≤ x1 ∧ x1 ≤ M) ∧ (-M ≤ x2 ∧ x2 ≤ M) ∧ (-M ≤ y1 ∧ y1 ≤ M) ∧ (-M ≤ y2 ∧ y2 ≤ M) ∧ (-M ≤ z1 ∧ z1 ≤ M) ∧ (-M ≤ z2 ∧ z2 ≤ M) ∧ Below w.heap.size w w'

def D22 (M : Int) (w : World) (e : Ending) (w' : World) : Prop := ∃ x1 x2 y1 y2 : Int, e = .returned (.tuple #[.agg #[.int .i64 (x1), .int .i64 (x2)], .agg #[.int .i64 (y1), .int .i64 (y2)]]) ∧ (-M ≤ x1 ∧ x1 ≤ M) ∧ (-M ≤ x2 ∧ x2 ≤ M) ∧ (-M ≤ y1 ∧ y1 ≤ M) ∧ (-M ≤ y2 ∧ y2 ≤ M) ∧ Below w.heap.size w w'

set_option maxHeartbeats 2000000 in
theorem rdr_threePoints (B : Nat) (a : Option Addr) (n c : Nat) (w : World) (hB0 : B ≤ w.heap.size) (hs : BytesOf B w a n) (hc : n ≤ c) (hc2 : c ≤ 9223372036854775807) :
    Calls Try.prog 49 #[.slice a n c] w (D222 2000 w) := by
  have HS := Lib.hid hs
  clear hs
  go_enter Try.func49, Try.ntmps49
  go_wp2_with fail
  refine (rdr_new B a n c _ (by first | omega | (simp; done) | (simp; omega)) (HS.out.below hB0 (by repeat (first | with_reducible exact Below.refl _ _ | with_reducible refine bl_alloc ?_ _))) hc hc2).mono ?_
  rintro e w1 ⟨R, ar, nr, cr, rfl, hR, rd1, b1⟩
  try simp at hR
  have n0 : ¬ w.heap.size = R := by omega
  have n1 : ¬ w.heap.size + 1 = R := by omega
  have n2 : ¬ w.heap.size + 1 + 1 = R := by omega
  have s1 := b1.size
  try simp at s1
  have z1_0 : w.heap.size < w1.heap.size := by omega
  have k1_0_0 : w1.cell? ⟨w.heap.size, 0, none⟩ = some (.int .i64 (0)) := (b1.cell (p := ⟨w.heap.size, 0, none⟩) (by first | (simp; done) | (simp; omega) | omega)).trans (by first | with_reducible assumption | (simp [go_sem]; done) | (simp [go_sem, *]; done))
  have g1_0_0 : w1.frozen? ⟨w.heap.size, 0, none⟩ = false := (b1.frozen (p := ⟨w.heap.size, 0, none⟩) (by first | (simp; done) | (simp; omega) | omega)).trans (by first | with_reducible assumption | (simp [go_sem]; done) | (simp [go_sem, *]; done))
  have k1_0_1 : w1.cell? ⟨w.heap.size, 1, none⟩ = some (.int .i64 (0)) := (b1.cell (p := ⟨w.heap.size, 1, none⟩) (by first | (simp; done) | (simp; omega) | omega)).trans (by first | with_reducible assumption | (simp [go_sem]; done) | (simp [go_sem, *]; done))
  have g1_0_1 : w1.frozen? ⟨w.heap.size, 1, none⟩ = false := (b1.frozen (p := ⟨w.heap.size, 1, none⟩) (by first | (simp; done) | (simp; omega) | omega)).trans (by first | with_reducible assumption | (simp [go_sem]; done) | (simp [go_sem, *]; done))
  have z1_1 : w.heap.size + 1 < w1.heap.size := by omega
  have k1_1_0 : w1.cell? ⟨w.heap.size + 1, 0, none⟩ = some (.int .i64 (0)) := (b1.cell (p := ⟨w.heap.size + 1, 0, none⟩) (by first | (simp; done) | (simp; omega) | omega)).trans (by first | with_reducible assumption | (simp [go_sem]; done) | (simp [go_sem, *]; done))
  have g1_1_0 : w1.frozen? ⟨w.heap.size + 1, 0, none⟩ = false := (b1.frozen (p := ⟨w.heap.size + 1, 0, none⟩) (by first | (simp; done) | (simp; omega) | omega)).trans (by first | with_reducible assumption | (simp [go_sem]; done) | (simp [go_sem, *]; done))
  have k1_1_1 : w1.cell? ⟨w.heap.size + 1, 1, none⟩ = some (.int .i64 (0)) := (b1.cell (p := ⟨w.heap.size + 1, 1, none⟩) (by first | (simp; done) | (simp; omega) | omega)).trans (by first | with_reducible assumption | (simp [go_sem]; done) | (simp [go_sem, *]; done))
  have g1_1_1 : w1.frozen? ⟨w.heap.size + 1, 1, none⟩ = false := (b1.frozen (p := ⟨w.heap.size + 1, 1, none⟩) (by first | (simp; done) | (simp; omega) | omega)).trans (by first | with_reducible assumption | (simp [go_sem]; done) | (simp [go_sem, *]; done))
  have z1_2 : w.heap.size + 1 + 1 < w1.heap.size := by omega
  have k1_2_0 : w1.cell? ⟨w.heap.size + 1 + 1, 0, none⟩ = some (.int .i64 (0)) := (b1.cell (p := ⟨w.heap.size + 1 + 1, 0, none⟩) (by first | (simp; done) | (simp; omega) | omega)).trans (by first | with_reducible assumption | (simp [go_sem]; done) | (simp [go_sem, *]; done))
  have g1_2_0 : w1.frozen? ⟨w.heap.size + 1 + 1, 0, none⟩ = false := (b1.frozen (p := ⟨w.heap.size + 1 + 1, 0, none⟩) (by first | (simp; done) | (simp; omega) | omega)).trans (by first | with_reducible assumption | (simp [go_sem]; done) | (simp [go_sem, *]; done))
  have k1_2_1 : w1.cell? ⟨w.heap.size + 1 + 1, 1, none⟩ = some (.int .i64 (0)) := (b1.cell (p := ⟨w.heap.size + 1 + 1, 1, none⟩) (by first | (simp; done) | (simp; omega) | omega)).trans (by first | with_reducible assumption | (simp [go_sem]; done) | (simp [go_sem, *]; done))
  have g1_2_1 : w1.frozen? ⟨w.heap.size + 1 + 1, 1, none⟩ = false := (b1.frozen (p := ⟨w.heap.size + 1 + 1, 1, none⟩) (by first | (simp; done) | (simp; omega) | omega)).trans (by first | with_reducible assumption | (simp [go_sem]; done) | (simp [go_sem, *]; done))
  have t1 := rd1.lt
  have hB : B ≤ R := by omega
  go_wp2_with fail
  refine (rdr_anyPoint B R ar nr cr (0) _ (by (repeat (first | with_reducible assumption | with_reducible refine Rdr.alloc ?_ _ | with_reducible refine Rdr.below ?_ (by with_reducible assumption) | with_reducible refine Rdr.drew ?_ | with_reducible refine Rdr.drewN ?_ _ | with_reducible refine Rdr.set ?_ (by dsimp only; omega) (by dsimp only; omega) _))) (by omega)).mono ?_
  rintro e w2 ⟨x2, y2, q2, rfl, ⟨lx2, ux2⟩, ⟨ly2, uy2⟩, hq2, rd2, b2⟩
  have s2 := b2.size
  try simp at s2
  have t2 := rd2.lt
  have z2_0 : w.heap.size < w2.heap.size := by omega
  have k2_0_0 : w2.cell? ⟨w.heap.size, 0, none⟩ = some (.int .i64 (0)) := (b2.cell (p := ⟨w.heap.size, 0, none⟩) (by first | (simp; done) | (simp; omega) | omega) n0).trans (by first | with_reducible assumption | (simp [go_sem]; done) | (simp [go_sem, *]; done))
  have g2_0_0 : w2.frozen? ⟨w.heap.size, 0, none⟩ = false := (b2.frozen (p := ⟨w.heap.size, 0, none⟩) (by first | (simp; done) | (simp; omega) | omega) n0).trans (by first | with_reducible assumption | (simp [go_sem]; done) | (simp [go_sem, *]; done))
  have k2_0_1 : w2.cell? ⟨w.heap.size, 1, none⟩ = some (.int .i64 (0)) := (b2.cell (p := ⟨w.heap.size, 1, none⟩) (by first | (simp; done) | (simp; omega) | omega) n0).trans (by first | with_reducible assumption | (simp [go_sem]; done) | (simp [go_sem, *]; done))
  have g2_0_1 : w2.frozen? ⟨w.heap.size, 1, none⟩ = false := (b2.frozen (p := ⟨w.heap.size, 1, none⟩) (by first | (simp; done) | (simp; omega) | omega) n0).trans (by first | with_reducible assumption | (simp [go_sem]; done) | (simp [go_sem, *]; done))
  have z2_1 : w.heap.size + 1 < w2.heap.size := by omega
  have k2_1_0 : w2.cell? ⟨w.heap.size + 1, 0, none⟩ = some (.int .i64 (0)) := (b2.cell (p := ⟨w.heap.size + 1, 0, none⟩) (by first | (simp; done) | (simp; omega) | omega) n1).trans (by first | with_reducible assumption | (simp [go_sem]; done) | (simp [go_sem, *]; done))
  have g2_1_0 : w2.frozen? ⟨w.heap.size + 1, 0, none⟩ = false := (b2.frozen (p := ⟨w.heap.size + 1, 0, none⟩) (by first | (simp; done) | (simp; omega) | omega) n1).trans (by first | with_reducible assumption | (simp [go_sem]; done) | (simp [go_sem, *]; done))
  have k2_1_1 : w2.cell? ⟨w.heap.size + 1, 1, none⟩ = some (.int .i64 (0)) := (b2.cell (p := ⟨w.heap.size + 1, 1, none⟩) (by first | (simp; done) | (simp; omega) | omega) n1).trans (by first | with_reducible assumption | (simp [go_sem]; done) | (simp [go_sem, *]; done))
  have g2_1_1 : w2.frozen? ⟨w.heap.size + 1, 1, none⟩ = false := (b2.frozen (p := ⟨w.heap.size + 1, 1, none⟩) (by first | (simp; done) | (simp; omega) | omega) n1).trans (by first | with_reducible assumption | (simp [go_sem]; done) | (simp [go_sem, *]; done))
  have z2_2 : w.heap.size + 1 + 1 < w2.heap.size := by omega
  have k2_2_0 : w2.cell? ⟨w.heap.size + 1 + 1, 0, none⟩ = some (.int .i64 (0)) := (b2.cell (p := ⟨w.heap.size + 1 + 1, 0, none⟩) (by first | (simp; done) | (simp; omega) | omega) n2).trans (by first | with_reducible assumption | (simp [go_sem]; done) | (simp [go_sem, *]; done))
  have g2_2_0 : w2.frozen? ⟨w.heap.size + 1 + 1, 0, none⟩ = false := (b2.frozen (p := ⟨w.heap.size + 1 + 1, 0, none⟩) (by first | (simp; done) | (simp; omega) | omega) n2).trans (by first | with_reducible assumption | (simp [go_sem]; done) | (simp [go_sem, *]; done))
  have k2_2_1 : w2.cell? ⟨w.heap.size + 1 + 1, 1, none⟩ = some (.int .i64 (0)) := (b2.cell (p := ⟨w.heap.size + 1 + 1, 1, none⟩) (by first | (simp; done) | (simp; omega) | omega) n2).trans (by first | with_reducible assumption | (simp [go_sem]; done) | (simp [go_sem, *]; done))
  have g2_2_1 : w2.frozen? ⟨w.heap.size + 1 + 1, 1, none⟩ = false := (b2.frozen (p := ⟨w.heap.size + 1 + 1, 1, none⟩) (by first | (simp; done) | (simp; omega) | omega) n2).trans (by first | with_reducible assumption | (simp [go_sem]; done) | (simp [go_sem, *]; done))
  clear k1_0_0 g1_0_0 k1_0_1 g1_0_1 k1_1_0 g1_1_0 k1_1_1 g1_1_1 k1_2_0 g1_2_0 k1_2_1 g1_2_1
  have n3 : ¬ w2.heap.size = R := by omega
  go_wp2_with fail
  refine (rdr_anyPoint B R ar nr cr (q2) _ (by (repeat (first | with_reducible assumption | with_reducible refine Rdr.alloc ?_ _ | with_reducible refine Rdr.below ?_ (by with_reducible assumption) | with_reducible refine Rdr.drew ?_ | with_reducible refine Rdr.drewN ?_ _ | with_reducible refine Rdr.set ?_ (by dsimp only; omega) (by dsimp only; omega) _))) (by omega)).mono ?_
  rintro e w3 ⟨x3, y3, q3, rfl, ⟨lx3, ux3⟩, ⟨ly3, uy3⟩, hq3, rd3, b3⟩
  have s3 := b3.size
  try simp at s3
  have t3 := rd3.lt
  have z3_0 : w.heap.size < w3.heap.size := by omega
  have k3_0_0 : w3.cell? ⟨w.heap.size, 0, none⟩ = some (.int .i64 (0)) := (b3.cell (p := ⟨w.heap.size, 0, none⟩) (by first | (simp; done) | (simp; omega) | omega) n0).trans (by first | with_reducible assumption | (simp [go_sem]; done) | (simp [go_sem, *]; done))
  have g3_0_0 : w3.frozen? ⟨w.heap.size, 0, none⟩ = false := (b3.frozen (p := ⟨w.heap.size, 0, none⟩) (by first | (simp; done) | (simp; omega) | omega) n0).trans (by first | with_reducible assumption | (simp [go_sem]; done) | (simp [go_sem, *]; done))
  have k3_0_1 : w3.cell? ⟨w.heap.size, 1, none⟩ = some (.int .i64 (0)) := (b3.cell (p := ⟨w.heap.size, 1, none⟩) (by first | (simp; done) | (simp; omega) | omega) n0).trans (by first | with_reducible assumption | (simp [go_sem]; done) | (simp [go_sem, *]; done))
  have g3_0_1 : w3.frozen? ⟨w.heap.size, 1, none⟩ = false := (b3.frozen (p := ⟨w.heap.size, 1, none⟩) (by first | (simp; done) | (simp; omega) | omega) n0).trans (by first | with_reducible assumption | (simp [go_sem]; done) | (simp [go_sem, *]; done))
  have z3_1 : w.heap.size + 1 < w3.heap.size := by omega
  have k3_1_0 : w3.cell? ⟨w.heap.size + 1, 0, none⟩ = some (.int .i64 (0)) := (b3.cell (p := ⟨w.heap.size + 1, 0, none⟩) (by first | (simp; done) | (simp; omega) | omega) n1).trans (by first | with_reducible assumption | (simp [go_sem]; done) | (simp [go_sem, *]; done))
  have g3_1_0 : w3.frozen? ⟨w.heap.size + 1, 0, none⟩ = false := (b3.frozen (p := ⟨w.heap.size + 1, 0, none⟩) (by first | (simp; done) | (simp; omega) | omega) n1).trans (by first | with_reducible assumption | (simp [go_sem]; done) | (simp [go_sem, *]; done))
  have k3_1_1 : w3.cell? ⟨w.heap.size + 1, 1, none⟩ = some (.int .i64 (0)) := (b3.cell (p := ⟨w.heap.size + 1, 1, none⟩) (by first | (simp; done) | (simp; omega) | omega) n1).trans (by first | with_reducible assumption | (simp [go_sem]; done) | (simp [go_sem, *]; done))
  have g3_1_1 : w3.frozen? ⟨w.heap.size + 1, 1, none⟩ = false := (b3.frozen (p := ⟨w.heap.size + 1, 1, none⟩) (by first | (simp; done) | (simp; omega) | omega) n1).trans (by first | with_reducible assumption | (simp [go_sem]; done) | (simp [go_sem, *]; done))
  have z3_2 : w.heap.size + 1 + 1 < w3.heap.size := by omega
  have k3_2_0 : w3.cell? ⟨w.heap.size + 1 + 1, 0, none⟩ = some (.int .i64 (0)) := (b3.cell (p := ⟨w.heap.size + 1 + 1, 0, none⟩) (by first | (simp; done) | (simp; omega) | omega) n2).trans (by first | with_reducible assumption | (simp [go_sem]; done) | (simp [go_sem, *]; done))
  have g3_2_0 : w3.frozen? ⟨w.heap.size + 1 + 1, 0, none⟩ = false := (b3.frozen (p := ⟨w.heap.size + 1 + 1, 0, none⟩) (by first | (simp; done) | (simp; omega) | omega) n2).trans (by first | with_reducible assumption | (simp [go_sem]; done) | (simp [go_sem, *]; done))
  have k3_2_1 : w3.cell? ⟨w.heap.size + 1 + 1, 1, none⟩ = some (.int .i64 (0)) := (b3.cell (p := ⟨w.heap.size + 1 + 1, 1, none⟩) (by first | (simp; done) | (simp; omega) | omega) n2).trans (by first | with_reducible assumption | (simp [go_sem]; done) | (simp [go_sem, *]; done))
  have g3_2_1 : w3.frozen? ⟨w.heap.size + 1 + 1, 1, none⟩ = false := (b3.frozen (p := ⟨w.heap.size + 1 + 1, 1, none⟩) (by first | (simp; done) | (simp; omega) | omega) n2).trans (by first | with_reducible assumption | (simp [go_sem]; done) | (simp [go_sem, *]; done))
  have z3_3 : w2.heap.size < w3.heap.size := by omega
  have k3_3_0 : w3.cell? ⟨w2.heap.size, 0, none⟩ = some (.int .i64 (x2)) := (b3.cell (p := ⟨w2.heap.size, 0, none⟩) (by first | (simp; done) | (simp; omega) | omega) n3).trans (by first | with_reducible assumption | (simp [go_sem]; done) | (simp [go_sem, *]; done))
  have g3_3_0 : w3.frozen? ⟨w2.heap.size, 0, none⟩ = false := (b3.frozen (p := ⟨w2.heap.size, 0, none⟩) (by first | (simp; done) | (simp; omega) | omega) n3).trans (by first | with_reducible assumption | (simp [go_sem]; done) | (simp [go_sem, *]; done))
  have k3_3_1 : w3.cell? ⟨w2.heap.size, 1, none⟩ = some (.int .i64 (y2)) := (b3.cell (p := ⟨w2.heap.size, 1, none⟩) (by first | (simp; done) | (simp; omega) | omega) n3).trans (by first | with_reducible assumption | (simp [go_sem]; done) | (simp [go_sem, *]; done))
  have g3_3_1 : w3.frozen? ⟨w2.heap.size, 1, none⟩ = false := (b3.frozen (p := ⟨w2.heap.size, 1, none⟩) (by first | (simp; done) | (simp; omega) | omega) n3).trans (by first | with_reducible assumption | (simp [go_sem]; done) | (simp [go_sem, *]; done))
  clear k2_0_0 g2_0_0 k2_0_1 g2_0_1 k2_1_0 g2_1_0 k2_1_1 g2_1_1 k2_2_0 g2_2_0 k2_2_1 g2_2_1
  have n4 : ¬ w3.heap.size = R := by omega
  go_wp2
  have A3_0 : ∀ w', HldHi (w1.heap.size) (w3.alloc (Obj.cells #[.int .i64 (x3), .int .i64 (y3)] 24)) w' → w'.cell? ⟨w2.heap.size, 0, none⟩ = some (.int .i64 (x2))   := fun w' h => h.cell (by omega) (by first | omega | (simp; done) | (simp; omega)) (by first | assumption | (simp [go_sem, *]; done))
  have A3_1 : ∀ w', HldHi (w1.heap.size) (w3.alloc (Obj.cells #[.int .i64 (x3), .int .i64 (y3)] 24)) w' → w'.cell? ⟨w2.heap.size, 1, none⟩ = some (.int .i64 (y2))   := fun w' h => h.cell (by omega) (by first | omega | (simp; done) | (simp; omega)) (by first | assumption | (simp [go_sem, *]; done))
  have A4_0 : ∀ w', HldHi (w1.heap.size) (w3.alloc (Obj.cells #[.int .i64 (x3), .int .i64 (y3)] 24)) w' → w'.cell? ⟨w3.heap.size, 0, none⟩ = some (.int .i64 (x3))   := fun w' h => h.cell (by omega) (by first | omega | (simp; done) | (simp; omega)) (by first | assumption | (simp [go_sem, *]; done))
  have A4_1 : ∀ w', HldHi (w1.heap.size) (w3.alloc (Obj.cells #[.int .i64 (x3), .int .i64 (y3)] 24)) w' → w'.cell? ⟨w3.heap.size, 1, none⟩ = some (.int .i64 (y3))   := fun w' h => h.cell (by omega) (by first | omega | (simp; done) | (simp; omega)) (by first | assumption | (simp [go_sem, *]; done))
  go_region_held3 (fun w' => HldHi (w1.heap.size) (w3.alloc (Obj.cells #[.int .i64 (x3), .int .i64 (y3)] 24)) w') ((repeat (first | with_reducible assumption | with_reducible exact HldHi.start _ _ | with_reducible exact HldHi.refl _ _ | with_reducible refine HldHi.drew ?_ | with_reducible refine HldHi.set ?_ (by dsimp only; omega) _))) (first | (go_at_call 60; refine (rdr_anyPoint B R ar nr cr (q3) _ (by (repeat (first | with_reducible assumption | with_reducible refine Rdr.alloc ?_ _ | with_reducible refine Rdr.below ?_ (by with_reducible assumption) | with_reducible refine Rdr.drew ?_ | with_reducible refine Rdr.drewN ?_ _ | with_reducible refine Rdr.set ?_ (by dsimp only; omega) (by dsimp only; omega) _))) (by omega)).mono ?_; rintro e w4 ⟨x4, y4, q4, rfl, ⟨lx4, ux4⟩, ⟨ly4, uy4⟩, hq4, rd4, b4⟩; have HS4 : HldHi (w1.heap.size) (w3.alloc (Obj.cells #[.int .i64 (x3), .int .i64 (y3)] 24)) w4 := HldHi.call (by first | with_reducible assumption | with_reducible exact HldHi.start _ _) b4 (by omega); have s4 := b4.size; (try simp at s4); have t4 := rd4.lt; have z4_0 : w.heap.size < w4.heap.size := (by omega); have k4_0_0 : w4.cell? ⟨w.heap.size, 0, none⟩ = some (.int .i64 (0)) := (b4.cell (p := ⟨w.heap.size, 0, none⟩) (by first | (simp; done) | (simp; omega) | omega) n0).trans (by first | with_reducible assumption | (simp [go_sem]; done) | (simp [go_sem, *]; done)); have g4_0_0 : w4.frozen? ⟨w.heap.size, 0, none⟩ = false := (b4.frozen (p := ⟨w.heap.size, 0, none⟩) (by first | (simp; done) | (simp; omega) | omega) n0).trans (by first | with_reducible assumption | (simp [go_sem]; done) | (simp [go_sem, *]; done)); have k4_0_1 : w4.cell? ⟨w.heap.size, 1, none⟩ = some (.int .i64 (0)) := (b4.cell (p := ⟨w.heap.size, 1, none⟩) (by first | (simp; done) | (simp; omega) | omega) n0).trans (by first | with_reducible assumption | (simp [go_sem]; done) | (simp [go_sem, *]; done)); have g4_0_1 : w4.frozen? ⟨w.heap.size, 1, none⟩ = false := (b4.frozen (p := ⟨w.heap.size, 1, none⟩) (by first | (simp; done) | (simp; omega) | omega) n0).trans (by first | with_reducible assumption | (simp [go_sem]; done) | (simp [go_sem, *]; done)); have z4_1 : w.heap.size + 1 < w4.heap.size := (by omega); have k4_1_0 : w4.cell? ⟨w.heap.size + 1, 0, none⟩ = some (.int .i64 (0)) := (b4.cell (p := ⟨w.heap.size + 1, 0, none⟩) (by first | (simp; done) | (simp; omega) | omega) n1).trans (by first | with_reducible assumption | (simp [go_sem]; done) | (simp [go_sem, *]; done)); have g4_1_0 : w4.frozen? ⟨w.heap.size + 1, 0, none⟩ = false := (b4.frozen (p := ⟨w.heap.size + 1, 0, none⟩) (by first | (simp; done) | (simp; omega) | omega) n1).trans (by first | with_reducible assumption | (simp [go_sem]; done) | (simp [go_sem, *]; done)); have k4_1_1 : w4.cell? ⟨w.heap.size + 1, 1, none⟩ = some (.int .i64 (0)) := (b4.cell (p := ⟨w.heap.size + 1, 1, none⟩) (by first | (simp; done) | (simp; omega) | omega) n1).trans (by first | with_reducible assumption | (simp [go_sem]; done) | (simp [go_sem, *]; done)); have g4_1_1 : w4.frozen? ⟨w.heap.size + 1, 1, none⟩ = false := (b4.frozen (p := ⟨w.heap.size + 1, 1, none⟩) (by first | (simp; done) | (simp; omega) | omega) n1).trans (by first | with_reducible assumption | (simp [go_sem]; done) | (simp [go_sem, *]; done)); have z4_2 : w.heap.size + 1 + 1 < w4.heap.size := (by omega); have k4_2_0 : w4.cell? ⟨w.heap.size + 1 + 1, 0, none⟩ = some (.int .i64 (0)) := (b4.cell (p := ⟨w.heap.size + 1 + 1, 0, none⟩) (by first | (simp; done) | (simp; omega) | omega) n2).trans (by first | with_reducible assumption | (simp [go_sem]; done) | (simp [go_sem, *]; done)); have g4_2_0 : w4.frozen? ⟨w.heap.size + 1 + 1, 0, none⟩ = false := (b4.frozen (p := ⟨w.heap.size + 1 + 1, 0, none⟩) (by first | (simp; done) | (simp; omega) | omega) n2).trans (by first | with_reducible assumption | (simp [go_sem]; done) | (simp [go_sem, *]; done)); have k4_2_1 : w4.cell? ⟨w.heap.size + 1 + 1, 1, none⟩ = some (.int .i64 (0)) := (b4.cell (p := ⟨w.heap.size + 1 + 1, 1, none⟩) (by first | (simp; done) | (simp; omega) | omega) n2).trans (by first | with_reducible assumption | (simp [go_sem]; done) | (simp [go_sem, *]; done)); have g4_2_1 : w4.frozen? ⟨w.heap.size + 1 + 1, 1, none⟩ = false := (b4.frozen (p := ⟨w.heap.size + 1 + 1, 1, none⟩) (by first | (simp; done) | (simp; omega) | omega) n2).trans (by first | with_reducible assumption | (simp [go_sem]; done) | (simp [go_sem, *]; done)); clear A3_0 A3_1 A4_0 A4_1 k3_0_0 g3_0_0 k3_0_1 g3_0_1 k3_1_0 g3_1_0 k3_1_1 g3_1_1 k3_2_0 g3_2_0 k3_2_1 g3_2_1 k3_3_0 g3_3_0 k3_3_1 g3_3_1))
  all_goals go_wp2
  all_goals (refine bodyPost_ret (v := .tuple #[.agg #[.int .i64 (x2), .int .i64 (y2)], .agg #[.int .i64 (x3), .int .i64 (y3)], .agg #[.int .i64 (x4), .int .i64 (y4)]]) (by simp [results, Try.results49, go_sem, *]) rfl ⟨x2, y2, x3, y3, x4, y4, rfl, ⟨by omega, by omega⟩, ⟨by omega, by omega⟩, ⟨by omega, by omega⟩, ⟨by omega, by omega⟩, ⟨by omega, by omega⟩, ⟨by omega, by omega⟩, But.out (R := R) (by (repeat (first | with_reducible assumption | with_reducible exact But.refl _ _ | with_reducible refine But.alloc ?_ _ | with_reducible refine But.drew ?_ | with_reducible refine But.drewN ?_ _ | with_reducible refine But.set ?_ (Or.inr (by dsimp only; omega)) _ | with_reducible refine But.trans ?_ (by with_reducible assumption) | with_reducible refine But.below ?_ (by with_reducible assumption)))) (Nat.le_refl _) (by omega)⟩)

set_option maxHeartbeats 2000000 in
theorem rdr_DrawCross (B : Nat) (a : Option Addr) (n c : Nat) (w : World) (hB0 : B ≤ w.heap.size) (hs : BytesOf B w a n) (hc : n ≤ c) (hc2 : c ≤ 9223372036854775807) :
    Calls Try.prog 15 #[.slice a n c] w (D222 2000 w) := by
  have HS := Lib.hid hs
  clear hs
  go_enter Try.func15, Try.ntmps15
  go_wp2_with fail
  refine (rdr_threePoints B a n c _ (by first | omega | (simp; done) | (simp; omega)) (HS.out.below hB0 (by repeat (first | with_reducible exact Below.refl _ _ | with_reducible refine bl_alloc ?_ _))) hc hc2).mono ?_
  rintro e w1 ⟨x1, x2, y1, y2, z1, z2, rfl, ⟨lx1, ux1⟩, ⟨lx2, ux2⟩, ⟨ly1, uy1⟩, ⟨ly2, uy2⟩, ⟨lz1, uz1⟩, ⟨lz2, uz2⟩, b1⟩
  have s1 := b1.size
  try simp at s1
  have z1_0 : w.heap.size < w1.heap.size := by omega
  have k1_0_0 : w1.cell? ⟨w.heap.size, 0, none⟩ = some (.int .i64 (0)) := (b1.cell (p := ⟨w.heap.size, 0, none⟩) (by first | (simp; done) | (simp; omega) | omega)).trans (by first | with_reducible assumption | (simp [go_sem]; done) | (simp [go_sem, *]; done))
  have g1_0_0 : w1.frozen? ⟨w.heap.size, 0, none⟩ = false := (b1.frozen (p := ⟨w.heap.size, 0, none⟩) (by first | (simp; done) | (simp; omega) | omega)).trans (by first | with_reducible assumption | (simp [go_sem]; done) | (simp [go_sem, *]; done))
  have k1_0_1 : w1.cell? ⟨w.heap.size, 1, none⟩ = some (.int .i64 (0)) := (b1.cell (p := ⟨w.heap.size, 1, none⟩) (by first | (simp; done) | (simp; omega) | omega)).trans (by first | with_reducible assumption | (simp [go_sem]; done) | (simp [go_sem, *]; done))
  have g1_0_1 : w1.frozen? ⟨w.heap.size, 1, none⟩ = false := (b1.frozen (p := ⟨w.heap.size, 1, none⟩) (by first | (simp; done) | (simp; omega) | omega)).trans (by first | with_reducible assumption | (simp [go_sem]; done) | (simp [go_sem, *]; done))
  have z1_1 : w.heap.size + 1 < w1.heap.size := by omega
  have k1_1_0 : w1.cell? ⟨w.heap.size + 1, 0, none⟩ = some (.int .i64 (0)) := (b1.cell (p := ⟨w.heap.size + 1, 0, none⟩) (by first | (simp; done) | (simp; omega) | omega)).trans (by first | with_reducible assumption | (simp [go_sem]; done) | (simp [go_sem, *]; done))
  have g1_1_0 : w1.frozen? ⟨w.heap.size + 1, 0, none⟩ = false := (b1.frozen (p := ⟨w.heap.size + 1, 0, none⟩) (by first | (simp; done) | (simp; omega) | omega)).trans (by first | with_reducible assumption | (simp [go_sem]; done) | (simp [go_sem, *]; done))
  have k1_1_1 : w1.cell? ⟨w.heap.size + 1, 1, none⟩ = some (.int .i64 (0)) := (b1.cell (p := ⟨w.heap.size + 1, 1, none⟩) (by first | (simp; done) | (simp; omega) | omega)).trans (by first | with_reducible assumption | (simp [go_sem]; done) | (simp [go_sem, *]; done))
  have g1_1_1 : w1.frozen? ⟨w.heap.size + 1, 1, none⟩ = false := (b1.frozen (p := ⟨w.heap.size + 1, 1, none⟩) (by first | (simp; done) | (simp; omega) | omega)).trans (by first | with_reducible assumption | (simp [go_sem]; done) | (simp [go_sem, *]; done))
  have z1_2 : w.heap.size + 1 + 1 < w1.heap.size := by omega
  have k1_2_0 : w1.cell? ⟨w.heap.size + 1 + 1, 0, none⟩ = some (.int .i64 (0)) := (b1.cell (p := ⟨w.heap.size + 1 + 1, 0, none⟩) (by first | (simp; done) | (simp; omega) | omega)).trans (by first | with_reducible assumption | (simp [go_sem]; done) | (simp [go_sem, *]; done))
  have g1_2_0 : w1.frozen? ⟨w.heap.size + 1 + 1, 0, none⟩ = false := (b1.frozen (p := ⟨w.heap.size + 1 + 1, 0, none⟩) (by first | (simp; done) | (simp; omega) | omega)).trans (by first | with_reducible assumption | (simp [go_sem]; done) | (simp [go_sem, *]; done))
  have k1_2_1 : w1.cell? ⟨w.heap.size + 1 + 1, 1, none⟩ = some (.int .i64 (0)) := (b1.cell (p := ⟨w.heap.size + 1 + 1, 1, none⟩) (by first | (simp; done) | (simp; omega) | omega)).trans (by first | with_reducible assumption | (simp [go_sem]; done) | (simp [go_sem, *]; done))
  have g1_2_1 : w1.frozen? ⟨w.heap.size + 1 + 1, 1, none⟩ = false := (b1.frozen (p := ⟨w.heap.size + 1 + 1, 1, none⟩) (by first | (simp; done) | (simp; omega) | omega)).trans (by first | with_reducible assumption | (simp [go_sem]; done) | (simp [go_sem, *]; done))
  all_goals go_wp2
  all_goals (refine bodyPost_ret (v := .tuple #[.agg #[.int .i64 (x1), .int .i64 (x2)], .agg #[.int .i64 (y1), .int .i64 (y2)], .agg #[.int .i64 (z1), .int .i64 (z2)]]) (by simp [results, Try.results15, go_sem, *]) rfl ⟨x1, x2, y1, y2, z1, z2, rfl, ⟨by omega, by omega⟩, ⟨by omega, by omega⟩, ⟨by omega, by omega⟩, ⟨by omega, by omega⟩, ⟨by omega, by omega⟩, ⟨by omega, by omega⟩, by (repeat (first | with_reducible exact Below.refl _ _ | with_reducible refine bl_alloc ?_ _ | with_reducible refine bl_drew ?_ | with_reducible refine bl_set ?_ (by first | (simp; done) | (simp; omega)) _ | with_reducible refine bl_call (by assumption) ?_))⟩)

set_option maxHeartbeats 2000000 in
theorem rdr_DrawOrient (B : Nat) (a : Option Addr) (n c : Nat) (w : World) (hB0 : B ≤ w.heap.size) (hs : BytesOf B w a n) (hc : n ≤ c) (hc2 : c ≤ 9223372036854775807) :
    Calls Try.prog 21 #[.slice a n c] w (D222 2000 w) := by
  have HS := Lib.hid hs
  clear hs
  go_enter Try.func21, Try.ntmps21
  go_wp2_with fail
  refine (rdr_threePoints B a n c _ (by first | omega | (simp; done) | (simp; omega)) (HS.out.below hB0 (by repeat (first | with_reducible exact Below.refl _ _ | with_reducible refine bl_alloc ?_ _))) hc hc2).mono ?_
  rintro e w1 ⟨x1, x2, y1, y2, z1, z2, rfl, ⟨lx1, ux1⟩, ⟨lx2, ux2⟩, ⟨ly1, uy1⟩, ⟨ly2, uy2⟩, ⟨lz1, uz1⟩, ⟨lz2, uz2⟩, b1⟩
  have s1 := b1.size
  try simp at s1
  have z1_0 : w.heap.size < w1.heap.size := by omega
  have k1_0_0 : w1.cell? ⟨w.heap.size, 0, none⟩ = some (.int .i64 (0)) := (b1.cell (p := ⟨w.heap.size, 0, none⟩) (by first | (simp; done) | (simp; omega) | omega)).trans (by first | with_reducible assumption | (simp [go_sem]; done) | (simp [go_sem, *]; done))
  have g1_0_0 : w1.frozen? ⟨w.heap.size, 0, none⟩ = false := (b1.frozen (p := ⟨w.heap.size, 0, none⟩) (by first | (simp; done) | (simp; omega) | omega)).trans (by first | with_reducible assumption | (simp [go_sem]; done) | (simp [go_sem, *]; done))
  have k1_0_1 : w1.cell? ⟨w.heap.size, 1, none⟩ = some (.int .i64 (0)) := (b1.cell (p := ⟨w.heap.size, 1, none⟩) (by first | (simp; done) | (simp; omega) | omega)).trans (by first | with_reducible assumption | (simp [go_sem]; done) | (simp [go_sem, *]; done))
  have g1_0_1 : w1.frozen? ⟨w.heap.size, 1, none⟩ = false := (b1.frozen (p := ⟨w.heap.size, 1, none⟩) (by first | (simp; done) | (simp; omega) | omega)).trans (by first | with_reducible assumption | (simp [go_sem]; done) | (simp [go_sem, *]; done))
  have z1_1 : w.heap.size + 1 < w1.heap.size := by omega
  have k1_1_0 : w1.cell? ⟨w.heap.size + 1, 0, none⟩ = some (.int .i64 (0)) := (b1.cell (p := ⟨w.heap.size + 1, 0, none⟩) (by first | (simp; done) | (simp; omega) | omega)).trans (by first | with_reducible assumption | (simp [go_sem]; done) | (simp [go_sem, *]; done))
  have g1_1_0 : w1.frozen? ⟨w.heap.size + 1, 0, none⟩ = false := (b1.frozen (p := ⟨w.heap.size + 1, 0, none⟩) (by first | (simp; done) | (simp; omega) | omega)).trans (by first | with_reducible assumption | (simp [go_sem]; done) | (simp [go_sem, *]; done))
  have k1_1_1 : w1.cell? ⟨w.heap.size + 1, 1, none⟩ = some (.int .i64 (0)) := (b1.cell (p := ⟨w.heap.size + 1, 1, none⟩) (by first | (simp; done) | (simp; omega) | omega)).trans (by first | with_reducible assumption | (simp [go_sem]; done) | (simp [go_sem, *]; done))
  have g1_1_1 : w1.frozen? ⟨w.heap.size + 1, 1, none⟩ = false := (b1.frozen (p := ⟨w.heap.size + 1, 1, none⟩) (by first | (simp; done) | (simp; omega) | omega)).trans (by first | with_reducible assumption | (simp [go_sem]; done) | (simp [go_sem, *]; done))
  have z1_2 : w.heap.size + 1 + 1 < w1.heap.size := by omega
  have k1_2_0 : w1.cell? ⟨w.heap.size + 1 + 1, 0, none⟩ = some (.int .i64 (0)) := (b1.cell (p := ⟨w.heap.size + 1 + 1, 0, none⟩) (by first | (simp; done) | (simp; omega) | omega)).trans (by first | with_reducible assumption | (simp [go_sem]; done) | (simp [go_sem, *]; done))
  have g1_2_0 : w1.frozen? ⟨w.heap.size + 1 + 1, 0, none⟩ = false := (b1.frozen (p := ⟨w.heap.size + 1 + 1, 0, none⟩) (by first | (simp; done) | (simp; omega) | omega)).trans (by first | with_reducible assumption | (simp [go_sem]; done) | (simp [go_sem, *]; done))
  have k1_2_1 : w1.cell? ⟨w.heap.size + 1 + 1, 1, none⟩ = some (.int .i64 (0)) := (b1.cell (p := ⟨w.heap.size + 1 + 1, 1, none⟩) (by first | (simp; done) | (simp; omega) | omega)).trans (by first | with_reducible assumption | (simp [go_sem]; done) | (simp [go_sem, *]; done))
  have g1_2_1 : w1.frozen? ⟨w.heap.size + 1 + 1, 1, none⟩ = false := (b1.frozen (p := ⟨w.heap.size + 1 + 1, 1, none⟩) (by first | (simp; done) | (simp; omega) | omega)).trans (by first | with_reducible assumption | (simp [go_sem]; done) | (simp [go_sem, *]; done))
  all_goals go_wp2
  all_goals (refine bodyPost_ret (v := .tuple #[.agg #[.int .i64 (x1), .int .i64 (x2)], .agg #[.int .i64 (y1), .int .i64 (y2)], .agg #[.int .i64 (z1), .int .i64 (z2)]]) (by simp [results, Try.results21, go_sem, *]) rfl ⟨x1, x2, y1, y2, z1, z2, rfl, ⟨by omega, by omega⟩, ⟨by omega, by omega⟩, ⟨by omega, by omega⟩, ⟨by omega, by omega⟩, ⟨by omega, by omega⟩, ⟨by omega, by omega⟩, by (repeat (first | with_reducible exact Below.refl _ _ | with_reducible refine bl_alloc ?_ _ | with_reducible refine bl_drew ?_ | with_reducible refine bl_set ?_ (by first | (simp; done) | (simp; omega)) _ | with_reducible refine bl_call (by assumption) ?_))⟩)

set_option maxHeartbeats 2000000 in
theorem rdr_DrawSquaredDistance (B : Nat) (a : Option Addr) (n c : Nat) (w : World) (hB0 : B ≤ w.heap.size) (hs : BytesOf B w a n) (hc : n ≤ c) (hc2 : c ≤ 9223372036854775807) :
    Calls Try.prog 18 #[.slice a n c] w (D22 2000 w) := by
  have HS := Lib.hid hs
  clear hs
  go_enter Try.func18, Try.ntmps18
  go_wp2_with fail
  refine (rdr_threePoints B a n c _ (by first | omega | (simp; done) | (simp; omega)) (HS.out.below hB0 (by repeat (first | with_reducible exact Below.refl _ _ | with_reducible refine bl_alloc ?_ _))) hc hc2).mono ?_
  rintro e w1 ⟨x1, x2, y1, y2, z1, z2, rfl, ⟨lx1, ux1⟩, ⟨lx2, ux2⟩, ⟨ly1, uy1⟩, ⟨ly2, uy2⟩, ⟨lz1, uz1⟩, ⟨lz2, uz2⟩, b1⟩
  have s1 := b1.size
  try simp at s1
  have z1_0 : w.heap.size < w1.heap.size := by omega
  have k1_0_0 : w1.cell? ⟨w.heap.size, 0, none⟩ = some (.int .i64 (0)) := (b1.cell (p := ⟨w.heap.size, 0, none⟩) (by first | (simp; done) | (simp; omega) | omega)).trans (by first | with_reducible assumption | (simp [go_sem]; done) | (simp [go_sem, *]; done))
  have g1_0_0 : w1.frozen? ⟨w.heap.size, 0, none⟩ = false := (b1.frozen (p := ⟨w.heap.size, 0, none⟩) (by first | (simp; done) | (simp; omega) | omega)).trans (by first | with_reducible assumption | (simp [go_sem]; done) | (simp [go_sem, *]; done))
  have k1_0_1 : w1.cell? ⟨w.heap.size, 1, none⟩ = some (.int .i64 (0)) := (b1.cell (p := ⟨w.heap.size, 1, none⟩) (by first | (simp; done) | (simp; omega) | omega)).trans (by first | with_reducible assumption | (simp [go_sem]; done) | (simp [go_sem, *]; done))
  have g1_0_1 : w1.frozen? ⟨w.heap.size, 1, none⟩ = false := (b1.frozen (p := ⟨w.heap.size, 1, none⟩) (by first | (simp; done) | (simp; omega) | omega)).trans (by first | with_reducible assumption | (simp [go_sem]; done) | (simp [go_sem, *]; done))
  have z1_1 : w.heap.size + 1 < w1.heap.size := by omega
  have k1_1_0 : w1.cell? ⟨w.heap.size + 1, 0, none⟩ = some (.int .i64 (0)) := (b1.cell (p := ⟨w.heap.size + 1, 0, none⟩) (by first | (simp; done) | (simp; omega) | omega)).trans (by first | with_reducible assumption | (simp [go_sem]; done) | (simp [go_sem, *]; done))
  have g1_1_0 : w1.frozen? ⟨w.heap.size + 1, 0, none⟩ = false := (b1.frozen (p := ⟨w.heap.size + 1, 0, none⟩) (by first | (simp; done) | (simp; omega) | omega)).trans (by first | with_reducible assumption | (simp [go_sem]; done) | (simp [go_sem, *]; done))
  have k1_1_1 : w1.cell? ⟨w.heap.size + 1, 1, none⟩ = some (.int .i64 (0)) := (b1.cell (p := ⟨w.heap.size + 1, 1, none⟩) (by first | (simp; done) | (simp; omega) | omega)).trans (by first | with_reducible assumption | (simp [go_sem]; done) | (simp [go_sem, *]; done))
  have g1_1_1 : w1.frozen? ⟨w.heap.size + 1, 1, none⟩ = false := (b1.frozen (p := ⟨w.heap.size + 1, 1, none⟩) (by first | (simp; done) | (simp; omega) | omega)).trans (by first | with_reducible assumption | (simp [go_sem]; done) | (simp [go_sem, *]; done))
  go_wp2
  have A2_0 : ∀ w', HldHi (w1.heap.size) (((w1.alloc (Obj.cells #[.int .i64 (x1), .int .i64 (x2)] 24)).alloc (Obj.cells #[.int .i64 (y1), .int .i64 (y2)] 24)).alloc (Obj.cells #[.int .i64 (z1), .int .i64 (z2)] 24)) w' → w'.cell? ⟨w1.heap.size, 0, none⟩ = some (.int .i64 (x1))   := fun w' h => h.cell (by omega) (by first | omega | (simp; done) | (simp; omega)) (by first | assumption | (simp [go_sem, *]; done))
  have A2_1 : ∀ w', HldHi (w1.heap.size) (((w1.alloc (Obj.cells #[.int .i64 (x1), .int .i64 (x2)] 24)).alloc (Obj.cells #[.int .i64 (y1), .int .i64 (y2)] 24)).alloc (Obj.cells #[.int .i64 (z1), .int .i64 (z2)] 24)) w' → w'.cell? ⟨w1.heap.size, 1, none⟩ = some (.int .i64 (x2))   := fun w' h => h.cell (by omega) (by first | omega | (simp; done) | (simp; omega)) (by first | assumption | (simp [go_sem, *]; done))
  have A3_0 : ∀ w', HldHi (w1.heap.size) (((w1.alloc (Obj.cells #[.int .i64 (x1), .int .i64 (x2)] 24)).alloc (Obj.cells #[.int .i64 (y1), .int .i64 (y2)] 24)).alloc (Obj.cells #[.int .i64 (z1), .int .i64 (z2)] 24)) w' → w'.cell? ⟨w1.heap.size + 1, 0, none⟩ = some (.int .i64 (y1))   := fun w' h => h.cell (by omega) (by first | omega | (simp; done) | (simp; omega)) (by first | assumption | (simp [go_sem, *]; done))
  have A3_1 : ∀ w', HldHi (w1.heap.size) (((w1.alloc (Obj.cells #[.int .i64 (x1), .int .i64 (x2)] 24)).alloc (Obj.cells #[.int .i64 (y1), .int .i64 (y2)] 24)).alloc (Obj.cells #[.int .i64 (z1), .int .i64 (z2)] 24)) w' → w'.cell? ⟨w1.heap.size + 1, 1, none⟩ = some (.int .i64 (y2))   := fun w' h => h.cell (by omega) (by first | omega | (simp; done) | (simp; omega)) (by first | assumption | (simp [go_sem, *]; done))
  have Y0_0 : (((w1.alloc (Obj.cells #[.int .i64 (x1), .int .i64 (x2)] 24)).alloc (Obj.cells #[.int .i64 (y1), .int .i64 (y2)] 24)).alloc (Obj.cells #[.int .i64 (z1), .int .i64 (z2)] 24)).cell? ⟨w.heap.size, 0, none⟩ = some (.int .i64 (0)) := by repeat (first | assumption | with_reducible refine calloc ?_ _)
  have X0_0 : (((w1.alloc (Obj.cells #[.int .i64 (x1), .int .i64 (x2)] 24)).alloc (Obj.cells #[.int .i64 (y1), .int .i64 (y2)] 24)).alloc (Obj.cells #[.int .i64 (z1), .int .i64 (z2)] 24)).frozen? ⟨w.heap.size, 0, none⟩ = false := by repeat (first | assumption | with_reducible refine falloc ?_ (by first | (simp; done) | (simp; omega)) _)
  have Y0_1 : (((w1.alloc (Obj.cells #[.int .i64 (x1), .int .i64 (x2)] 24)).alloc (Obj.cells #[.int .i64 (y1), .int .i64 (y2)] 24)).alloc (Obj.cells #[.int .i64 (z1), .int .i64 (z2)] 24)).cell? ⟨w.heap.size, 1, none⟩ = some (.int .i64 (0)) := by repeat (first | assumption | with_reducible refine calloc ?_ _)
  have X0_1 : (((w1.alloc (Obj.cells #[.int .i64 (x1), .int .i64 (x2)] 24)).alloc (Obj.cells #[.int .i64 (y1), .int .i64 (y2)] 24)).alloc (Obj.cells #[.int .i64 (z1), .int .i64 (z2)] 24)).frozen? ⟨w.heap.size, 1, none⟩ = false := by repeat (first | assumption | with_reducible refine falloc ?_ (by first | (simp; done) | (simp; omega)) _)
  have Y1_0 : (((w1.alloc (Obj.cells #[.int .i64 (x1), .int .i64 (x2)] 24)).alloc (Obj.cells #[.int .i64 (y1), .int .i64 (y2)] 24)).alloc (Obj.cells #[.int .i64 (z1), .int .i64 (z2)] 24)).cell? ⟨w.heap.size + 1, 0, none⟩ = some (.int .i64 (0)) := by repeat (first | assumption | with_reducible refine calloc ?_ _)
  have X1_0 : (((w1.alloc (Obj.cells #[.int .i64 (x1), .int .i64 (x2)] 24)).alloc (Obj.cells #[.int .i64 (y1), .int .i64 (y2)] 24)).alloc (Obj.cells #[.int .i64 (z1), .int .i64 (z2)] 24)).frozen? ⟨w.heap.size + 1, 0, none⟩ = false := by repeat (first | assumption | with_reducible refine falloc ?_ (by first | (simp; done) | (simp; omega)) _)
  have Y1_1 : (((w1.alloc (Obj.cells #[.int .i64 (x1), .int .i64 (x2)] 24)).alloc (Obj.cells #[.int .i64 (y1), .int .i64 (y2)] 24)).alloc (Obj.cells #[.int .i64 (z1), .int .i64 (z2)] 24)).cell? ⟨w.heap.size + 1, 1, none⟩ = some (.int .i64 (0)) := by repeat (first | assumption | with_reducible refine calloc ?_ _)
  have X1_1 : (((w1.alloc (Obj.cells #[.int .i64 (x1), .int .i64 (x2)] 24)).alloc (Obj.cells #[.int .i64 (y1), .int .i64 (y2)] 24)).alloc (Obj.cells #[.int .i64 (z1), .int .i64 (z2)] 24)).frozen? ⟨w.heap.size + 1, 1, none⟩ = false := by repeat (first | assumption | with_reducible refine falloc ?_ (by first | (simp; done) | (simp; omega)) _)
  go_region_held3 (fun w' => HldHi (w1.heap.size) (((w1.alloc (Obj.cells #[.int .i64 (x1), .int .i64 (x2)] 24)).alloc (Obj.cells #[.int .i64 (y1), .int .i64 (y2)] 24)).alloc (Obj.cells #[.int .i64 (z1), .int .i64 (z2)] 24)) w') ((repeat (first | with_reducible assumption | with_reducible exact HldHi.start _ _ | with_reducible exact HldHi.refl _ _ | with_reducible refine HldHi.drew ?_ | with_reducible refine HldHi.set ?_ (by dsimp only; omega) _))) (fail)
  all_goals go_wp2
  all_goals (refine bodyPost_ret (v := .tuple #[.agg #[.int .i64 (x1), .int .i64 (x2)], .agg #[.int .i64 (y1), .int .i64 (y2)]]) (by simp [results, Try.results18, go_sem, *]) rfl ⟨x1, x2, y1, y2, rfl, ⟨by omega, by omega⟩, ⟨by omega, by omega⟩, ⟨by omega, by omega⟩, ⟨by omega, by omega⟩, by (repeat (first | with_reducible exact Below.refl _ _ | with_reducible refine bl_alloc ?_ _ | with_reducible refine bl_drew ?_ | with_reducible refine bl_set ?_ (by first | (simp; done) | (simp; omega)) _ | with_reducible refine bl_call (by assumption) ?_))⟩)

set_option maxHeartbeats 2000000 in
theorem rdr_DrawManhattan (B : Nat) (a : Option Addr) (n c : Nat) (w : World) (hB0 : B ≤ w.heap.size) (hs : BytesOf B w a n) (hc : n ≤ c) (hc2 : c ≤ 9223372036854775807) :
    Calls Try.prog 24 #[.slice a n c] w (D22 2000 w) := by
  have HS := Lib.hid hs
  clear hs
  go_enter Try.func24, Try.ntmps24
  go_wp2_with fail
  refine (rdr_threePoints B a n c _ (by first | omega | (simp; done) | (simp; omega)) (HS.out.below hB0 (by repeat (first | with_reducible exact Below.refl _ _ | with_reducible refine bl_alloc ?_ _))) hc hc2).mono ?_
  rintro e w1 ⟨x1, x2, y1, y2, z1, z2, rfl, ⟨lx1, ux1⟩, ⟨lx2, ux2⟩, ⟨ly1, uy1⟩, ⟨ly2, uy2⟩, ⟨lz1, uz1⟩, ⟨lz2, uz2⟩, b1⟩
  have s1 := b1.size
  try simp at s1
  have z1_0 : w.heap.size < w1.heap.size := by omega
  have k1_0_0 : w1.cell? ⟨w.heap.size, 0, none⟩ = some (.int .i64 (0)) := (b1.cell (p := ⟨w.heap.size, 0, none⟩) (by first | (simp; done) | (simp; omega) | omega)).trans (by first | with_reducible assumption | (simp [go_sem]; done) | (simp [go_sem, *]; done))
  have g1_0_0 : w1.frozen? ⟨w.heap.size, 0, none⟩ = false := (b1.frozen (p := ⟨w.heap.size, 0, none⟩) (by first | (simp; done) | (simp; omega) | omega)).trans (by first | with_reducible assumption | (simp [go_sem]; done) | (simp [go_sem, *]; done))
  have k1_0_1 : w1.cell? ⟨w.heap.size, 1, none⟩ = some (.int .i64 (0)) := (b1.cell (p := ⟨w.heap.size, 1, none⟩) (by first | (simp; done) | (simp; omega) | omega)).trans (by first | with_reducible assumption | (simp [go_sem]; done) | (simp [go_sem, *]; done))
  have g1_0_1 : w1.frozen? ⟨w.heap.size, 1, none⟩ = false := (b1.frozen (p := ⟨w.heap.size, 1, none⟩) (by first | (simp; done) | (simp; omega) | omega)).trans (by first | with_reducible assumption | (simp [go_sem]; done) | (simp [go_sem, *]; done))
  have z1_1 : w.heap.size + 1 < w1.heap.size := by omega
  have k1_1_0 : w1.cell? ⟨w.heap.size + 1, 0, none⟩ = some (.int .i64 (0)) := (b1.cell (p := ⟨w.heap.size + 1, 0, none⟩) (by first | (simp; done) | (simp; omega) | omega)).trans (by first | with_reducible assumption | (simp [go_sem]; done) | (simp [go_sem, *]; done))
  have g1_1_0 : w1.frozen? ⟨w.heap.size + 1, 0, none⟩ = false := (b1.frozen (p := ⟨w.heap.size + 1, 0, none⟩) (by first | (simp; done) | (simp; omega) | omega)).trans (by first | with_reducible assumption | (simp [go_sem]; done) | (simp [go_sem, *]; done))
  have k1_1_1 : w1.cell? ⟨w.heap.size + 1, 1, none⟩ = some (.int .i64 (0)) := (b1.cell (p := ⟨w.heap.size + 1, 1, none⟩) (by first | (simp; done) | (simp; omega) | omega)).trans (by first | with_reducible assumption | (simp [go_sem]; done) | (simp [go_sem, *]; done))
  have g1_1_1 : w1.frozen? ⟨w.heap.size + 1, 1, none⟩ = false := (b1.frozen (p := ⟨w.heap.size + 1, 1, none⟩) (by first | (simp; done) | (simp; omega) | omega)).trans (by first | with_reducible assumption | (simp [go_sem]; done) | (simp [go_sem, *]; done))
  go_wp2
  have A2_0 : ∀ w', HldHi (w1.heap.size) (((w1.alloc (Obj.cells #[.int .i64 (x1), .int .i64 (x2)] 24)).alloc (Obj.cells #[.int .i64 (y1), .int .i64 (y2)] 24)).alloc (Obj.cells #[.int .i64 (z1), .int .i64 (z2)] 24)) w' → w'.cell? ⟨w1.heap.size, 0, none⟩ = some (.int .i64 (x1))   := fun w' h => h.cell (by omega) (by first | omega | (simp; done) | (simp; omega)) (by first | assumption | (simp [go_sem, *]; done))
  have A2_1 : ∀ w', HldHi (w1.heap.size) (((w1.alloc (Obj.cells #[.int .i64 (x1), .int .i64 (x2)] 24)).alloc (Obj.cells #[.int .i64 (y1), .int .i64 (y2)] 24)).alloc (Obj.cells #[.int .i64 (z1), .int .i64 (z2)] 24)) w' → w'.cell? ⟨w1.heap.size, 1, none⟩ = some (.int .i64 (x2))   := fun w' h => h.cell (by omega) (by first | omega | (simp; done) | (simp; omega)) (by first | assumption | (simp [go_sem, *]; done))
  have A3_0 : ∀ w', HldHi (w1.heap.size) (((w1.alloc (Obj.cells #[.int .i64 (x1), .int .i64 (x2)] 24)).alloc (Obj.cells #[.int .i64 (y1), .int .i64 (y2)] 24)).alloc (Obj.cells #[.int .i64 (z1), .int .i64 (z2)] 24)) w' → w'.cell? ⟨w1.heap.size + 1, 0, none⟩ = some (.int .i64 (y1))   := fun w' h => h.cell (by omega) (by first | omega | (simp; done) | (simp; omega)) (by first | assumption | (simp [go_sem, *]; done))
  have A3_1 : ∀ w', HldHi (w1.heap.size) (((w1.alloc (Obj.cells #[.int .i64 (x1), .int .i64 (x2)] 24)).alloc (Obj.cells #[.int .i64 (y1), .int .i64 (y2)] 24)).alloc (Obj.cells #[.int .i64 (z1), .int .i64 (z2)] 24)) w' → w'.cell? ⟨w1.heap.size + 1, 1, none⟩ = some (.int .i64 (y2))   := fun w' h => h.cell (by omega) (by first | omega | (simp; done) | (simp; omega)) (by first | assumption | (simp [go_sem, *]; done))
  have Y0_0 : (((w1.alloc (Obj.cells #[.int .i64 (x1), .int .i64 (x2)] 24)).alloc (Obj.cells #[.int .i64 (y1), .int .i64 (y2)] 24)).alloc (Obj.cells #[.int .i64 (z1), .int .i64 (z2)] 24)).cell? ⟨w.heap.size, 0, none⟩ = some (.int .i64 (0)) := by repeat (first | assumption | with_reducible refine calloc ?_ _)
  have X0_0 : (((w1.alloc (Obj.cells #[.int .i64 (x1), .int .i64 (x2)] 24)).alloc (Obj.cells #[.int .i64 (y1), .int .i64 (y2)] 24)).alloc (Obj.cells #[.int .i64 (z1), .int .i64 (z2)] 24)).frozen? ⟨w.heap.size, 0, none⟩ = false := by repeat (first | assumption | with_reducible refine falloc ?_ (by first | (simp; done) | (simp; omega)) _)
  have Y0_1 : (((w1.alloc (Obj.cells #[.int .i64 (x1), .int .i64 (x2)] 24)).alloc (Obj.cells #[.int .i64 (y1), .int .i64 (y2)] 24)).alloc (Obj.cells #[.int .i64 (z1), .int .i64 (z2)] 24)).cell? ⟨w.heap.size, 1, none⟩ = some (.int .i64 (0)) := by repeat (first | assumption | with_reducible refine calloc ?_ _)
  have X0_1 : (((w1.alloc (Obj.cells #[.int .i64 (x1), .int .i64 (x2)] 24)).alloc (Obj.cells #[.int .i64 (y1), .int .i64 (y2)] 24)).alloc (Obj.cells #[.int .i64 (z1), .int .i64 (z2)] 24)).frozen? ⟨w.heap.size, 1, none⟩ = false := by repeat (first | assumption | with_reducible refine falloc ?_ (by first | (simp; done) | (simp; omega)) _)
  have Y1_0 : (((w1.alloc (Obj.cells #[.int .i64 (x1), .int .i64 (x2)] 24)).alloc (Obj.cells #[.int .i64 (y1), .int .i64 (y2)] 24)).alloc (Obj.cells #[.int .i64 (z1), .int .i64 (z2)] 24)).cell? ⟨w.heap.size + 1, 0, none⟩ = some (.int .i64 (0)) := by repeat (first | assumption | with_reducible refine calloc ?_ _)
  have X1_0 : (((w1.alloc (Obj.cells #[.int .i64 (x1), .int .i64 (x2)] 24)).alloc (Obj.cells #[.int .i64 (y1), .int .i64 (y2)] 24)).alloc (Obj.cells #[.int .i64 (z1), .int .i64 (z2)] 24)).frozen? ⟨w.heap.size + 1, 0, none⟩ = false := by repeat (first | assumption | with_reducible refine falloc ?_ (by first | (simp; done) | (simp; omega)) _)
  have Y1_1 : (((w1.alloc (Obj.cells #[.int .i64 (x1), .int .i64 (x2)] 24)).alloc (Obj.cells #[.int .i64 (y1), .int .i64 (y2)] 24)).alloc (Obj.cells #[.int .i64 (z1), .int .i64 (z2)] 24)).cell? ⟨w.heap.size + 1, 1, none⟩ = some (.int .i64 (0)) := by repeat (first | assumption | with_reducible refine calloc ?_ _)
  have X1_1 : (((w1.alloc (Obj.cells #[.int .i64 (x1), .int .i64 (x2)] 24)).alloc (Obj.cells #[.int .i64 (y1), .int .i64 (y2)] 24)).alloc (Obj.cells #[.int .i64 (z1), .int .i64 (z2)] 24)).frozen? ⟨w.heap.size + 1, 1, none⟩ = false := by repeat (first | assumption | with_reducible refine falloc ?_ (by first | (simp; done) | (simp; omega)) _)
  go_region_held3 (fun w' => HldHi (w1.heap.size) (((w1.alloc (Obj.cells #[.int .i64 (x1), .int .i64 (x2)] 24)).alloc (Obj.cells #[.int .i64 (y1), .int .i64 (y2)] 24)).alloc (Obj.cells #[.int .i64 (z1), .int .i64 (z2)] 24)) w') ((repeat (first | with_reducible assumption | with_reducible exact HldHi.start _ _ | with_reducible exact HldHi.refl _ _ | with_reducible refine HldHi.drew ?_ | with_reducible refine HldHi.set ?_ (by dsimp only; omega) _))) (fail)
  all_goals go_wp2
  all_goals (refine bodyPost_ret (v := .tuple #[.agg #[.int .i64 (x1), .int .i64 (x2)], .agg #[.int .i64 (y1), .int .i64 (y2)]]) (by simp [results, Try.results24, go_sem, *]) rfl ⟨x1, x2, y1, y2, rfl, ⟨by omega, by omega⟩, ⟨by omega, by omega⟩, ⟨by omega, by omega⟩, ⟨by omega, by omega⟩, by (repeat (first | with_reducible exact Below.refl _ _ | with_reducible refine bl_alloc ?_ _ | with_reducible refine bl_drew ?_ | with_reducible refine bl_set ?_ (by first | (simp; done) | (simp; omega)) _ | with_reducible refine bl_call (by assumption) ?_))⟩)

end Go.Proofs.Ytnfefhphkjfhjaa
