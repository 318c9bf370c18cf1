/- What the draws yield. -/
import Derived.Test.YtkhocfoggjdccaaRdr7
namespace Go.Proofs.Ytkhocfoggjdccaa
open Go.RowKit
set_option linter.unusedVariables false

set_option maxHeartbeats 2000000 in
theorem rdr_DrawFloorRat (B : Nat) (a : Option Addr) (n c : Nat) (w : World) (hB0 : B ≤ w.heap.size) (hs : BytesOf B w a n) (hc : n ≤ c) (hc2 : c ≤ 9223372036854775807) :
    Calls Try.prog 22 #[.slice a n c] w (D2 200000000000 w) := by
  have HS := Lib.hid hs
  clear hs
  go_enter Try.func22, Try.ntmps22
  go_wp2_with fail
  refine (rdr_new B a n c _ (by first | omega | (simp; done) | (simp; omega)) (HS.out.below hB0 (by repeat (first | with_reducible exact Below.refl _ _ | with_reducible refine bl_alloc ?_ _))) hc hc2).mono ?_
  rintro e w1 ⟨R, ar, nr, cr, rfl, hR, rd1, b1⟩
  try simp at hR
  have n0 : ¬ w.heap.size = R := by omega
  have s1 := b1.size
  try simp at s1
  have z1_0 : w.heap.size < w1.heap.size := by omega
  have k1_0_0 : w1.cell? ⟨w.heap.size, 0, none⟩ = some (.int .i64 (0)) := (b1.cell (p := ⟨w.heap.size, 0, none⟩) (by first | (simp; done) | (simp; omega) | omega)).trans (by first | with_reducible assumption | (simp [go_sem]; done) | (simp [go_sem, *]; done))
  have g1_0_0 : w1.frozen? ⟨w.heap.size, 0, none⟩ = false := (b1.frozen (p := ⟨w.heap.size, 0, none⟩) (by first | (simp; done) | (simp; omega) | omega)).trans (by first | with_reducible assumption | (simp [go_sem]; done) | (simp [go_sem, *]; done))
  have k1_0_1 : w1.cell? ⟨w.heap.size, 1, none⟩ = some (.int .i64 (0)) := (b1.cell (p := ⟨w.heap.size, 1, none⟩) (by first | (simp; done) | (simp; omega) | omega)).trans (by first | with_reducible assumption | (simp [go_sem]; done) | (simp [go_sem, *]; done))
  have g1_0_1 : w1.frozen? ⟨w.heap.size, 1, none⟩ = false := (b1.frozen (p := ⟨w.heap.size, 1, none⟩) (by first | (simp; done) | (simp; omega) | omega)).trans (by first | with_reducible assumption | (simp [go_sem]; done) | (simp [go_sem, *]; done))
  have t1 := rd1.lt
  have hB : B ≤ R := by omega
  go_wp2_with fail
  refine (rdr_anyRat B R ar nr cr (0) _ (by (repeat (first | with_reducible assumption | with_reducible refine Rdr.alloc ?_ _ | with_reducible refine Rdr.below ?_ (by with_reducible assumption) | with_reducible refine Rdr.drew ?_ | with_reducible refine Rdr.drewN ?_ _ | with_reducible refine Rdr.set ?_ (by dsimp only; omega) (by dsimp only; omega) _))) (by omega)).mono ?_
  rintro e w2 ⟨x2, y2, q2, rfl, ⟨lx2, ux2⟩, ⟨ly2, uy2⟩, hq2, rd2, b2⟩
  have s2 := b2.size
  try simp at s2
  have t2 := rd2.lt
  have z2_0 : w.heap.size < w2.heap.size := by omega
  have k2_0_0 : w2.cell? ⟨w.heap.size, 0, none⟩ = some (.int .i64 (0)) := (b2.cell (p := ⟨w.heap.size, 0, none⟩) (by first | (simp; done) | (simp; omega) | omega) n0).trans (by first | with_reducible assumption | (simp [go_sem]; done) | (simp [go_sem, *]; done))
  have g2_0_0 : w2.frozen? ⟨w.heap.size, 0, none⟩ = false := (b2.frozen (p := ⟨w.heap.size, 0, none⟩) (by first | (simp; done) | (simp; omega) | omega) n0).trans (by first | with_reducible assumption | (simp [go_sem]; done) | (simp [go_sem, *]; done))
  have k2_0_1 : w2.cell? ⟨w.heap.size, 1, none⟩ = some (.int .i64 (0)) := (b2.cell (p := ⟨w.heap.size, 1, none⟩) (by first | (simp; done) | (simp; omega) | omega) n0).trans (by first | with_reducible assumption | (simp [go_sem]; done) | (simp [go_sem, *]; done))
  have g2_0_1 : w2.frozen? ⟨w.heap.size, 1, none⟩ = false := (b2.frozen (p := ⟨w.heap.size, 1, none⟩) (by first | (simp; done) | (simp; omega) | omega) n0).trans (by first | with_reducible assumption | (simp [go_sem]; done) | (simp [go_sem, *]; done))
  clear k1_0_0 g1_0_0 k1_0_1 g1_0_1
  go_wp2
  all_goals go_wp2
  all_goals (refine bodyPost_ret (v := .agg #[.int .i64 (x2), .int .i64 (y2)]) (by simp [results, Try.results22, go_sem, *]) rfl ⟨x2, y2, rfl, ⟨by omega, by omega⟩, ⟨by omega, by omega⟩, But.out (R := R) (by (repeat (first | with_reducible assumption | with_reducible exact But.refl _ _ | with_reducible refine But.alloc ?_ _ | with_reducible refine But.drew ?_ | with_reducible refine But.drewN ?_ _ | with_reducible refine But.set ?_ (Or.inr (by dsimp only; omega)) _ | with_reducible refine But.trans ?_ (by with_reducible assumption) | with_reducible refine But.below ?_ (by with_reducible assumption)))) (Nat.le_refl _) (by omega)⟩)

set_option maxHeartbeats 2000000 in
theorem rdr_twoRats (B : Nat) (a : Option Addr) (n c : Nat) (w : World) (hB0 : B ≤ w.heap.size) (hs : BytesOf B w a n) (hc : n ≤ c) (hc2 : c ≤ 9223372036854775807) :
    Calls Try.prog 48 #[.slice a n c] w (D22 200000000000 w) := by
  have HS := Lib.hid hs
  clear hs
  go_enter Try.func48, Try.ntmps48
  go_wp2_with fail
  refine (rdr_new B a n c _ (by first | omega | (simp; done) | (simp; omega)) (HS.out.below hB0 (by repeat (first | with_reducible exact Below.refl _ _ | with_reducible refine bl_alloc ?_ _))) hc hc2).mono ?_
  rintro e w1 ⟨R, ar, nr, cr, rfl, hR, rd1, b1⟩
  try simp at hR
  have n0 : ¬ w.heap.size = R := by omega
  have n1 : ¬ w.heap.size + 1 = R := by omega
  have s1 := b1.size
  try simp at s1
  have z1_0 : w.heap.size < w1.heap.size := by omega
  have k1_0_0 : w1.cell? ⟨w.heap.size, 0, none⟩ = some (.int .i64 (0)) := (b1.cell (p := ⟨w.heap.size, 0, none⟩) (by first | (simp; done) | (simp; omega) | omega)).trans (by first | with_reducible assumption | (simp [go_sem]; done) | (simp [go_sem, *]; done))
  have g1_0_0 : w1.frozen? ⟨w.heap.size, 0, none⟩ = false := (b1.frozen (p := ⟨w.heap.size, 0, none⟩) (by first | (simp; done) | (simp; omega) | omega)).trans (by first | with_reducible assumption | (simp [go_sem]; done) | (simp [go_sem, *]; done))
  have k1_0_1 : w1.cell? ⟨w.heap.size, 1, none⟩ = some (.int .i64 (0)) := (b1.cell (p := ⟨w.heap.size, 1, none⟩) (by first | (simp; done) | (simp; omega) | omega)).trans (by first | with_reducible assumption | (simp [go_sem]; done) | (simp [go_sem, *]; done))
  have g1_0_1 : w1.frozen? ⟨w.heap.size, 1, none⟩ = false := (b1.frozen (p := ⟨w.heap.size, 1, none⟩) (by first | (simp; done) | (simp; omega) | omega)).trans (by first | with_reducible assumption | (simp [go_sem]; done) | (simp [go_sem, *]; done))
  have z1_1 : w.heap.size + 1 < w1.heap.size := by omega
  have k1_1_0 : w1.cell? ⟨w.heap.size + 1, 0, none⟩ = some (.int .i64 (0)) := (b1.cell (p := ⟨w.heap.size + 1, 0, none⟩) (by first | (simp; done) | (simp; omega) | omega)).trans (by first | with_reducible assumption | (simp [go_sem]; done) | (simp [go_sem, *]; done))
  have g1_1_0 : w1.frozen? ⟨w.heap.size + 1, 0, none⟩ = false := (b1.frozen (p := ⟨w.heap.size + 1, 0, none⟩) (by first | (simp; done) | (simp; omega) | omega)).trans (by first | with_reducible assumption | (simp [go_sem]; done) | (simp [go_sem, *]; done))
  have k1_1_1 : w1.cell? ⟨w.heap.size + 1, 1, none⟩ = some (.int .i64 (0)) := (b1.cell (p := ⟨w.heap.size + 1, 1, none⟩) (by first | (simp; done) | (simp; omega) | omega)).trans (by first | with_reducible assumption | (simp [go_sem]; done) | (simp [go_sem, *]; done))
  have g1_1_1 : w1.frozen? ⟨w.heap.size + 1, 1, none⟩ = false := (b1.frozen (p := ⟨w.heap.size + 1, 1, none⟩) (by first | (simp; done) | (simp; omega) | omega)).trans (by first | with_reducible assumption | (simp [go_sem]; done) | (simp [go_sem, *]; done))
  have t1 := rd1.lt
  have hB : B ≤ R := by omega
  go_wp2_with fail
  refine (rdr_anyRat B R ar nr cr (0) _ (by (repeat (first | with_reducible assumption | with_reducible refine Rdr.alloc ?_ _ | with_reducible refine Rdr.below ?_ (by with_reducible assumption) | with_reducible refine Rdr.drew ?_ | with_reducible refine Rdr.drewN ?_ _ | with_reducible refine Rdr.set ?_ (by dsimp only; omega) (by dsimp only; omega) _))) (by omega)).mono ?_
  rintro e w2 ⟨x2, y2, q2, rfl, ⟨lx2, ux2⟩, ⟨ly2, uy2⟩, hq2, rd2, b2⟩
  have s2 := b2.size
  try simp at s2
  have t2 := rd2.lt
  have z2_0 : w.heap.size < w2.heap.size := by omega
  have k2_0_0 : w2.cell? ⟨w.heap.size, 0, none⟩ = some (.int .i64 (0)) := (b2.cell (p := ⟨w.heap.size, 0, none⟩) (by first | (simp; done) | (simp; omega) | omega) n0).trans (by first | with_reducible assumption | (simp [go_sem]; done) | (simp [go_sem, *]; done))
  have g2_0_0 : w2.frozen? ⟨w.heap.size, 0, none⟩ = false := (b2.frozen (p := ⟨w.heap.size, 0, none⟩) (by first | (simp; done) | (simp; omega) | omega) n0).trans (by first | with_reducible assumption | (simp [go_sem]; done) | (simp [go_sem, *]; done))
  have k2_0_1 : w2.cell? ⟨w.heap.size, 1, none⟩ = some (.int .i64 (0)) := (b2.cell (p := ⟨w.heap.size, 1, none⟩) (by first | (simp; done) | (simp; omega) | omega) n0).trans (by first | with_reducible assumption | (simp [go_sem]; done) | (simp [go_sem, *]; done))
  have g2_0_1 : w2.frozen? ⟨w.heap.size, 1, none⟩ = false := (b2.frozen (p := ⟨w.heap.size, 1, none⟩) (by first | (simp; done) | (simp; omega) | omega) n0).trans (by first | with_reducible assumption | (simp [go_sem]; done) | (simp [go_sem, *]; done))
  have z2_1 : w.heap.size + 1 < w2.heap.size := by omega
  have k2_1_0 : w2.cell? ⟨w.heap.size + 1, 0, none⟩ = some (.int .i64 (0)) := (b2.cell (p := ⟨w.heap.size + 1, 0, none⟩) (by first | (simp; done) | (simp; omega) | omega) n1).trans (by first | with_reducible assumption | (simp [go_sem]; done) | (simp [go_sem, *]; done))
  have g2_1_0 : w2.frozen? ⟨w.heap.size + 1, 0, none⟩ = false := (b2.frozen (p := ⟨w.heap.size + 1, 0, none⟩) (by first | (simp; done) | (simp; omega) | omega) n1).trans (by first | with_reducible assumption | (simp [go_sem]; done) | (simp [go_sem, *]; done))
  have k2_1_1 : w2.cell? ⟨w.heap.size + 1, 1, none⟩ = some (.int .i64 (0)) := (b2.cell (p := ⟨w.heap.size + 1, 1, none⟩) (by first | (simp; done) | (simp; omega) | omega) n1).trans (by first | with_reducible assumption | (simp [go_sem]; done) | (simp [go_sem, *]; done))
  have g2_1_1 : w2.frozen? ⟨w.heap.size + 1, 1, none⟩ = false := (b2.frozen (p := ⟨w.heap.size + 1, 1, none⟩) (by first | (simp; done) | (simp; omega) | omega) n1).trans (by first | with_reducible assumption | (simp [go_sem]; done) | (simp [go_sem, *]; done))
  clear k1_0_0 g1_0_0 k1_0_1 g1_0_1 k1_1_0 g1_1_0 k1_1_1 g1_1_1
  have n2 : ¬ w2.heap.size = R := by omega
  go_wp2
  have A2_0 : ∀ w', HldHi (w1.heap.size) (w2.alloc (Obj.cells #[.int .i64 (x2), .int .i64 (y2)] 24)) w' → w'.cell? ⟨w2.heap.size, 0, none⟩ = some (.int .i64 (x2))   := fun w' h => h.cell (by omega) (by first | omega | (simp; done) | (simp; omega)) (by first | assumption | (simp [go_sem, *]; done))
  have A2_1 : ∀ w', HldHi (w1.heap.size) (w2.alloc (Obj.cells #[.int .i64 (x2), .int .i64 (y2)] 24)) w' → w'.cell? ⟨w2.heap.size, 1, none⟩ = some (.int .i64 (y2))   := fun w' h => h.cell (by omega) (by first | omega | (simp; done) | (simp; omega)) (by first | assumption | (simp [go_sem, *]; done))
  go_region_held3 (fun w' => HldHi (w1.heap.size) (w2.alloc (Obj.cells #[.int .i64 (x2), .int .i64 (y2)] 24)) w') ((repeat (first | with_reducible assumption | with_reducible exact HldHi.start _ _ | with_reducible exact HldHi.refl _ _ | with_reducible refine HldHi.drew ?_ | with_reducible refine HldHi.set ?_ (by dsimp only; omega) _))) (first | (go_at_call 61; refine (rdr_anyRat B R ar nr cr (q2) _ (by (repeat (first | with_reducible assumption | with_reducible refine Rdr.alloc ?_ _ | with_reducible refine Rdr.below ?_ (by with_reducible assumption) | with_reducible refine Rdr.drew ?_ | with_reducible refine Rdr.drewN ?_ _ | with_reducible refine Rdr.set ?_ (by dsimp only; omega) (by dsimp only; omega) _))) (by omega)).mono ?_; rintro e w3 ⟨x3, y3, q3, rfl, ⟨lx3, ux3⟩, ⟨ly3, uy3⟩, hq3, rd3, b3⟩; have HS3 : HldHi (w1.heap.size) (w2.alloc (Obj.cells #[.int .i64 (x2), .int .i64 (y2)] 24)) w3 := HldHi.call (by first | with_reducible assumption | with_reducible exact HldHi.start _ _) b3 (by omega); have s3 := b3.size; (try simp at s3); have t3 := rd3.lt; have z3_0 : w.heap.size < w3.heap.size := (by omega); have k3_0_0 : w3.cell? ⟨w.heap.size, 0, none⟩ = some (.int .i64 (0)) := (b3.cell (p := ⟨w.heap.size, 0, none⟩) (by first | (simp; done) | (simp; omega) | omega) n0).trans (by first | with_reducible assumption | (simp [go_sem]; done) | (simp [go_sem, *]; done)); have g3_0_0 : w3.frozen? ⟨w.heap.size, 0, none⟩ = false := (b3.frozen (p := ⟨w.heap.size, 0, none⟩) (by first | (simp; done) | (simp; omega) | omega) n0).trans (by first | with_reducible assumption | (simp [go_sem]; done) | (simp [go_sem, *]; done)); have k3_0_1 : w3.cell? ⟨w.heap.size, 1, none⟩ = some (.int .i64 (0)) := (b3.cell (p := ⟨w.heap.size, 1, none⟩) (by first | (simp; done) | (simp; omega) | omega) n0).trans (by first | with_reducible assumption | (simp [go_sem]; done) | (simp [go_sem, *]; done)); have g3_0_1 : w3.frozen? ⟨w.heap.size, 1, none⟩ = false := (b3.frozen (p := ⟨w.heap.size, 1, none⟩) (by first | (simp; done) | (simp; omega) | omega) n0).trans (by first | with_reducible assumption | (simp [go_sem]; done) | (simp [go_sem, *]; done)); have z3_1 : w.heap.size + 1 < w3.heap.size := (by omega); have k3_1_0 : w3.cell? ⟨w.heap.size + 1, 0, none⟩ = some (.int .i64 (0)) := (b3.cell (p := ⟨w.heap.size + 1, 0, none⟩) (by first | (simp; done) | (simp; omega) | omega) n1).trans (by first | with_reducible assumption | (simp [go_sem]; done) | (simp [go_sem, *]; done)); have g3_1_0 : w3.frozen? ⟨w.heap.size + 1, 0, none⟩ = false := (b3.frozen (p := ⟨w.heap.size + 1, 0, none⟩) (by first | (simp; done) | (simp; omega) | omega) n1).trans (by first | with_reducible assumption | (simp [go_sem]; done) | (simp [go_sem, *]; done)); have k3_1_1 : w3.cell? ⟨w.heap.size + 1, 1, none⟩ = some (.int .i64 (0)) := (b3.cell (p := ⟨w.heap.size + 1, 1, none⟩) (by first | (simp; done) | (simp; omega) | omega) n1).trans (by first | with_reducible assumption | (simp [go_sem]; done) | (simp [go_sem, *]; done)); have g3_1_1 : w3.frozen? ⟨w.heap.size + 1, 1, none⟩ = false := (b3.frozen (p := ⟨w.heap.size + 1, 1, none⟩) (by first | (simp; done) | (simp; omega) | omega) n1).trans (by first | with_reducible assumption | (simp [go_sem]; done) | (simp [go_sem, *]; done)); clear A2_0 A2_1 k2_0_0 g2_0_0 k2_0_1 g2_0_1 k2_1_0 g2_1_0 k2_1_1 g2_1_1))
  all_goals go_wp2
  all_goals (refine bodyPost_ret (v := .tuple #[.agg #[.int .i64 (x2), .int .i64 (y2)], .agg #[.int .i64 (x3), .int .i64 (y3)]]) (by simp [results, Try.results48, go_sem, *]) rfl ⟨x2, y2, x3, y3, rfl, ⟨by omega, by omega⟩, ⟨by omega, by omega⟩, ⟨by omega, by omega⟩, ⟨by omega, by omega⟩, But.out (R := R) (by (repeat (first | with_reducible assumption | with_reducible exact But.refl _ _ | with_reducible refine But.alloc ?_ _ | with_reducible refine But.drew ?_ | with_reducible refine But.drewN ?_ _ | with_reducible refine But.set ?_ (Or.inr (by dsimp only; omega)) _ | with_reducible refine But.trans ?_ (by with_reducible assumption) | with_reducible refine But.below ?_ (by with_reducible assumption)))) (Nat.le_refl _) (by omega)⟩)

set_option maxHeartbeats 2000000 in
theorem rdr_DrawCompareRats (B : Nat) (a : Option Addr) (n c : Nat) (w : World) (hB0 : B ≤ w.heap.size) (hs : BytesOf B w a n) (hc : n ≤ c) (hc2 : c ≤ 9223372036854775807) :
    Calls Try.prog 15 #[.slice a n c] w (D22 200000000000 w) := by
  have HS := Lib.hid hs
  clear hs
  go_enter Try.func15, Try.ntmps15
  go_wp2_with fail
  refine (rdr_twoRats B a n c _ (by first | omega | (simp; done) | (simp; omega)) (HS.out.below hB0 (by repeat (first | with_reducible exact Below.refl _ _ | with_reducible refine bl_alloc ?_ _))) hc hc2).mono ?_
  rintro e w1 ⟨x1, x2, y1, y2, rfl, ⟨lx1, ux1⟩, ⟨lx2, ux2⟩, ⟨ly1, uy1⟩, ⟨ly2, uy2⟩, b1⟩
  have s1 := b1.size
  try simp at s1
  have z1_0 : w.heap.size < w1.heap.size := by omega
  have k1_0_0 : w1.cell? ⟨w.heap.size, 0, none⟩ = some (.int .i64 (0)) := (b1.cell (p := ⟨w.heap.size, 0, none⟩) (by first | (simp; done) | (simp; omega) | omega)).trans (by first | with_reducible assumption | (simp [go_sem]; done) | (simp [go_sem, *]; done))
  have g1_0_0 : w1.frozen? ⟨w.heap.size, 0, none⟩ = false := (b1.frozen (p := ⟨w.heap.size, 0, none⟩) (by first | (simp; done) | (simp; omega) | omega)).trans (by first | with_reducible assumption | (simp [go_sem]; done) | (simp [go_sem, *]; done))
  have k1_0_1 : w1.cell? ⟨w.heap.size, 1, none⟩ = some (.int .i64 (0)) := (b1.cell (p := ⟨w.heap.size, 1, none⟩) (by first | (simp; done) | (simp; omega) | omega)).trans (by first | with_reducible assumption | (simp [go_sem]; done) | (simp [go_sem, *]; done))
  have g1_0_1 : w1.frozen? ⟨w.heap.size, 1, none⟩ = false := (b1.frozen (p := ⟨w.heap.size, 1, none⟩) (by first | (simp; done) | (simp; omega) | omega)).trans (by first | with_reducible assumption | (simp [go_sem]; done) | (simp [go_sem, *]; done))
  have z1_1 : w.heap.size + 1 < w1.heap.size := by omega
  have k1_1_0 : w1.cell? ⟨w.heap.size + 1, 0, none⟩ = some (.int .i64 (0)) := (b1.cell (p := ⟨w.heap.size + 1, 0, none⟩) (by first | (simp; done) | (simp; omega) | omega)).trans (by first | with_reducible assumption | (simp [go_sem]; done) | (simp [go_sem, *]; done))
  have g1_1_0 : w1.frozen? ⟨w.heap.size + 1, 0, none⟩ = false := (b1.frozen (p := ⟨w.heap.size + 1, 0, none⟩) (by first | (simp; done) | (simp; omega) | omega)).trans (by first | with_reducible assumption | (simp [go_sem]; done) | (simp [go_sem, *]; done))
  have k1_1_1 : w1.cell? ⟨w.heap.size + 1, 1, none⟩ = some (.int .i64 (0)) := (b1.cell (p := ⟨w.heap.size + 1, 1, none⟩) (by first | (simp; done) | (simp; omega) | omega)).trans (by first | with_reducible assumption | (simp [go_sem]; done) | (simp [go_sem, *]; done))
  have g1_1_1 : w1.frozen? ⟨w.heap.size + 1, 1, none⟩ = false := (b1.frozen (p := ⟨w.heap.size + 1, 1, none⟩) (by first | (simp; done) | (simp; omega) | omega)).trans (by first | with_reducible assumption | (simp [go_sem]; done) | (simp [go_sem, *]; done))
  all_goals go_wp2
  all_goals (refine bodyPost_ret (v := .tuple #[.agg #[.int .i64 (x1), .int .i64 (x2)], .agg #[.int .i64 (y1), .int .i64 (y2)]]) (by simp [results, Try.results15, go_sem, *]) rfl ⟨x1, x2, y1, y2, rfl, ⟨by omega, by omega⟩, ⟨by omega, by omega⟩, ⟨by omega, by omega⟩, ⟨by omega, by omega⟩, by (repeat (first | with_reducible exact Below.refl _ _ | with_reducible refine bl_alloc ?_ _ | with_reducible refine bl_drew ?_ | with_reducible refine bl_set ?_ (by first | (simp; done) | (simp; omega)) _ | with_reducible refine bl_call (by assumption) ?_))⟩)

set_option maxHeartbeats 2000000 in
theorem rdr_DrawAddRats (B : Nat) (a : Option Addr) (n c : Nat) (w : World) (hB0 : B ≤ w.heap.size) (hs : BytesOf B w a n) (hc : n ≤ c) (hc2 : c ≤ 9223372036854775807) :
    Calls Try.prog 25 #[.slice a n c] w (D22 200000000000 w) := by
  have HS := Lib.hid hs
  clear hs
  go_enter Try.func25, Try.ntmps25
  go_wp2_with fail
  refine (rdr_twoRats B a n c _ (by first | omega | (simp; done) | (simp; omega)) (HS.out.below hB0 (by repeat (first | with_reducible exact Below.refl _ _ | with_reducible refine bl_alloc ?_ _))) hc hc2).mono ?_
  rintro e w1 ⟨x1, x2, y1, y2, rfl, ⟨lx1, ux1⟩, ⟨lx2, ux2⟩, ⟨ly1, uy1⟩, ⟨ly2, uy2⟩, b1⟩
  have s1 := b1.size
  try simp at s1
  have z1_0 : w.heap.size < w1.heap.size := by omega
  have k1_0_0 : w1.cell? ⟨w.heap.size, 0, none⟩ = some (.int .i64 (0)) := (b1.cell (p := ⟨w.heap.size, 0, none⟩) (by first | (simp; done) | (simp; omega) | omega)).trans (by first | with_reducible assumption | (simp [go_sem]; done) | (simp [go_sem, *]; done))
  have g1_0_0 : w1.frozen? ⟨w.heap.size, 0, none⟩ = false := (b1.frozen (p := ⟨w.heap.size, 0, none⟩) (by first | (simp; done) | (simp; omega) | omega)).trans (by first | with_reducible assumption | (simp [go_sem]; done) | (simp [go_sem, *]; done))
  have k1_0_1 : w1.cell? ⟨w.heap.size, 1, none⟩ = some (.int .i64 (0)) := (b1.cell (p := ⟨w.heap.size, 1, none⟩) (by first | (simp; done) | (simp; omega) | omega)).trans (by first | with_reducible assumption | (simp [go_sem]; done) | (simp [go_sem, *]; done))
  have g1_0_1 : w1.frozen? ⟨w.heap.size, 1, none⟩ = false := (b1.frozen (p := ⟨w.heap.size, 1, none⟩) (by first | (simp; done) | (simp; omega) | omega)).trans (by first | with_reducible assumption | (simp [go_sem]; done) | (simp [go_sem, *]; done))
  have z1_1 : w.heap.size + 1 < w1.heap.size := by omega
  have k1_1_0 : w1.cell? ⟨w.heap.size + 1, 0, none⟩ = some (.int .i64 (0)) := (b1.cell (p := ⟨w.heap.size + 1, 0, none⟩) (by first | (simp; done) | (simp; omega) | omega)).trans (by first | with_reducible assumption | (simp [go_sem]; done) | (simp [go_sem, *]; done))
  have g1_1_0 : w1.frozen? ⟨w.heap.size + 1, 0, none⟩ = false := (b1.frozen (p := ⟨w.heap.size + 1, 0, none⟩) (by first | (simp; done) | (simp; omega) | omega)).trans (by first | with_reducible assumption | (simp [go_sem]; done) | (simp [go_sem, *]; done))
  have k1_1_1 : w1.cell? ⟨w.heap.size + 1, 1, none⟩ = some (.int .i64 (0)) := (b1.cell (p := ⟨w.heap.size + 1, 1, none⟩) (by first | (simp; done) | (simp; omega) | omega)).trans (by first | with_reducible assumption | (simp [go_sem]; done) | (simp [go_sem, *]; done))
  have g1_1_1 : w1.frozen? ⟨w.heap.size + 1, 1, none⟩ = false := (b1.frozen (p := ⟨w.heap.size + 1, 1, none⟩) (by first | (simp; done) | (simp; omega) | omega)).trans (by first | with_reducible assumption | (simp [go_sem]; done) | (simp [go_sem, *]; done))
  all_goals go_wp2
  all_goals (refine bodyPost_ret (v := .tuple #[.agg #[.int .i64 (x1), .int .i64 (x2)], .agg #[.int .i64 (y1), .int .i64 (y2)]]) (by simp [results, Try.results25, go_sem, *]) rfl ⟨x1, x2, y1, y2, rfl, ⟨by omega, by omega⟩, ⟨by omega, by omega⟩, ⟨by omega, by omega⟩, ⟨by omega, by omega⟩, by (repeat (first | with_reducible exact Below.refl _ _ | with_reducible refine bl_alloc ?_ _ | with_reducible refine bl_drew ?_ | with_reducible refine bl_set ?_ (by first | (simp; done) | (simp; omega)) _ | with_reducible refine bl_call (by assumption) ?_))⟩)

set_option maxHeartbeats 2000000 in
theorem rdr_DrawMulRats (B : Nat) (a : Option Addr) (n c : Nat) (w : World) (hB0 : B ≤ w.heap.size) (hs : BytesOf B w a n) (hc : n ≤ c) (hc2 : c ≤ 9223372036854775807) :
    Calls Try.prog 28 #[.slice a n c] w (D22 200000000000 w) := by
  have HS := Lib.hid hs
  clear hs
  go_enter Try.func28, Try.ntmps28
  go_wp2_with fail
  refine (rdr_twoRats B a n c _ (by first | omega | (simp; done) | (simp; omega)) (HS.out.below hB0 (by repeat (first | with_reducible exact Below.refl _ _ | with_reducible refine bl_alloc ?_ _))) hc hc2).mono ?_
  rintro e w1 ⟨x1, x2, y1, y2, rfl, ⟨lx1, ux1⟩, ⟨lx2, ux2⟩, ⟨ly1, uy1⟩, ⟨ly2, uy2⟩, b1⟩
  have s1 := b1.size
  try simp at s1
  have z1_0 : w.heap.size < w1.heap.size := by omega
  have k1_0_0 : w1.cell? ⟨w.heap.size, 0, none⟩ = some (.int .i64 (0)) := (b1.cell (p := ⟨w.heap.size, 0, none⟩) (by first | (simp; done) | (simp; omega) | omega)).trans (by first | with_reducible assumption | (simp [go_sem]; done) | (simp [go_sem, *]; done))
  have g1_0_0 : w1.frozen? ⟨w.heap.size, 0, none⟩ = false := (b1.frozen (p := ⟨w.heap.size, 0, none⟩) (by first | (simp; done) | (simp; omega) | omega)).trans (by first | with_reducible assumption | (simp [go_sem]; done) | (simp [go_sem, *]; done))
  have k1_0_1 : w1.cell? ⟨w.heap.size, 1, none⟩ = some (.int .i64 (0)) := (b1.cell (p := ⟨w.heap.size, 1, none⟩) (by first | (simp; done) | (simp; omega) | omega)).trans (by first | with_reducible assumption | (simp [go_sem]; done) | (simp [go_sem, *]; done))
  have g1_0_1 : w1.frozen? ⟨w.heap.size, 1, none⟩ = false := (b1.frozen (p := ⟨w.heap.size, 1, none⟩) (by first | (simp; done) | (simp; omega) | omega)).trans (by first | with_reducible assumption | (simp [go_sem]; done) | (simp [go_sem, *]; done))
  have z1_1 : w.heap.size + 1 < w1.heap.size := by omega
  have k1_1_0 : w1.cell? ⟨w.heap.size + 1, 0, none⟩ = some (.int .i64 (0)) := (b1.cell (p := ⟨w.heap.size + 1, 0, none⟩) (by first | (simp; done) | (simp; omega) | omega)).trans (by first | with_reducible assumption | (simp [go_sem]; done) | (simp [go_sem, *]; done))
  have g1_1_0 : w1.frozen? ⟨w.heap.size + 1, 0, none⟩ = false := (b1.frozen (p := ⟨w.heap.size + 1, 0, none⟩) (by first | (simp; done) | (simp; omega) | omega)).trans (by first | with_reducible assumption | (simp [go_sem]; done) | (simp [go_sem, *]; done))
  have k1_1_1 : w1.cell? ⟨w.heap.size + 1, 1, none⟩ = some (.int .i64 (0)) := (b1.cell (p := ⟨w.heap.size + 1, 1, none⟩) (by first | (simp; done) | (simp; omega) | omega)).trans (by first | with_reducible assumption | (simp [go_sem]; done) | (simp [go_sem, *]; done))
  have g1_1_1 : w1.frozen? ⟨w.heap.size + 1, 1, none⟩ = false := (b1.frozen (p := ⟨w.heap.size + 1, 1, none⟩) (by first | (simp; done) | (simp; omega) | omega)).trans (by first | with_reducible assumption | (simp [go_sem]; done) | (simp [go_sem, *]; done))
  all_goals go_wp2
  all_goals (refine bodyPost_ret (v := .tuple #[.agg #[.int .i64 (x1), .int .i64 (x2)], .agg #[.int .i64 (y1), .int .i64 (y2)]]) (by simp [results, Try.results28, go_sem, *]) rfl ⟨x1, x2, y1, y2, rfl, ⟨by omega, by omega⟩, ⟨by omega, by omega⟩, ⟨by omega, by omega⟩, ⟨by omega, by omega⟩, by (repeat (first | with_reducible exact Below.refl _ _ | with_reducible refine bl_alloc ?_ _ | with_reducible refine bl_drew ?_ | with_reducible refine bl_set ?_ (by first | (simp; done) | (simp; omega)) _ | with_reducible refine bl_call (by assumption) ?_))⟩)

end Go.Proofs.Ytkhocfoggjdccaa
