/- What the draws yield. -/
import Derived.Test.YtbfeaiaoelkggaaRdr
namespace Go.Proofs.Ytbfeaiaoelkggaa
open Go.RowKit
set_option linter.unusedVariables false

set_option maxHeartbeats 1000000 in
theorem rdr_one (B R : Nat) (a : Option Addr) (n c p : Nat) (L k : Nat) (lo hi : Int) (w : World) (h : Rdr w B R a n c p) (hp1 : p ≤ 100000) (hL : ListOf w L k lo hi) (hRL : R < L) (hk : 0 < k) (hk1 : k ≤ 1000) :
    Calls Try.prog 39 #[.pointer (some ⟨R, 0, none⟩), .slice (some ⟨L, 0, none⟩) k k] w (RInt B R a n c (p + 1) lo hi w) := by
  have hL0 := hL.1
  have HL := Lib.hid hL.2
  clear hL
  go_enter Try.func39, Try.ntmps39
  go_wp2_with fail
  refine (rdr_pick B R a n c p (k : Int) _ h hp1 (by omega) (by omega)).mono ?_
  rintro e w1 ⟨v, rfl, l1, u1, rd1, b1⟩
  obtain ⟨j, rfl⟩ := Int.eq_ofNat_of_zero_le l1
  obtain ⟨x, x1, x2, x3⟩ := HL.out j (by omega)
  have x4 := (b1.cell (p := ⟨L, j, none⟩) hL0 (by show L ≠ R; omega)).trans x3
  clear x3
  go_wp2
  go_ret
  exact ⟨x, p + 1, rfl, ⟨x1, x2⟩, Nat.le_refl _, rd1, b1⟩

set_option maxHeartbeats 1000000 in
theorem rdr_randomPoint (B R : Nat) (a : Option Addr) (n c p : Nat) (w : World) (h : Rdr w B R a n c p) (hp1 : p ≤ 90000) :
    Calls Try.prog 58 #[.pointer (some ⟨R, 0, none⟩)] w (RAg2 B R a n c (p + 2) 2000 w) := by
  have hR := h.lt
  have hB := h.bR
  go_enter Try.func58, Try.ntmps58
  have n0 : ¬ w.heap.size = R := by omega
  go_wp2_with fail
  refine (rdr_pick B R a n c (p) 9 _ (by (repeat (first | with_reducible assumption | with_reducible refine Rdr.alloc ?_ _ | with_reducible refine Rdr.below ?_ (by with_reducible assumption) | with_reducible refine Rdr.drew ?_ | with_reducible refine Rdr.drewN ?_ _ | with_reducible refine Rdr.set ?_ (by dsimp only; omega) (by dsimp only; omega) _))) (by omega) (by omega) (by omega)).mono ?_
  rintro e w1 ⟨v1, rfl, l1, u1, rd1, b1⟩
  have s1 := b1.size
  try simp at s1
  have t1 := rd1.lt
  have z1_0 : w.heap.size < w1.heap.size := by omega
  have k1_0_0 : w1.cell? ⟨w.heap.size, 0, none⟩ = some (.int .i64 (0)) := (b1.cell (p := ⟨w.heap.size, 0, none⟩) (by first | (simp; done) | (simp; omega) | omega) n0).trans (by first | with_reducible assumption | (simp [go_sem]; done) | (simp [go_sem, *]; done))
  have g1_0_0 : w1.frozen? ⟨w.heap.size, 0, none⟩ = false := (b1.frozen (p := ⟨w.heap.size, 0, none⟩) (by first | (simp; done) | (simp; omega) | omega) n0).trans (by first | with_reducible assumption | (simp [go_sem]; done) | (simp [go_sem, *]; done))
  have k1_0_1 : w1.cell? ⟨w.heap.size, 1, none⟩ = some (.int .i64 (0)) := (b1.cell (p := ⟨w.heap.size, 1, none⟩) (by first | (simp; done) | (simp; omega) | omega) n0).trans (by first | with_reducible assumption | (simp [go_sem]; done) | (simp [go_sem, *]; done))
  have g1_0_1 : w1.frozen? ⟨w.heap.size, 1, none⟩ = false := (b1.frozen (p := ⟨w.heap.size, 1, none⟩) (by first | (simp; done) | (simp; omega) | omega) n0).trans (by first | with_reducible assumption | (simp [go_sem]; done) | (simp [go_sem, *]; done))
  go_wp2_with fail
  refine (rdr_pick B R a n c (p + 1) 9 _ (by (repeat (first | with_reducible assumption | with_reducible refine Rdr.alloc ?_ _ | with_reducible refine Rdr.below ?_ (by with_reducible assumption) | with_reducible refine Rdr.drew ?_ | with_reducible refine Rdr.drewN ?_ _ | with_reducible refine Rdr.set ?_ (by dsimp only; omega) (by dsimp only; omega) _))) (by omega) (by omega) (by omega)).mono ?_
  rintro e w2 ⟨v2, rfl, l2, u2, rd2, b2⟩
  have s2 := b2.size
  try simp at s2
  have t2 := rd2.lt
  have z2_0 : w.heap.size < w2.heap.size := by omega
  have k2_0_0 : w2.cell? ⟨w.heap.size, 0, none⟩ = some (.int .i64 (0)) := (b2.cell (p := ⟨w.heap.size, 0, none⟩) (by first | (simp; done) | (simp; omega) | omega) n0).trans (by first | with_reducible assumption | (simp [go_sem]; done) | (simp [go_sem, *]; done))
  have g2_0_0 : w2.frozen? ⟨w.heap.size, 0, none⟩ = false := (b2.frozen (p := ⟨w.heap.size, 0, none⟩) (by first | (simp; done) | (simp; omega) | omega) n0).trans (by first | with_reducible assumption | (simp [go_sem]; done) | (simp [go_sem, *]; done))
  have k2_0_1 : w2.cell? ⟨w.heap.size, 1, none⟩ = some (.int .i64 (0)) := (b2.cell (p := ⟨w.heap.size, 1, none⟩) (by first | (simp; done) | (simp; omega) | omega) n0).trans (by first | with_reducible assumption | (simp [go_sem]; done) | (simp [go_sem, *]; done))
  have g2_0_1 : w2.frozen? ⟨w.heap.size, 1, none⟩ = false := (b2.frozen (p := ⟨w.heap.size, 1, none⟩) (by first | (simp; done) | (simp; omega) | omega) n0).trans (by first | with_reducible assumption | (simp [go_sem]; done) | (simp [go_sem, *]; done))
  clear k1_0_0 g1_0_0 k1_0_1 g1_0_1
  go_wp2
  refine bodyPost_ret (v := .agg #[.int .i64 (v1 - 2), .int .i64 (v2 - 2)]) (by simp [results, Try.results58, go_sem, *]) rfl ⟨_, _, p + 1 + 1, rfl, ⟨by omega, by omega⟩, ⟨by omega, by omega⟩, by omega, by (repeat (first | with_reducible assumption | with_reducible refine Rdr.alloc ?_ _ | with_reducible refine Rdr.below ?_ (by with_reducible assumption) | with_reducible refine Rdr.drew ?_ | with_reducible refine Rdr.drewN ?_ _ | with_reducible refine Rdr.set ?_ (by dsimp only; omega) (by dsimp only; omega) _)), by (repeat (first | with_reducible assumption | with_reducible exact But.refl _ _ | with_reducible refine But.alloc ?_ _ | with_reducible refine But.drew ?_ | with_reducible refine But.drewN ?_ _ | with_reducible refine But.set ?_ (Or.inr (by dsimp only; omega)) _ | with_reducible refine But.trans ?_ (by with_reducible assumption) | with_reducible refine But.below ?_ (by with_reducible assumption)))⟩

end Go.Proofs.Ytbfeaiaoelkggaa
