/- What the draws of lists yield. -/
import Derived.Test.YtbfeaiaoelkggaaRdrL2
import Derived.Deep.RegionWith
namespace Go.Proofs.Ytbfeaiaoelkggaa
open Go.RowKit
set_option linter.unusedVariables false


theorem ListOf.mk2 (w : World) (C : Array Value) (T k : Nat) (lo hi : Int) (L : Nat) (hL : w.heap.size = L) (h : ∀ j, j < k → ∃ u : Int, lo ≤ u ∧ u ≤ hi ∧ C[j]? = some (.int .i64 u)) : ListOf (w.alloc (.cells C T)) L k lo hi := by
  subst hL; exact ListOf.mk' w C T k lo hi h
theorem ListOf.drew {w : World} {L k : Nat} {lo hi : Int} (h : ListOf w L k lo hi) : ListOf w.drew L k lo hi := h
theorem row_setPoint {w : World} {g off b o : Nat} {zs : List (Int × Int)} {v : Value} (h : rowOfPoint w g off zs) (hb : ¬ b = g) : rowOfPoint (w.setCell ⟨b, o, none⟩ v) g off zs := by
  intro j hj
  have k := h j hj
  exact ⟨csetO hb k.1, csetO hb k.2⟩
def DPts (w : World) (e : Ending) (w' : World) : Prop := ∃ (g cap : Nat) (zs : List (Int × Int)), e = .returned (.slice (some ⟨g, 0, none⟩) zs.length cap) ∧ g < w'.heap.size ∧ rowOfPoint w' g 0 zs ∧ zs.length ≤ 21 ∧ Below w.heap.size w w'
def DCw (w : World) (e : Ending) (w' : World) : Prop := ∃ (g cap : Nat) (zs : List (Int × Int)) (x y m : Int), e = .returned (.tuple #[.slice (some ⟨g, 0, none⟩) zs.length cap, .agg #[.int .i64 x, .int .i64 y], .int .i64 m]) ∧ (-2000 ≤ x ∧ x ≤ 2000) ∧ (-2000 ≤ y ∧ y ≤ 2000) ∧ (-1 ≤ m ∧ m ≤ 100) ∧ g < w'.heap.size ∧ rowOfPoint w' g 0 zs ∧ zs.length ≤ 21 ∧ Below w.heap.size w w'

set_option maxHeartbeats 2000000 in
theorem rdr_DrawMaxima (B : Nat) (a : Option Addr) (n c : Nat) (w : World) (hB0 : B ≤ w.heap.size) (hs : BytesOf B w a n) (hc : n ≤ c) (hc2 : c ≤ 9223372036854775807) :
    Calls Try.prog 12 #[.slice a n c] w (DPts w) := by
  have HS := Lib.hid hs
  clear hs
  go_enter Try.func12, Try.ntmps12
  go_wp2_with fail
  refine (rdr_new B a n c _ (by first | omega | (simp; done) | (simp; omega)) (HS.out.below hB0 (by repeat (first | with_reducible exact Below.refl _ _ | with_reducible refine bl_alloc ?_ _))) hc hc2).mono ?_
  rintro e w1 ⟨R, ar, nr, cr, rfl, hR, rd1, b1⟩
  try simp at hR
  have s1 := b1.size
  try simp at s1
  have t1 := rd1.lt
  have hB : B ≤ R := by omega
  go_wp2_with fail
  refine (rdr_anyPoints B R ar nr cr (0) _ (by (repeat (first | with_reducible assumption | with_reducible refine Rdr.alloc ?_ _ | with_reducible refine Rdr.below ?_ (by with_reducible assumption) | with_reducible refine Rdr.drew ?_ | with_reducible refine Rdr.drewN ?_ _ | with_reducible refine Rdr.set ?_ (by dsimp only; omega) (by dsimp only; omega) _))) (by omega)).mono ?_
  rintro e w2 ⟨g, cap, q2, zs, rfl, hg1, hg2, hrow, hlen, hq2, rd2, b2⟩
  have s2 := b2.size
  try simp at s2
  have t2 := rd2.lt
  have HROW := Lib.hid hrow
  clear hrow
  go_wp2
  go_ret
  exact ⟨g, cap, zs, rfl, hg2, HROW.out, hlen, But.out (R := R) (by (repeat (first | with_reducible assumption | with_reducible exact But.refl _ _ | with_reducible refine But.alloc ?_ _ | with_reducible refine But.drew ?_ | with_reducible refine But.drewN ?_ _ | with_reducible refine But.set ?_ (Or.inr (by dsimp only; omega)) _ | with_reducible refine But.trans ?_ (by with_reducible assumption) | with_reducible refine But.below ?_ (by with_reducible assumption)))) (Nat.le_refl _) (by omega)⟩

set_option maxHeartbeats 2000000 in
theorem rdr_DrawCountWithin (B : Nat) (a : Option Addr) (n c : Nat) (w : World) (hB0 : B ≤ w.heap.size) (hs : BytesOf B w a n) (hc : n ≤ c) (hc2 : c ≤ 9223372036854775807) :
    Calls Try.prog 16 #[.slice a n c] w (DCw w) := by
  have HS := Lib.hid hs
  clear hs
  go_enter Try.func16, Try.ntmps16
  go_wp2_with fail
  refine (rdr_new B a n c _ (by first | omega | (simp; done) | (simp; omega)) (HS.out.below hB0 (by repeat (first | with_reducible exact Below.refl _ _ | with_reducible refine bl_alloc ?_ _))) hc hc2).mono ?_
  rintro e w1 ⟨R, ar, nr, cr, rfl, hR, rd1, b1⟩
  try simp at hR
  have n0 : ¬ w.heap.size = R := by omega
  have s1 := b1.size
  try simp at s1
  have z1_0 : w.heap.size < w1.heap.size := by omega
  have k1_0_0 : w1.cell? ⟨w.heap.size, 0, none⟩ = some (.int .i64 (0)) := (b1.cell (p := ⟨w.heap.size, 0, none⟩) (by first | (simp; done) | (simp; omega) | omega)).trans (by first | with_reducible assumption | (simp [go_sem]; done) | (simp [go_sem, *]; done))
  have g1_0_0 : w1.frozen? ⟨w.heap.size, 0, none⟩ = false := (b1.frozen (p := ⟨w.heap.size, 0, none⟩) (by first | (simp; done) | (simp; omega) | omega)).trans (by first | with_reducible assumption | (simp [go_sem]; done) | (simp [go_sem, *]; done))
  have k1_0_1 : w1.cell? ⟨w.heap.size, 1, none⟩ = some (.int .i64 (0)) := (b1.cell (p := ⟨w.heap.size, 1, none⟩) (by first | (simp; done) | (simp; omega) | omega)).trans (by first | with_reducible assumption | (simp [go_sem]; done) | (simp [go_sem, *]; done))
  have g1_0_1 : w1.frozen? ⟨w.heap.size, 1, none⟩ = false := (b1.frozen (p := ⟨w.heap.size, 1, none⟩) (by first | (simp; done) | (simp; omega) | omega)).trans (by first | with_reducible assumption | (simp [go_sem]; done) | (simp [go_sem, *]; done))
  have t1 := rd1.lt
  have hB : B ≤ R := by omega
  go_wp2_with fail
  refine (rdr_anyPoints B R ar nr cr (0) _ (by (repeat (first | with_reducible assumption | with_reducible refine Rdr.alloc ?_ _ | with_reducible refine Rdr.below ?_ (by with_reducible assumption) | with_reducible refine Rdr.drew ?_ | with_reducible refine Rdr.drewN ?_ _ | with_reducible refine Rdr.set ?_ (by dsimp only; omega) (by dsimp only; omega) _))) (by omega)).mono ?_
  rintro e w2 ⟨g, cap, q2, zs, rfl, hg1, hg2, hrow, hlen, hq2, rd2, b2⟩
  have s2 := b2.size
  try simp at s2
  have t2 := rd2.lt
  have z2_0 : w.heap.size < w2.heap.size := by omega
  have k2_0_0 : w2.cell? ⟨w.heap.size, 0, none⟩ = some (.int .i64 (0)) := (b2.cell (p := ⟨w.heap.size, 0, none⟩) (by first | (simp; done) | (simp; omega) | omega) n0).trans (by first | with_reducible assumption | (simp [go_sem]; done) | (simp [go_sem, *]; done))
  have g2_0_0 : w2.frozen? ⟨w.heap.size, 0, none⟩ = false := (b2.frozen (p := ⟨w.heap.size, 0, none⟩) (by first | (simp; done) | (simp; omega) | omega) n0).trans (by first | with_reducible assumption | (simp [go_sem]; done) | (simp [go_sem, *]; done))
  have k2_0_1 : w2.cell? ⟨w.heap.size, 1, none⟩ = some (.int .i64 (0)) := (b2.cell (p := ⟨w.heap.size, 1, none⟩) (by first | (simp; done) | (simp; omega) | omega) n0).trans (by first | with_reducible assumption | (simp [go_sem]; done) | (simp [go_sem, *]; done))
  have g2_0_1 : w2.frozen? ⟨w.heap.size, 1, none⟩ = false := (b2.frozen (p := ⟨w.heap.size, 1, none⟩) (by first | (simp; done) | (simp; omega) | omega) n0).trans (by first | with_reducible assumption | (simp [go_sem]; done) | (simp [go_sem, *]; done))
  clear k1_0_0 g1_0_0 k1_0_1 g1_0_1
  have HROW := Lib.hid hrow
  clear hrow
  go_wp2_with fail
  refine (rdr_anyPoint B R ar nr cr (q2) _ (by (repeat (first | with_reducible assumption | with_reducible refine Rdr.alloc ?_ _ | with_reducible refine Rdr.below ?_ (by with_reducible assumption) | with_reducible refine Rdr.drew ?_ | with_reducible refine Rdr.drewN ?_ _ | with_reducible refine Rdr.set ?_ (by dsimp only; omega) (by dsimp only; omega) _))) (by omega)).mono ?_
  rintro e w3 ⟨x3, y3, q3, rfl, ⟨lx3, ux3⟩, ⟨ly3, uy3⟩, hq3, rd3, b3⟩
  have s3 := b3.size
  try simp at s3
  have t3 := rd3.lt
  have z3_0 : w.heap.size < w3.heap.size := by omega
  have k3_0_0 : w3.cell? ⟨w.heap.size, 0, none⟩ = some (.int .i64 (0)) := (b3.cell (p := ⟨w.heap.size, 0, none⟩) (by first | (simp; done) | (simp; omega) | omega) n0).trans (by first | with_reducible assumption | (simp [go_sem]; done) | (simp [go_sem, *]; done))
  have g3_0_0 : w3.frozen? ⟨w.heap.size, 0, none⟩ = false := (b3.frozen (p := ⟨w.heap.size, 0, none⟩) (by first | (simp; done) | (simp; omega) | omega) n0).trans (by first | with_reducible assumption | (simp [go_sem]; done) | (simp [go_sem, *]; done))
  have k3_0_1 : w3.cell? ⟨w.heap.size, 1, none⟩ = some (.int .i64 (0)) := (b3.cell (p := ⟨w.heap.size, 1, none⟩) (by first | (simp; done) | (simp; omega) | omega) n0).trans (by first | with_reducible assumption | (simp [go_sem]; done) | (simp [go_sem, *]; done))
  have g3_0_1 : w3.frozen? ⟨w.heap.size, 1, none⟩ = false := (b3.frozen (p := ⟨w.heap.size, 1, none⟩) (by first | (simp; done) | (simp; omega) | omega) n0).trans (by first | with_reducible assumption | (simp [go_sem]; done) | (simp [go_sem, *]; done))
  clear k2_0_0 g2_0_0 k2_0_1 g2_0_1
  have n1 : ¬ w3.heap.size = R := by omega
  go_wp2
  have A1_0 : ∀ w', HldHi (w1.heap.size) (w3.alloc (Obj.cells #[.int .i64 (x3), .int .i64 (y3)] 30)) w' → w'.cell? ⟨w3.heap.size, 0, none⟩ = some (.int .i64 (x3))   := fun w' h => h.cell (by omega) (by first | omega | (simp; done) | (simp; omega)) (by first | assumption | (simp [go_sem, *]; done))
  have A1_1 : ∀ w', HldHi (w1.heap.size) (w3.alloc (Obj.cells #[.int .i64 (x3), .int .i64 (y3)] 30)) w' → w'.cell? ⟨w3.heap.size, 1, none⟩ = some (.int .i64 (y3))   := fun w' h => h.cell (by omega) (by first | omega | (simp; done) | (simp; omega)) (by first | assumption | (simp [go_sem, *]; done))
  go_region_held3 (fun w' => HldHi (w1.heap.size) (w3.alloc (Obj.cells #[.int .i64 (x3), .int .i64 (y3)] 30)) w') ((repeat (first | with_reducible assumption | with_reducible exact HldHi.start _ _ | with_reducible exact HldHi.refl _ _ | with_reducible refine HldHi.drew ?_ | with_reducible refine HldHi.alloc ?_ _ | with_reducible refine HldHi.set ?_ (by dsimp only; omega) _))) (first | (go_at_call 39; refine (rdr_one B R ar nr cr (q3) _ 7 (-1) 100 (((w3.alloc (Obj.cells #[.int .i64 (x3), .int .i64 (y3)] 30)).alloc (Obj.cells #[.int .i64 0, .int .i64 1, .int .i64 2, .int .i64 5, .int .i64 20, .int .i64 100, .int .i64 (-1)] 3)).drew) (by (repeat (first | with_reducible assumption | with_reducible refine Rdr.alloc ?_ _ | with_reducible refine Rdr.below ?_ (by with_reducible assumption) | with_reducible refine Rdr.drew ?_ | with_reducible refine Rdr.drewN ?_ _ | with_reducible refine Rdr.set ?_ (by dsimp only; omega) (by dsimp only; omega) _))) (by omega) (ListOf.drew (ListOf.mk2 _ _ _ _ _ _ _ (by first | rfl | (simp; done)) (by intro j hj; rcases j with _ | _ | _ | _ | _ | _ | _ | j <;> first | exact ⟨_, by decide, by decide, rfl⟩ | omega))) (by first | omega | (simp; omega)) (by omega) (by omega)).mono ?_; rintro e w4 ⟨v4, q4, rfl, ⟨l4, u4⟩, hq4, rd4, b4⟩; have HS4 : HldHi (w1.heap.size) (w3.alloc (Obj.cells #[.int .i64 (x3), .int .i64 (y3)] 30)) w4 := HldHi.call (by first | with_reducible assumption | with_reducible exact HldHi.start _ _ | with_reducible exact HldHi.alloc (by with_reducible assumption) _ | with_reducible exact HldHi.alloc (HldHi.start _ _) _) b4 (by omega); have s4 := b4.size; (try simp at s4); have t4 := rd4.lt; have z4_0 : w.heap.size < w4.heap.size := (by omega); have k4_0_0 : w4.cell? ⟨w.heap.size, 0, none⟩ = some (.int .i64 (0)) := (b4.cell (p := ⟨w.heap.size, 0, none⟩) (by first | (simp; done) | (simp; omega) | omega) n0).trans (by first | with_reducible assumption | (simp [go_sem]; done) | (simp [go_sem, *]; done)); have g4_0_0 : w4.frozen? ⟨w.heap.size, 0, none⟩ = false := (b4.frozen (p := ⟨w.heap.size, 0, none⟩) (by first | (simp; done) | (simp; omega) | omega) n0).trans (by first | with_reducible assumption | (simp [go_sem]; done) | (simp [go_sem, *]; done)); have k4_0_1 : w4.cell? ⟨w.heap.size, 1, none⟩ = some (.int .i64 (0)) := (b4.cell (p := ⟨w.heap.size, 1, none⟩) (by first | (simp; done) | (simp; omega) | omega) n0).trans (by first | with_reducible assumption | (simp [go_sem]; done) | (simp [go_sem, *]; done)); have g4_0_1 : w4.frozen? ⟨w.heap.size, 1, none⟩ = false := (b4.frozen (p := ⟨w.heap.size, 1, none⟩) (by first | (simp; done) | (simp; omega) | omega) n0).trans (by first | with_reducible assumption | (simp [go_sem]; done) | (simp [go_sem, *]; done)); clear A1_0 A1_1 k3_0_0 g3_0_0 k3_0_1 g3_0_1))
  all_goals go_wp2
  all_goals have RK := row_butPoint HROW.out hg2 (by omega) (show But R w2 w4 by (repeat (first | with_reducible assumption | with_reducible exact But.refl _ _ | with_reducible refine But.alloc ?_ _ | with_reducible refine But.drew ?_ | with_reducible refine But.drewN ?_ _ | with_reducible refine But.set ?_ (Or.inr (by dsimp only; omega)) _ | with_reducible refine But.trans ?_ (by with_reducible assumption) | with_reducible refine But.below ?_ (by with_reducible assumption))))
  all_goals have GK := (show But R w2 w4 by (repeat (first | with_reducible assumption | with_reducible exact But.refl _ _ | with_reducible refine But.alloc ?_ _ | with_reducible refine But.drew ?_ | with_reducible refine But.drewN ?_ _ | with_reducible refine But.set ?_ (Or.inr (by dsimp only; omega)) _ | with_reducible refine But.trans ?_ (by with_reducible assumption) | with_reducible refine But.below ?_ (by with_reducible assumption)))).size
  all_goals (refine bodyPost_ret (v := .tuple #[.slice (some ⟨g, 0, none⟩) zs.length cap, .agg #[.int .i64 (x3), .int .i64 (y3)], .int .i64 v4]) (by simp [results, Try.results16, go_sem, *]) rfl ⟨g, cap, zs, _, _, _, rfl, ⟨by omega, by omega⟩, ⟨by omega, by omega⟩, ⟨by omega, by omega⟩, ?_, ?_, hlen, But.out (R := R) (by (repeat (first | with_reducible assumption | with_reducible exact But.refl _ _ | with_reducible refine But.alloc ?_ _ | with_reducible refine But.drew ?_ | with_reducible refine But.drewN ?_ _ | with_reducible refine But.set ?_ (Or.inr (by dsimp only; omega)) _ | with_reducible refine But.trans ?_ (by with_reducible assumption) | with_reducible refine But.below ?_ (by with_reducible assumption)))) (Nat.le_refl _) (by omega)⟩)
  all_goals first | (simp [World.setCell]; omega) | (repeat (first | with_reducible exact RK | with_reducible refine row_setPoint ?_ (by omega)))

end Go.Proofs.Ytbfeaiaoelkggaa
