/- What the draws of lists yield. -/
import Derived.Test.YtbfeaiaoelkggaaRdr3
import Derived.Test.YtbfeaiaoelkggaaRdrL
import Derived.Test.YtbfeaiaoelkggaaOwnH
namespace Go.Proofs.Ytbfeaiaoelkggaa
open Go.RowKit
set_option linter.unusedVariables false


theorem row_butHalfPlane {w w' : World} {R b off : Nat} {zs : List (Int × Int × Int)} (h : rowOfHalfPlane w b off zs) (hb : b < w.heap.size) (hR : ¬ b = R) (B : But R w w') : rowOfHalfPlane w' b off zs := by
  intro j hj
  simp only [B.cell (p := ⟨b, _, none⟩) hb hR]
  exact h j hj
theorem row_setHalfPlane {w : World} {g off b o : Nat} {zs : List (Int × Int × Int)} {v : Value} (h : rowOfHalfPlane w g off zs) (hb : ¬ b = g) : rowOfHalfPlane (w.setCell ⟨b, o, none⟩ v) g off zs := by
  intro j hj
  have k := h j hj
  exact ⟨csetO hb k.1, csetO hb k.2.1, csetO hb k.2.2⟩
theorem row_putC {w : World} {b n : Nat} {zs : List (Int × Int × Int)} (v : Int) (hk : 0 < n) (hz : zs.length = n) (hr : rowOfHalfPlane w b 0 zs) : rowOfHalfPlane (w.setCell ⟨b, 2, none⟩ (.int .i64 v)) b 0 (zs.set 0 (zs[0]!.1, zs[0]!.2.1, v)) := by
  intro j hj
  rw [List.length_set] at hj
  have h := hr j hj
  have hj2 : j < (zs.set 0 (zs[0]!.1, zs[0]!.2.1, v)).length := by rw [List.length_set]; exact hj
  by_cases e : j = 0
  · subst e
    have ez : (zs.set 0 (zs[0]!.1, zs[0]!.2.1, v))[0]! = (zs[0]!.1, zs[0]!.2.1, v) := by rw [getElem!_pos (zs.set 0 (zs[0]!.1, zs[0]!.2.1, v)) 0 hj2]; simp
    rw [ez]
    exact ⟨csetN _ h.1 (by omega), csetN _ h.2.1 (by omega), csetS h.2.2 _⟩
  · have ez : (zs.set 0 (zs[0]!.1, zs[0]!.2.1, v))[j]! = zs[j]! := by rw [getElem!_pos (zs.set 0 (zs[0]!.1, zs[0]!.2.1, v)) j hj2, getElem!_pos zs j hj]; simp only [List.getElem_set]; rw [if_neg (fun e2 => e e2.symm)]
    rw [ez]
    exact ⟨csetN _ h.1 (by omega), csetN _ h.2.1 (by omega), csetN _ h.2.2 (by omega)⟩
theorem own_cap {w : World} {base : Nat} {e : TypeId} {size g cap n : Nat} {xs : List Value} (h : w.ownsRow base e size (.slice (some ⟨g, 0, none⟩) n cap) n xs) : n ≤ cap := by
  rcases h.2 with ⟨h0, _⟩ | ⟨g', cap', cur, hv, _, hg, hn, _, hs, _⟩
  · cases h0
  · obtain ⟨rfl, rfl⟩ : g = g' ∧ cap = cap' := by simpa using hv
    exact hn
def RHps (B R : Nat) (a : Option Addr) (n c : Nat) (k K : Nat) (w : World) (e : Ending) (w' : World) : Prop := ∃ (g cap q : Nat) (zs : List (Int × Int × Int)), e = .returned (.slice (some ⟨g, 0, none⟩) zs.length cap) ∧ zs.length ≤ cap ∧ w.heap.size ≤ g ∧ g < w'.heap.size ∧ rowOfHalfPlane w' g 0 zs ∧ zs.length ≤ K ∧ q ≤ k ∧ Rdr w' B R a n c q ∧ But R w w'
def DIr (w : World) (e : Ending) (w' : World) : Prop := ∃ (g cap : Nat) (zs : List (Int × Int × Int)) (x y : Int), e = .returned (.tuple #[.slice (some ⟨g, 0, none⟩) zs.length cap, .agg #[.int .i64 x, .int .i64 y]]) ∧ zs.length ≤ cap ∧ (-2000 ≤ x ∧ x ≤ 2000) ∧ (-2000 ≤ y ∧ y ≤ 2000) ∧ g < w'.heap.size ∧ rowOfHalfPlane w' g 0 zs ∧ zs.length ≤ 9 ∧ Below w.heap.size w w'

set_option maxHeartbeats 4000000 in
theorem rdr_randomHalf (B R : Nat) (a : Option Addr) (n c p : Nat) (w : World) (h : Rdr w B R a n c p) (hp1 : p ≤ 90000) :
    Calls Try.prog 62 #[.pointer (some ⟨R, 0, none⟩)] w (RAg3 B R a n c (p + 3) 2000 w) := by
  have hR := h.lt
  have hB := h.bR
  go_enter Try.func62, Try.ntmps62
  have n0 : ¬ w.heap.size = R := by omega
  go_wp2_with fail
  refine (rdr_pick B R a n c (p) 7 _ (by (repeat (first | with_reducible assumption | with_reducible refine Rdr.alloc ?_ _ | with_reducible refine Rdr.below ?_ (by with_reducible assumption) | with_reducible refine Rdr.drew ?_ | with_reducible refine Rdr.drewN ?_ _ | with_reducible refine Rdr.set ?_ (by dsimp only; omega) (by dsimp only; omega) _))) (by omega) (by omega) (by omega)).mono ?_
  rintro e w1 ⟨v1, rfl, l1, u1, rd1, b1⟩
  have s1 := b1.size
  try simp at s1
  have t1 := rd1.lt
  have z1_0 : w.heap.size < w1.heap.size := by omega
  have k1_0_0 : w1.cell? ⟨w.heap.size, 0, none⟩ = some (.int .i64 (0)) := (b1.cell (p := ⟨w.heap.size, 0, none⟩) (by first | (simp; done) | (simp; omega) | omega) n0).trans (by first | with_reducible assumption | (simp [go_sem]; done) | (simp [go_sem, *]; done))
  have g1_0_0 : w1.frozen? ⟨w.heap.size, 0, none⟩ = false := (b1.frozen (p := ⟨w.heap.size, 0, none⟩) (by first | (simp; done) | (simp; omega) | omega) n0).trans (by first | with_reducible assumption | (simp [go_sem]; done) | (simp [go_sem, *]; done))
  have k1_0_1 : w1.cell? ⟨w.heap.size, 1, none⟩ = some (.int .i64 (0)) := (b1.cell (p := ⟨w.heap.size, 1, none⟩) (by first | (simp; done) | (simp; omega) | omega) n0).trans (by first | with_reducible assumption | (simp [go_sem]; done) | (simp [go_sem, *]; done))
  have g1_0_1 : w1.frozen? ⟨w.heap.size, 1, none⟩ = false := (b1.frozen (p := ⟨w.heap.size, 1, none⟩) (by first | (simp; done) | (simp; omega) | omega) n0).trans (by first | with_reducible assumption | (simp [go_sem]; done) | (simp [go_sem, *]; done))
  have k1_0_2 : w1.cell? ⟨w.heap.size, 2, none⟩ = some (.int .i64 (0)) := (b1.cell (p := ⟨w.heap.size, 2, none⟩) (by first | (simp; done) | (simp; omega) | omega) n0).trans (by first | with_reducible assumption | (simp [go_sem]; done) | (simp [go_sem, *]; done))
  have g1_0_2 : w1.frozen? ⟨w.heap.size, 2, none⟩ = false := (b1.frozen (p := ⟨w.heap.size, 2, none⟩) (by first | (simp; done) | (simp; omega) | omega) n0).trans (by first | with_reducible assumption | (simp [go_sem]; done) | (simp [go_sem, *]; done))
  go_wp2_with fail
  refine (rdr_pick B R a n c (p + 1) 7 _ (by (repeat (first | with_reducible assumption | with_reducible refine Rdr.alloc ?_ _ | with_reducible refine Rdr.below ?_ (by with_reducible assumption) | with_reducible refine Rdr.drew ?_ | with_reducible refine Rdr.drewN ?_ _ | with_reducible refine Rdr.set ?_ (by dsimp only; omega) (by dsimp only; omega) _))) (by omega) (by omega) (by omega)).mono ?_
  rintro e w2 ⟨v2, rfl, l2, u2, rd2, b2⟩
  have s2 := b2.size
  try simp at s2
  have t2 := rd2.lt
  have z2_0 : w.heap.size < w2.heap.size := by omega
  have k2_0_0 : w2.cell? ⟨w.heap.size, 0, none⟩ = some (.int .i64 (0)) := (b2.cell (p := ⟨w.heap.size, 0, none⟩) (by first | (simp; done) | (simp; omega) | omega) n0).trans (by first | with_reducible assumption | (simp [go_sem]; done) | (simp [go_sem, *]; done))
  have g2_0_0 : w2.frozen? ⟨w.heap.size, 0, none⟩ = false := (b2.frozen (p := ⟨w.heap.size, 0, none⟩) (by first | (simp; done) | (simp; omega) | omega) n0).trans (by first | with_reducible assumption | (simp [go_sem]; done) | (simp [go_sem, *]; done))
  have k2_0_1 : w2.cell? ⟨w.heap.size, 1, none⟩ = some (.int .i64 (0)) := (b2.cell (p := ⟨w.heap.size, 1, none⟩) (by first | (simp; done) | (simp; omega) | omega) n0).trans (by first | with_reducible assumption | (simp [go_sem]; done) | (simp [go_sem, *]; done))
  have g2_0_1 : w2.frozen? ⟨w.heap.size, 1, none⟩ = false := (b2.frozen (p := ⟨w.heap.size, 1, none⟩) (by first | (simp; done) | (simp; omega) | omega) n0).trans (by first | with_reducible assumption | (simp [go_sem]; done) | (simp [go_sem, *]; done))
  have k2_0_2 : w2.cell? ⟨w.heap.size, 2, none⟩ = some (.int .i64 (0)) := (b2.cell (p := ⟨w.heap.size, 2, none⟩) (by first | (simp; done) | (simp; omega) | omega) n0).trans (by first | with_reducible assumption | (simp [go_sem]; done) | (simp [go_sem, *]; done))
  have g2_0_2 : w2.frozen? ⟨w.heap.size, 2, none⟩ = false := (b2.frozen (p := ⟨w.heap.size, 2, none⟩) (by first | (simp; done) | (simp; omega) | omega) n0).trans (by first | with_reducible assumption | (simp [go_sem]; done) | (simp [go_sem, *]; done))
  clear k1_0_0 g1_0_0 k1_0_1 g1_0_1 k1_0_2 g1_0_2
  go_wp2_with fail
  refine (rdr_one B R a n c (p + 1 + 1) _ 8 (-2000) (2000) _ (by (repeat (first | with_reducible assumption | with_reducible refine Rdr.alloc ?_ _ | with_reducible refine Rdr.below ?_ (by with_reducible assumption) | with_reducible refine Rdr.drew ?_ | with_reducible refine Rdr.drewN ?_ _ | with_reducible refine Rdr.set ?_ (by dsimp only; omega) (by dsimp only; omega) _))) (by omega) (ListOf.mk' _ _ _ _ _ _ (by intro j hj; rcases j with _ | _ | _ | _ | _ | _ | _ | _ | j <;> first | exact ⟨_, by decide, by decide, rfl⟩ | omega)) (by omega) (by omega) (by omega)).mono ?_
  rintro e w3 ⟨v3, q3, rfl, ⟨l3, u3⟩, hq3, rd3, b3⟩
  have s3 := b3.size
  try simp at s3
  have t3 := rd3.lt
  have z3_0 : w.heap.size < w3.heap.size := by omega
  have k3_0_0 : w3.cell? ⟨w.heap.size, 0, none⟩ = some (.int .i64 (0)) := (b3.cell (p := ⟨w.heap.size, 0, none⟩) (by first | (simp; done) | (simp; omega) | omega) n0).trans (by first | with_reducible assumption | (simp [go_sem]; done) | (simp [go_sem, *]; done))
  have g3_0_0 : w3.frozen? ⟨w.heap.size, 0, none⟩ = false := (b3.frozen (p := ⟨w.heap.size, 0, none⟩) (by first | (simp; done) | (simp; omega) | omega) n0).trans (by first | with_reducible assumption | (simp [go_sem]; done) | (simp [go_sem, *]; done))
  have k3_0_1 : w3.cell? ⟨w.heap.size, 1, none⟩ = some (.int .i64 (0)) := (b3.cell (p := ⟨w.heap.size, 1, none⟩) (by first | (simp; done) | (simp; omega) | omega) n0).trans (by first | with_reducible assumption | (simp [go_sem]; done) | (simp [go_sem, *]; done))
  have g3_0_1 : w3.frozen? ⟨w.heap.size, 1, none⟩ = false := (b3.frozen (p := ⟨w.heap.size, 1, none⟩) (by first | (simp; done) | (simp; omega) | omega) n0).trans (by first | with_reducible assumption | (simp [go_sem]; done) | (simp [go_sem, *]; done))
  have k3_0_2 : w3.cell? ⟨w.heap.size, 2, none⟩ = some (.int .i64 (0)) := (b3.cell (p := ⟨w.heap.size, 2, none⟩) (by first | (simp; done) | (simp; omega) | omega) n0).trans (by first | with_reducible assumption | (simp [go_sem]; done) | (simp [go_sem, *]; done))
  have g3_0_2 : w3.frozen? ⟨w.heap.size, 2, none⟩ = false := (b3.frozen (p := ⟨w.heap.size, 2, none⟩) (by first | (simp; done) | (simp; omega) | omega) n0).trans (by first | with_reducible assumption | (simp [go_sem]; done) | (simp [go_sem, *]; done))
  clear k2_0_0 g2_0_0 k2_0_1 g2_0_1 k2_0_2 g2_0_2
  have n1 : ¬ w3.heap.size = R := by omega
  have Y0_0 : (w3.alloc (Obj.cells #[.int .i64 (v1 - 3), .int .i64 (v2 - 3), .int .i64 (v3)] 67)).cell? ⟨w.heap.size, 0, none⟩ = some (.int .i64 (0)) := by first | (with_reducible exact calloc (by assumption) _) | (simp [go_sem]; done)
  have X0_0 : (w3.alloc (Obj.cells #[.int .i64 (v1 - 3), .int .i64 (v2 - 3), .int .i64 (v3)] 67)).frozen? ⟨w.heap.size, 0, none⟩ = false := by first | (exact falloc (by assumption) (by first | (simp; done) | (simp; omega)) _) | (simp [go_sem]; done)
  have Y0_1 : (w3.alloc (Obj.cells #[.int .i64 (v1 - 3), .int .i64 (v2 - 3), .int .i64 (v3)] 67)).cell? ⟨w.heap.size, 1, none⟩ = some (.int .i64 (0)) := by first | (with_reducible exact calloc (by assumption) _) | (simp [go_sem]; done)
  have X0_1 : (w3.alloc (Obj.cells #[.int .i64 (v1 - 3), .int .i64 (v2 - 3), .int .i64 (v3)] 67)).frozen? ⟨w.heap.size, 1, none⟩ = false := by first | (exact falloc (by assumption) (by first | (simp; done) | (simp; omega)) _) | (simp [go_sem]; done)
  have Y0_2 : (w3.alloc (Obj.cells #[.int .i64 (v1 - 3), .int .i64 (v2 - 3), .int .i64 (v3)] 67)).cell? ⟨w.heap.size, 2, none⟩ = some (.int .i64 (0)) := by first | (with_reducible exact calloc (by assumption) _) | (simp [go_sem]; done)
  have X0_2 : (w3.alloc (Obj.cells #[.int .i64 (v1 - 3), .int .i64 (v2 - 3), .int .i64 (v3)] 67)).frozen? ⟨w.heap.size, 2, none⟩ = false := by first | (exact falloc (by assumption) (by first | (simp; done) | (simp; omega)) _) | (simp [go_sem]; done)
  have Y1_0 : (w3.alloc (Obj.cells #[.int .i64 (v1 - 3), .int .i64 (v2 - 3), .int .i64 (v3)] 67)).cell? ⟨w3.heap.size, 0, none⟩ = some (.int .i64 (v1 - 3)) := by first | (with_reducible exact calloc (by assumption) _) | (simp [go_sem]; done)
  have X1_0 : (w3.alloc (Obj.cells #[.int .i64 (v1 - 3), .int .i64 (v2 - 3), .int .i64 (v3)] 67)).frozen? ⟨w3.heap.size, 0, none⟩ = false := by first | (exact falloc (by assumption) (by first | (simp; done) | (simp; omega)) _) | (simp [go_sem]; done)
  have Y1_1 : (w3.alloc (Obj.cells #[.int .i64 (v1 - 3), .int .i64 (v2 - 3), .int .i64 (v3)] 67)).cell? ⟨w3.heap.size, 1, none⟩ = some (.int .i64 (v2 - 3)) := by first | (with_reducible exact calloc (by assumption) _) | (simp [go_sem]; done)
  have X1_1 : (w3.alloc (Obj.cells #[.int .i64 (v1 - 3), .int .i64 (v2 - 3), .int .i64 (v3)] 67)).frozen? ⟨w3.heap.size, 1, none⟩ = false := by first | (exact falloc (by assumption) (by first | (simp; done) | (simp; omega)) _) | (simp [go_sem]; done)
  have Y1_2 : (w3.alloc (Obj.cells #[.int .i64 (v1 - 3), .int .i64 (v2 - 3), .int .i64 (v3)] 67)).cell? ⟨w3.heap.size, 2, none⟩ = some (.int .i64 (v3)) := by first | (with_reducible exact calloc (by assumption) _) | (simp [go_sem]; done)
  have X1_2 : (w3.alloc (Obj.cells #[.int .i64 (v1 - 3), .int .i64 (v2 - 3), .int .i64 (v3)] 67)).frozen? ⟨w3.heap.size, 2, none⟩ = false := by first | (exact falloc (by assumption) (by first | (simp; done) | (simp; omega)) _) | (simp [go_sem]; done)
  by_cases c1 : v1 - 3 = 0
  · by_cases c2 : v2 - 3 = 0
    · have i1 : (v1 - 3 == 0) = true := by simp; omega
      have i2 : (v2 - 3 == 0) = true := by simp; omega
      have df1_0 : ¬ w3.heap.size = w.heap.size := by omega
      have f1k0_0 : ((w3.alloc (Obj.cells #[.int .i64 (v1 - 3), .int .i64 (v2 - 3), .int .i64 (v3)] 67)).setCell ⟨w3.heap.size, 0, none⟩ (.int .i64 (1))).cell? ⟨w.heap.size, 0, none⟩ = some (.int .i64 (0)) := csetO df1_0 (by assumption)
      have f1g0_0 : ((w3.alloc (Obj.cells #[.int .i64 (v1 - 3), .int .i64 (v2 - 3), .int .i64 (v3)] 67)).setCell ⟨w3.heap.size, 0, none⟩ (.int .i64 (1))).frozen? ⟨w.heap.size, 0, none⟩ = false := by rw [World.frozen?_setCell]; assumption
      have f1k0_1 : ((w3.alloc (Obj.cells #[.int .i64 (v1 - 3), .int .i64 (v2 - 3), .int .i64 (v3)] 67)).setCell ⟨w3.heap.size, 0, none⟩ (.int .i64 (1))).cell? ⟨w.heap.size, 1, none⟩ = some (.int .i64 (0)) := csetO df1_0 (by assumption)
      have f1g0_1 : ((w3.alloc (Obj.cells #[.int .i64 (v1 - 3), .int .i64 (v2 - 3), .int .i64 (v3)] 67)).setCell ⟨w3.heap.size, 0, none⟩ (.int .i64 (1))).frozen? ⟨w.heap.size, 1, none⟩ = false := by rw [World.frozen?_setCell]; assumption
      have f1k0_2 : ((w3.alloc (Obj.cells #[.int .i64 (v1 - 3), .int .i64 (v2 - 3), .int .i64 (v3)] 67)).setCell ⟨w3.heap.size, 0, none⟩ (.int .i64 (1))).cell? ⟨w.heap.size, 2, none⟩ = some (.int .i64 (0)) := csetO df1_0 (by assumption)
      have f1g0_2 : ((w3.alloc (Obj.cells #[.int .i64 (v1 - 3), .int .i64 (v2 - 3), .int .i64 (v3)] 67)).setCell ⟨w3.heap.size, 0, none⟩ (.int .i64 (1))).frozen? ⟨w.heap.size, 2, none⟩ = false := by rw [World.frozen?_setCell]; assumption
      have f1k1_0 : ((w3.alloc (Obj.cells #[.int .i64 (v1 - 3), .int .i64 (v2 - 3), .int .i64 (v3)] 67)).setCell ⟨w3.heap.size, 0, none⟩ (.int .i64 (1))).cell? ⟨w3.heap.size, 0, none⟩ = some (.int .i64 (1)) := csetS (by assumption) _
      have f1g1_0 : ((w3.alloc (Obj.cells #[.int .i64 (v1 - 3), .int .i64 (v2 - 3), .int .i64 (v3)] 67)).setCell ⟨w3.heap.size, 0, none⟩ (.int .i64 (1))).frozen? ⟨w3.heap.size, 0, none⟩ = false := by rw [World.frozen?_setCell]; assumption
      have f1k1_1 : ((w3.alloc (Obj.cells #[.int .i64 (v1 - 3), .int .i64 (v2 - 3), .int .i64 (v3)] 67)).setCell ⟨w3.heap.size, 0, none⟩ (.int .i64 (1))).cell? ⟨w3.heap.size, 1, none⟩ = some (.int .i64 (v2 - 3)) := csetN _ (by assumption) (by omega)
      have f1g1_1 : ((w3.alloc (Obj.cells #[.int .i64 (v1 - 3), .int .i64 (v2 - 3), .int .i64 (v3)] 67)).setCell ⟨w3.heap.size, 0, none⟩ (.int .i64 (1))).frozen? ⟨w3.heap.size, 1, none⟩ = false := by rw [World.frozen?_setCell]; assumption
      have f1k1_2 : ((w3.alloc (Obj.cells #[.int .i64 (v1 - 3), .int .i64 (v2 - 3), .int .i64 (v3)] 67)).setCell ⟨w3.heap.size, 0, none⟩ (.int .i64 (1))).cell? ⟨w3.heap.size, 2, none⟩ = some (.int .i64 (v3)) := csetN _ (by assumption) (by omega)
      have f1g1_2 : ((w3.alloc (Obj.cells #[.int .i64 (v1 - 3), .int .i64 (v2 - 3), .int .i64 (v3)] 67)).setCell ⟨w3.heap.size, 0, none⟩ (.int .i64 (1))).frozen? ⟨w3.heap.size, 2, none⟩ = false := by rw [World.frozen?_setCell]; assumption
      go_wp2
      refine bodyPost_ret (v := .agg #[.int .i64 (1), .int .i64 (v2 - 3), .int .i64 (v3)]) (by simp [results, Try.results62, go_sem, *]) rfl ⟨_, _, _, q3, rfl, ⟨by omega, by omega⟩, ⟨by omega, by omega⟩, ⟨by omega, by omega⟩, by omega, by (repeat (first | with_reducible assumption | with_reducible refine Rdr.alloc ?_ _ | with_reducible refine Rdr.below ?_ (by with_reducible assumption) | with_reducible refine Rdr.drew ?_ | with_reducible refine Rdr.drewN ?_ _ | with_reducible refine Rdr.set ?_ (by dsimp only; omega) (by dsimp only; omega) _)), by (repeat (first | with_reducible assumption | with_reducible exact But.refl _ _ | with_reducible refine But.alloc ?_ _ | with_reducible refine But.drew ?_ | with_reducible refine But.drewN ?_ _ | with_reducible refine But.set ?_ (Or.inr (by dsimp only; omega)) _ | with_reducible refine But.trans ?_ (by with_reducible assumption) | with_reducible refine But.below ?_ (by with_reducible assumption)))⟩
    · have i1 : (v1 - 3 == 0) = true := by simp; omega
      have i2 : (v2 - 3 == 0) = false := by simp; omega
      go_wp2
      refine bodyPost_ret (v := .agg #[.int .i64 (v1 - 3), .int .i64 (v2 - 3), .int .i64 (v3)]) (by simp [results, Try.results62, go_sem, *]) rfl ⟨_, _, _, q3, rfl, ⟨by omega, by omega⟩, ⟨by omega, by omega⟩, ⟨by omega, by omega⟩, by omega, by (repeat (first | with_reducible assumption | with_reducible refine Rdr.alloc ?_ _ | with_reducible refine Rdr.below ?_ (by with_reducible assumption) | with_reducible refine Rdr.drew ?_ | with_reducible refine Rdr.drewN ?_ _ | with_reducible refine Rdr.set ?_ (by dsimp only; omega) (by dsimp only; omega) _)), by (repeat (first | with_reducible assumption | with_reducible exact But.refl _ _ | with_reducible refine But.alloc ?_ _ | with_reducible refine But.drew ?_ | with_reducible refine But.drewN ?_ _ | with_reducible refine But.set ?_ (Or.inr (by dsimp only; omega)) _ | with_reducible refine But.trans ?_ (by with_reducible assumption) | with_reducible refine But.below ?_ (by with_reducible assumption)))⟩
  · have i1 : (v1 - 3 == 0) = false := by simp; omega
    go_wp2
    refine bodyPost_ret (v := .agg #[.int .i64 (v1 - 3), .int .i64 (v2 - 3), .int .i64 (v3)]) (by simp [results, Try.results62, go_sem, *]) rfl ⟨_, _, _, q3, rfl, ⟨by omega, by omega⟩, ⟨by omega, by omega⟩, ⟨by omega, by omega⟩, by omega, by (repeat (first | with_reducible assumption | with_reducible refine Rdr.alloc ?_ _ | with_reducible refine Rdr.below ?_ (by with_reducible assumption) | with_reducible refine Rdr.drew ?_ | with_reducible refine Rdr.drewN ?_ _ | with_reducible refine Rdr.set ?_ (by dsimp only; omega) (by dsimp only; omega) _)), by (repeat (first | with_reducible assumption | with_reducible exact But.refl _ _ | with_reducible refine But.alloc ?_ _ | with_reducible refine But.drew ?_ | with_reducible refine But.drewN ?_ _ | with_reducible refine But.set ?_ (Or.inr (by dsimp only; omega)) _ | with_reducible refine But.trans ?_ (by with_reducible assumption) | with_reducible refine But.below ?_ (by with_reducible assumption)))⟩

end Go.Proofs.Ytbfeaiaoelkggaa
