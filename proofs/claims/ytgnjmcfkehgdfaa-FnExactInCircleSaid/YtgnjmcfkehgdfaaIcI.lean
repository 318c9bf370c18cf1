/- Contracts of functions that this seat's statements reach: each is shown to compute a plain Lean function, and to leave what was there as it was. No conditions but those in each theorem. -/
import Derived.Test.YtgnjmcfkehgdfaaB1
import Derived.Test.YtgnjmcfkehgdfaaPlainC7
import Derived.Test.YtgnjmcfkehgdfaaIcK
namespace Go.Proofs.Ytgnjmcfkehgdfaa
open Go.RowKit
set_option linter.unusedVariables false

open Go.Sort

set_option maxHeartbeats 40000000 in
set_option maxRecDepth 100000 in
theorem impl_inCircle (aX : Int) (aY : Int) (bX : Int) (bY : Int) (cX : Int) (cY : Int) (dX : Int) (dY : Int) (w : World) (haX : -1000 ≤ aX ∧ aX ≤ 1000) (haY : -1000 ≤ aY ∧ aY ≤ 1000) (hbX : -1000 ≤ bX ∧ bX ≤ 1000) (hbY : -1000 ≤ bY ∧ bY ≤ 1000) (hcX : -1000 ≤ cX ∧ cX ≤ 1000) (hcY : -1000 ≤ cY ∧ cY ≤ 1000) (hdX : -1000 ≤ dX ∧ dX ≤ 1000) (hdY : -1000 ≤ dY ∧ dY ≤ 1000) :
    Calls Try.prog 64 #[.agg #[.int .i64 aX, .int .i64 aY], .agg #[.int .i64 bX, .int .i64 bY], .agg #[.int .i64 cX, .int .i64 cY], .agg #[.int .i64 dX, .int .i64 dY]] w fun e w' => e = .returned (.int .i64 (sgnI (icD aX aY bX bY cX cY dX dY) * sgnI (crossV aX aY bX bY cX cY))) ∧ Below w.heap.size w w' := by
  obtain ⟨laX, uaX⟩ := haX
  obtain ⟨laY, uaY⟩ := haY
  obtain ⟨lbX, ubX⟩ := hbX
  obtain ⟨lbY, ubY⟩ := hbY
  obtain ⟨lcX, ucX⟩ := hcX
  obtain ⟨lcY, ucY⟩ := hcY
  obtain ⟨ldX, udX⟩ := hdX
  obtain ⟨ldY, udY⟩ := hdY
  obtain ⟨⟨e00, e0X⟩, ⟨e0Y, e03⟩, ⟨e04, e05⟩, ⟨e06, e07⟩, ⟨e08, e09⟩⟩ := ic_bds (aX - dX) (aY - dY) (bX - dX) (bY - dY) (cX - dX) (cY - dY) (by omega) (by omega) (by omega) (by omega) (by omega) (by omega)
  obtain ⟨⟨e10, e1X⟩, ⟨e1Y, e13⟩, ⟨e14, e15⟩, ⟨e16, e17⟩, ⟨e18, e19⟩⟩ := ic_bds (bX - dX) (bY - dY) (cX - dX) (cY - dY) (aX - dX) (aY - dY) (by omega) (by omega) (by omega) (by omega) (by omega) (by omega)
  obtain ⟨⟨e20, e2X⟩, ⟨e2Y, e23⟩, ⟨e24, e25⟩, ⟨e26, e27⟩, ⟨e28, e29⟩⟩ := ic_bds (cX - dX) (cY - dY) (aX - dX) (aY - dY) (bX - dX) (bY - dY) (by omega) (by omega) (by omega) (by omega) (by omega) (by omega)
  obtain ⟨cl, cu⟩ := cross_b8 aX aY bX bY cX cY (by omega) (by omega) (by omega) (by omega) (by omega) (by omega)
  have K1 : Hid (∀ W : World, Calls Try.prog 43 #[.agg #[.int .i64 aX, .int .i64 aY], .agg #[.int .i64 dX, .int .i64 dY]] W fun e w' => e = .returned (.agg #[.int .i64 (aX - dX), .int .i64 (aY - dY)]) ∧ Below W.heap.size W w') := Lib.hid fun W => by
    have h := impl_Point_minus (aX) (aY) (dX) (dY) W (by omega) (by omega) (by omega) (by omega)
    exact h
  have K2 : Hid (∀ W : World, Calls Try.prog 43 #[.agg #[.int .i64 bX, .int .i64 bY], .agg #[.int .i64 dX, .int .i64 dY]] W fun e w' => e = .returned (.agg #[.int .i64 (bX - dX), .int .i64 (bY - dY)]) ∧ Below W.heap.size W w') := Lib.hid fun W => by
    have h := impl_Point_minus (bX) (bY) (dX) (dY) W (by omega) (by omega) (by omega) (by omega)
    exact h
  have K3 : Hid (∀ W : World, Calls Try.prog 43 #[.agg #[.int .i64 cX, .int .i64 cY], .agg #[.int .i64 dX, .int .i64 dY]] W fun e w' => e = .returned (.agg #[.int .i64 (cX - dX), .int .i64 (cY - dY)]) ∧ Below W.heap.size W w') := Lib.hid fun W => by
    have h := impl_Point_minus (cX) (cY) (dX) (dY) W (by omega) (by omega) (by omega) (by omega)
    exact h
  have K4 : Hid (∀ W : World, Calls Try.prog 85 #[.agg #[.int .i64 (aX - dX), .int .i64 (aY - dY)], .agg #[.int .i64 (aX - dX), .int .i64 (aY - dY)]] W fun e w' => e = .returned (.int .i64 ((aX - dX) * (aX - dX) + (aY - dY) * (aY - dY))) ∧ Below W.heap.size W w') := Lib.hid fun W => by
    have h := impl_Point_dot (aX - dX) (aY - dY) (aX - dX) (aY - dY) W (by omega) (by omega) (by omega) (by omega)
    exact h
  have K5 : Hid (∀ W : World, Calls Try.prog 85 #[.agg #[.int .i64 (bX - dX), .int .i64 (bY - dY)], .agg #[.int .i64 (bX - dX), .int .i64 (bY - dY)]] W fun e w' => e = .returned (.int .i64 ((bX - dX) * (bX - dX) + (bY - dY) * (bY - dY))) ∧ Below W.heap.size W w') := Lib.hid fun W => by
    have h := impl_Point_dot (bX - dX) (bY - dY) (bX - dX) (bY - dY) W (by omega) (by omega) (by omega) (by omega)
    exact h
  have K6 : Hid (∀ W : World, Calls Try.prog 85 #[.agg #[.int .i64 (cX - dX), .int .i64 (cY - dY)], .agg #[.int .i64 (cX - dX), .int .i64 (cY - dY)]] W fun e w' => e = .returned (.int .i64 ((cX - dX) * (cX - dX) + (cY - dY) * (cY - dY))) ∧ Below W.heap.size W w') := Lib.hid fun W => by
    have h := impl_Point_dot (cX - dX) (cY - dY) (cX - dX) (cY - dY) W (by omega) (by omega) (by omega) (by omega)
    exact h
  have K7 : Hid (∀ W : World, Calls Try.prog 92 #[.agg #[.int .i64 (bX - dX), .int .i64 (bY - dY)], .agg #[.int .i64 (cX - dX), .int .i64 (cY - dY)]] W fun e w' => e = .returned (.int .i64 ((bX - dX) * (cY - dY) - (bY - dY) * (cX - dX))) ∧ Below W.heap.size W w') := Lib.hid fun W => by
    have h := impl_Point_cross (bX - dX) (bY - dY) (cX - dX) (cY - dY) W (by omega) (by omega) (by omega) (by omega)
    exact h
  have K8 : Hid (∀ W : World, Calls Try.prog 92 #[.agg #[.int .i64 (cX - dX), .int .i64 (cY - dY)], .agg #[.int .i64 (aX - dX), .int .i64 (aY - dY)]] W fun e w' => e = .returned (.int .i64 ((cX - dX) * (aY - dY) - (cY - dY) * (aX - dX))) ∧ Below W.heap.size W w') := Lib.hid fun W => by
    have h := impl_Point_cross (cX - dX) (cY - dY) (aX - dX) (aY - dY) W (by omega) (by omega) (by omega) (by omega)
    exact h
  have K9 : Hid (∀ W : World, Calls Try.prog 92 #[.agg #[.int .i64 (aX - dX), .int .i64 (aY - dY)], .agg #[.int .i64 (bX - dX), .int .i64 (bY - dY)]] W fun e w' => e = .returned (.int .i64 ((aX - dX) * (bY - dY) - (aY - dY) * (bX - dX))) ∧ Below W.heap.size W w') := Lib.hid fun W => by
    have h := impl_Point_cross (aX - dX) (aY - dY) (bX - dX) (bY - dY) W (by omega) (by omega) (by omega) (by omega)
    exact h
  have hdet : _ = icD aX aY bX bY cX cY dX dY := ic_impl (aX - dX) (aY - dY) (bX - dX) (bY - dY) (cX - dX) (cY - dY)
  generalize (aX - dX) * (aX - dX) + (aY - dY) * (aY - dY) = N1 at *
  generalize (bX - dX) * (bX - dX) + (bY - dY) * (bY - dY) = N2 at *
  generalize (cX - dX) * (cX - dX) + (cY - dY) * (cY - dY) = N3 at *
  generalize (bX - dX) * (cY - dY) - (bY - dY) * (cX - dX) = M1 at *
  generalize (cX - dX) * (aY - dY) - (cY - dY) * (aX - dX) = M2 at *
  generalize (aX - dX) * (bY - dY) - (aY - dY) * (bX - dX) = M3 at *
  have K10 : Hid (∀ W : World, Calls Try.prog 77 #[.int .i64 (N1 * M1 + N2 * M2 + N3 * M3)] W fun e w' => e = .returned (.int .i64 (sgnI (icD aX aY bX bY cX cY dX dY))) ∧ W = w') := Lib.hid fun W => by
    have h := impl_sign (N1 * M1 + N2 * M2 + N3 * M3) W
    rw [congrArg sgnI hdet] at h
    exact h
  have K11 : Hid (∀ W : World, Calls Try.prog 63 #[.agg #[.int .i64 aX, .int .i64 aY], .agg #[.int .i64 bX, .int .i64 bY], .agg #[.int .i64 cX, .int .i64 cY]] W fun e w' => e = .returned (.int .i64 (crossV aX aY bX bY cX cY)) ∧ Below W.heap.size W w') := Lib.hid fun W => by
    have h := impl_turn (aX) (aY) (bX) (bY) (cX) (cY) W (by omega) (by omega) (by omega) (by omega) (by omega) (by omega)
    exact h
  have K12 : Hid (∀ W : World, Calls Try.prog 77 #[.int .i64 (crossV aX aY bX bY cX cY)] W fun e w' => e = .returned (.int .i64 (sgnI (crossV aX aY bX bY cX cY))) ∧ W = w') := Lib.hid fun W => by
    have h := impl_sign (crossV aX aY bX bY cX cY) W
    exact h
  obtain ⟨s1, s2⟩ := sgn_b1 (crossV aX aY bX bY cX cY)
  obtain ⟨s3, s4⟩ := sgn_b1 (icD aX aY bX bY cX cY dX dY)
  obtain ⟨s5, s6⟩ := mul_bd (sgnI (icD aX aY bX bY cX cY dX dY)) (sgnI (crossV aX aY bX bY cX cY)) 1 1 ⟨s3, s4⟩ ⟨s1, s2⟩ (by omega) (by omega)
  clear hdet
  generalize icD aX aY bX bY cX cY dX dY = D at *
  generalize crossV aX aY bX bY cX cY = CC at *
  go_enter Try.func64, Try.ntmps64
  go_wp2
  have A0_0 : ∀ w', Hld ((((w.alloc (Obj.cells #[.int .i64 (aX), .int .i64 (aY)] 28)).alloc (Obj.cells #[.int .i64 (bX), .int .i64 (bY)] 28)).alloc (Obj.cells #[.int .i64 (cX), .int .i64 (cY)] 28)).alloc (Obj.cells #[.int .i64 (dX), .int .i64 (dY)] 28)) w' → w'.cell? ⟨w.heap.size, 0, none⟩ = some (.int .i64 aX) := fun w' h => (Below.cell h (p := ⟨w.heap.size, 0, none⟩) (by first | (simp; done) | (simp; omega))).trans (by simp [go_sem])
  have A0_1 : ∀ w', Hld ((((w.alloc (Obj.cells #[.int .i64 (aX), .int .i64 (aY)] 28)).alloc (Obj.cells #[.int .i64 (bX), .int .i64 (bY)] 28)).alloc (Obj.cells #[.int .i64 (cX), .int .i64 (cY)] 28)).alloc (Obj.cells #[.int .i64 (dX), .int .i64 (dY)] 28)) w' → w'.cell? ⟨w.heap.size, 1, none⟩ = some (.int .i64 aY) := fun w' h => (Below.cell h (p := ⟨w.heap.size, 1, none⟩) (by first | (simp; done) | (simp; omega))).trans (by simp [go_sem])
  have A1_0 : ∀ w', Hld ((((w.alloc (Obj.cells #[.int .i64 (aX), .int .i64 (aY)] 28)).alloc (Obj.cells #[.int .i64 (bX), .int .i64 (bY)] 28)).alloc (Obj.cells #[.int .i64 (cX), .int .i64 (cY)] 28)).alloc (Obj.cells #[.int .i64 (dX), .int .i64 (dY)] 28)) w' → w'.cell? ⟨w.heap.size + 1, 0, none⟩ = some (.int .i64 bX) := fun w' h => (Below.cell h (p := ⟨w.heap.size + 1, 0, none⟩) (by first | (simp; done) | (simp; omega))).trans (by simp [go_sem])
  have A1_1 : ∀ w', Hld ((((w.alloc (Obj.cells #[.int .i64 (aX), .int .i64 (aY)] 28)).alloc (Obj.cells #[.int .i64 (bX), .int .i64 (bY)] 28)).alloc (Obj.cells #[.int .i64 (cX), .int .i64 (cY)] 28)).alloc (Obj.cells #[.int .i64 (dX), .int .i64 (dY)] 28)) w' → w'.cell? ⟨w.heap.size + 1, 1, none⟩ = some (.int .i64 bY) := fun w' h => (Below.cell h (p := ⟨w.heap.size + 1, 1, none⟩) (by first | (simp; done) | (simp; omega))).trans (by simp [go_sem])
  have A2_0 : ∀ w', Hld ((((w.alloc (Obj.cells #[.int .i64 (aX), .int .i64 (aY)] 28)).alloc (Obj.cells #[.int .i64 (bX), .int .i64 (bY)] 28)).alloc (Obj.cells #[.int .i64 (cX), .int .i64 (cY)] 28)).alloc (Obj.cells #[.int .i64 (dX), .int .i64 (dY)] 28)) w' → w'.cell? ⟨w.heap.size + 1 + 1, 0, none⟩ = some (.int .i64 cX) := fun w' h => (Below.cell h (p := ⟨w.heap.size + 1 + 1, 0, none⟩) (by first | (simp; done) | (simp; omega))).trans (by simp [go_sem])
  have A2_1 : ∀ w', Hld ((((w.alloc (Obj.cells #[.int .i64 (aX), .int .i64 (aY)] 28)).alloc (Obj.cells #[.int .i64 (bX), .int .i64 (bY)] 28)).alloc (Obj.cells #[.int .i64 (cX), .int .i64 (cY)] 28)).alloc (Obj.cells #[.int .i64 (dX), .int .i64 (dY)] 28)) w' → w'.cell? ⟨w.heap.size + 1 + 1, 1, none⟩ = some (.int .i64 cY) := fun w' h => (Below.cell h (p := ⟨w.heap.size + 1 + 1, 1, none⟩) (by first | (simp; done) | (simp; omega))).trans (by simp [go_sem])
  have A3_0 : ∀ w', Hld ((((w.alloc (Obj.cells #[.int .i64 (aX), .int .i64 (aY)] 28)).alloc (Obj.cells #[.int .i64 (bX), .int .i64 (bY)] 28)).alloc (Obj.cells #[.int .i64 (cX), .int .i64 (cY)] 28)).alloc (Obj.cells #[.int .i64 (dX), .int .i64 (dY)] 28)) w' → w'.cell? ⟨w.heap.size + 1 + 1 + 1, 0, none⟩ = some (.int .i64 dX) := fun w' h => (Below.cell h (p := ⟨w.heap.size + 1 + 1 + 1, 0, none⟩) (by first | (simp; done) | (simp; omega))).trans (by simp [go_sem])
  have A3_1 : ∀ w', Hld ((((w.alloc (Obj.cells #[.int .i64 (aX), .int .i64 (aY)] 28)).alloc (Obj.cells #[.int .i64 (bX), .int .i64 (bY)] 28)).alloc (Obj.cells #[.int .i64 (cX), .int .i64 (cY)] 28)).alloc (Obj.cells #[.int .i64 (dX), .int .i64 (dY)] 28)) w' → w'.cell? ⟨w.heap.size + 1 + 1 + 1, 1, none⟩ = some (.int .i64 dY) := fun w' h => (Below.cell h (p := ⟨w.heap.size + 1 + 1 + 1, 1, none⟩) (by first | (simp; done) | (simp; omega))).trans (by simp [go_sem])
  refine wp_region_held_drew (S := fun w' => Hld ((((w.alloc (Obj.cells #[.int .i64 (aX), .int .i64 (aY)] 28)).alloc (Obj.cells #[.int .i64 (bX), .int .i64 (bY)] 28)).alloc (Obj.cells #[.int .i64 (cX), .int .i64 (cY)] 28)).alloc (Obj.cells #[.int .i64 (dX), .int .i64 (dY)] 28)) w') (by kernel_rfl) (Hld.start _) (fun hHeld => ?_)
  refine wpAnyH_take (i := 0) (v := .agg #[.int .i64 aX, .int .i64 aY]) rfl (by kernel_rfl) (by kernel_rfl) (by kernel_rfl) (fun _ _ _ h => h) (Or.inl ⟨by rfl, ?_⟩) (by assumption) ?_
  · (intro w hSw; (try dsimp only at hSw); go_simp)
  refine wpAnyH_take (i := 1) (v := .agg #[.int .i64 dX, .int .i64 dY]) rfl (by kernel_rfl) (by kernel_rfl) (by kernel_rfl) (fun _ _ _ h => h) (Or.inl ⟨by rfl, ?_⟩) (by assumption) ?_
  · (intro w hSw; (try dsimp only at hSw); go_simp)
  refine wpAnyH_take (i := 3) (v := .agg #[.int .i64 bX, .int .i64 bY]) rfl (by kernel_rfl) (by kernel_rfl) (by kernel_rfl) (fun _ _ _ h => h) (Or.inl ⟨by rfl, ?_⟩) (by assumption) ?_
  · (intro w hSw; (try dsimp only at hSw); go_simp)
  refine wpAnyH_take (i := 4) (v := .agg #[.int .i64 dX, .int .i64 dY]) rfl (by kernel_rfl) (by kernel_rfl) (by kernel_rfl) (fun _ _ _ h => h) (Or.inl ⟨by rfl, ?_⟩) (by assumption) ?_
  · (intro w hSw; (try dsimp only at hSw); go_simp)
  refine wpAnyH_take (i := 6) (v := .agg #[.int .i64 cX, .int .i64 cY]) rfl (by kernel_rfl) (by kernel_rfl) (by kernel_rfl) (fun _ _ _ h => h) (Or.inl ⟨by rfl, ?_⟩) (by assumption) ?_
  · (intro w hSw; (try dsimp only at hSw); go_simp)
  refine wpAnyH_take (i := 7) (v := .agg #[.int .i64 dX, .int .i64 dY]) rfl (by kernel_rfl) (by kernel_rfl) (by kernel_rfl) (fun _ _ _ h => h) (Or.inl ⟨by rfl, ?_⟩) (by assumption) ?_
  · (intro w hSw; (try dsimp only at hSw); go_simp)
  refine with_any (fun R hR => ?_)
  have HA0_0 := Lib.hid A0_0
  clear A0_0
  have HA0_1 := Lib.hid A0_1
  clear A0_1
  have HA1_0 := Lib.hid A1_0
  clear A1_0
  have HA1_1 := Lib.hid A1_1
  clear A1_1
  have HA2_0 := Lib.hid A2_0
  clear A2_0
  have HA2_1 := Lib.hid A2_1
  clear A2_1
  have HA3_0 := Lib.hid A3_0
  clear A3_0
  have HA3_1 := Lib.hid A3_1
  clear A3_1
  have hB0 : ∀ w', Hld ((((w.alloc (Obj.cells #[.int .i64 (aX), .int .i64 (aY)] 28)).alloc (Obj.cells #[.int .i64 (bX), .int .i64 (bY)] 28)).alloc (Obj.cells #[.int .i64 (cX), .int .i64 (cY)] 28)).alloc (Obj.cells #[.int .i64 (dX), .int .i64 (dY)] 28)) w' → w.heap.size + 4 ≤ w'.heap.size := fun w' h => by have h9 := h.size; simp at h9; omega
  have HB0 := Lib.hid hB0
  clear hB0
  have P3_012_3 : Hid (∀ (w1 : World) (H : Hld ((((w.alloc (Obj.cells #[.int .i64 (aX), .int .i64 (aY)] 28)).alloc (Obj.cells #[.int .i64 (bX), .int .i64 (bY)] 28)).alloc (Obj.cells #[.int .i64 (cX), .int .i64 (cY)] 28)).alloc (Obj.cells #[.int .i64 (dX), .int .i64 (dY)] 28)) w1) (g0 : Nat) (b0 : Hid (Box2 (w.heap.size + 4) w1 g0 (aX - dX) (aY - dY))) (g1 : Nat) (b1 : Hid (Box2 (w.heap.size + 4) w1 g1 (bX - dX) (bY - dY))) (g2 : Nat) (b2 : Hid (Box2 (w.heap.size + 4) w1 g2 (cX - dX) (cY - dY))) (d01 : ¬ g0 = g1) (d02 : ¬ g0 = g2) (d12 : ¬ g1 = g2), R 0 #[true, true, true, true, true, true, true, true, true, true, true, true, true, true, true] (⟨#[.agg #[.int .i64 aX, .int .i64 aY], .agg #[.int .i64 bX, .int .i64 bY], .agg #[.int .i64 cX, .int .i64 cY], .agg #[.int .i64 dX, .int .i64 dY], .pointer (some ⟨w.heap.size, 0, none⟩), .pointer (some ⟨w.heap.size + 1, 0, none⟩), .pointer (some ⟨w.heap.size + 1 + 1, 0, none⟩), .pointer (some ⟨w.heap.size + 1 + 1 + 1, 0, none⟩), .int .i64 0, .pointer (some ⟨g0, 0, none⟩), .pointer (some ⟨g1, 0, none⟩), .pointer (some ⟨g2, 0, none⟩), undef, .agg #[.int .i64 aX, .int .i64 aY], .agg #[.int .i64 dX, .int .i64 dY], .agg #[.int .i64 (aX - dX), .int .i64 (aY - dY)], .agg #[.int .i64 bX, .int .i64 bY], .agg #[.int .i64 dX, .int .i64 dY], .agg #[.int .i64 (bX - dX), .int .i64 (bY - dY)], .agg #[.int .i64 cX, .int .i64 cY], .agg #[.int .i64 dX, .int .i64 dY], .agg #[.int .i64 (cX - dX), .int .i64 (cY - dY)], undef, undef, undef, undef, undef, undef, undef, undef, undef, undef, undef, undef, undef, undef, undef, undef, undef, undef, undef, undef, undef, undef, undef, undef, undef, undef, undef, undef, undef, undef, undef], []⟩ : Act) w1) := Lib.hid (by
    intro w1 H g0 b0 g1 b1 g2 b2 d01 d02 d12
    rw [hR.out]
    refine wpAnyH_done (by kernel_rfl) ?_ _
    obtain ⟨q0, l0, c00, c01, -, -⟩ := b0.out
    obtain ⟨q1, l1, c10, c11, -, -⟩ := b1.out
    obtain ⟨q2, l2, c20, c21, -, -⟩ := b2.out
    have a00 := HA0_0.out w1 H
    have a01 := HA0_1.out w1 H
    have a10 := HA1_0.out w1 H
    have a11 := HA1_1.out w1 H
    have a20 := HA2_0.out w1 H
    have a21 := HA2_1.out w1 H
    go_wp2
    have k0 := cell_regrown c00
    have k1 := cell_regrown c01
    have k2 := cell_regrown c10
    have k3 := cell_regrown c11
    have k4 := cell_regrown c20
    have k5 := cell_regrown c21
    have k6 := cell_regrown a00
    have k7 := cell_regrown a01
    have k8 := cell_regrown a10
    have k9 := cell_regrown a11
    have k10 := cell_regrown a20
    have k11 := cell_regrown a21
    clear c00 c01 c10 c11 c20 c21 a00 a01 a10 a11 a20 a21
    have wr0 : IntKind.i64.wrap (N1 * M1) = N1 * M1 := IntWalk.i64_in _ (by omega)
    have wr1 : IntKind.i64.wrap (N2 * M2) = N2 * M2 := IntWalk.i64_in _ (by omega)
    have wr2 : IntKind.i64.wrap (N1 * M1 + N2 * M2) = N1 * M1 + N2 * M2 := IntWalk.i64_in _ (by omega)
    have wr3 : IntKind.i64.wrap (N3 * M3) = N3 * M3 := IntWalk.i64_in _ (by omega)
    have wr4 : IntKind.i64.wrap (N1 * M1 + N2 * M2 + N3 * M3) = N1 * M1 + N2 * M2 + N3 * M3 := IntWalk.i64_in _ (by omega)
    refine wp_region_quiet_below (by kernel_rfl) (by kernel_rfl) ?_
    repeat (go_big_quiet_step ((first | (go_at_call 85; with_reducible exact Calls.regrown_of (K4.out _)) | (go_at_call 85; with_reducible exact Calls.regrown_of (K5.out _)) | (go_at_call 85; with_reducible exact Calls.regrown_of (K6.out _)) | (go_at_call 92; with_reducible exact Calls.regrown_of (K7.out _)) | (go_at_call 92; with_reducible exact Calls.regrown_of (K8.out _)) | (go_at_call 92; with_reducible exact Calls.regrown_of (K9.out _)))))
    refine wpQuiet_nil ?_
    intro _ hw'
    obtain ⟨⟨dq, osq⟩, hw''⟩ := hw'
    subst hw''
    have e6 := k6 dq osq
    have e7 := k7 dq osq
    have e8 := k8 dq osq
    have e9 := k9 dq osq
    have e10 := k10 dq osq
    have e11 := k11 dq osq
    have HBq := below_regrown w1 dq osq
    clear k0 k1 k2 k3 k4 k5 k6 k7 k8 k9 k10 k11 wr0 wr1 wr2 wr3 wr4
    go_wp2
    have k6 := cell_regrown e6
    have k7 := cell_regrown e7
    have k8 := cell_regrown e8
    have k9 := cell_regrown e9
    have k10 := cell_regrown e10
    have k11 := cell_regrown e11
    clear e6 e7 e8 e9 e10 e11
    have wr0 : IntKind.i64.wrap (sgnI D * sgnI CC) = sgnI D * sgnI CC := IntWalk.i64_in _ (by omega)
    refine wp_region_quiet_below (by kernel_rfl) (by kernel_rfl) ?_
    repeat (go_big_quiet_step ((first | (go_at_call 77; with_reducible exact Calls.regrown_of (qb_same (K10.out _))) | (go_at_call 63; with_reducible exact Calls.regrown_of (K11.out _)) | (go_at_call 77; with_reducible exact Calls.regrown_of (qb_same (K12.out _))))))
    refine wpQuiet_nil ?_
    intro _ hw'
    obtain ⟨⟨dq2, osq2⟩, hw''⟩ := hw'
    subst hw''
    go_wp2
    go_ret
    exact ⟨rfl, bl_call (below_regrown _ dq2 osq2) (bl_call HBq (bl_call H (show Below w.heap.size w ((((w.alloc (Obj.cells #[.int .i64 (aX), .int .i64 (aY)] 28)).alloc (Obj.cells #[.int .i64 (bX), .int .i64 (bY)] 28)).alloc (Obj.cells #[.int .i64 (cX), .int .i64 (cY)] 28)).alloc (Obj.cells #[.int .i64 (dX), .int .i64 (dY)] 28)) from by (repeat (first | with_reducible exact Below.refl _ _ | with_reducible refine bl_alloc ?_ _ | with_reducible refine bl_drew ?_ | with_reducible refine bl_set ?_ (by first | (simp; done) | (simp; omega)) _ | with_reducible refine bl_call (by assumption) ?_)))))⟩)
  have P3_012_2 : Hid (∀ (w1 : World) (H : Hld ((((w.alloc (Obj.cells #[.int .i64 (aX), .int .i64 (aY)] 28)).alloc (Obj.cells #[.int .i64 (bX), .int .i64 (bY)] 28)).alloc (Obj.cells #[.int .i64 (cX), .int .i64 (cY)] 28)).alloc (Obj.cells #[.int .i64 (dX), .int .i64 (dY)] 28)) w1) (g0 : Nat) (b0 : Hid (Box2 (w.heap.size + 4) w1 g0 (aX - dX) (aY - dY))) (g1 : Nat) (b1 : Hid (Box2 (w.heap.size + 4) w1 g1 (bX - dX) (bY - dY))) (g2 : Nat) (b2 : Hid (Box2 (w.heap.size + 4) w1 g2 0 0)) (d01 : ¬ g0 = g1) (d02 : ¬ g0 = g2) (d12 : ¬ g1 = g2), R 1 #[true, true, true, true, true, true, true, true, true, true, true, true, true, true, false] (⟨#[.agg #[.int .i64 aX, .int .i64 aY], .agg #[.int .i64 bX, .int .i64 bY], .agg #[.int .i64 cX, .int .i64 cY], .agg #[.int .i64 dX, .int .i64 dY], .pointer (some ⟨w.heap.size, 0, none⟩), .pointer (some ⟨w.heap.size + 1, 0, none⟩), .pointer (some ⟨w.heap.size + 1 + 1, 0, none⟩), .pointer (some ⟨w.heap.size + 1 + 1 + 1, 0, none⟩), .int .i64 0, .pointer (some ⟨g0, 0, none⟩), .pointer (some ⟨g1, 0, none⟩), .pointer (some ⟨g2, 0, none⟩), undef, .agg #[.int .i64 aX, .int .i64 aY], .agg #[.int .i64 dX, .int .i64 dY], .agg #[.int .i64 (aX - dX), .int .i64 (aY - dY)], .agg #[.int .i64 bX, .int .i64 bY], .agg #[.int .i64 dX, .int .i64 dY], .agg #[.int .i64 (bX - dX), .int .i64 (bY - dY)], .agg #[.int .i64 cX, .int .i64 cY], .agg #[.int .i64 dX, .int .i64 dY], .agg #[.int .i64 (cX - dX), .int .i64 (cY - dY)], undef, undef, undef, undef, undef, undef, undef, undef, undef, undef, undef, undef, undef, undef, undef, undef, undef, undef, undef, undef, undef, undef, undef, undef, undef, undef, undef, undef, undef, undef, undef], []⟩ : Act) w1) := Lib.hid (by
    intro w1 H g0 b0 g1 b1 g2 b2 d01 d02 d12
    rw [hR.out]
    refine wpAnyH_ready (rs := [14]) (by kernel_rfl) (by simp) ?_
    refine AllReadyH.cons rfl (fun K hK => ?_) AllReadyH.nil
    obtain ⟨q, l, c0, c1, f0, f1⟩ := b2.out
    go_simp
    refine hK.out _ _ ?_ (fun _ => ?_)
    · exact Hld.set (Hld.set H (by simp; omega) _) (by simp; omega) _
    have H2 : Hld ((((w.alloc (Obj.cells #[.int .i64 (aX), .int .i64 (aY)] 28)).alloc (Obj.cells #[.int .i64 (bX), .int .i64 (bY)] 28)).alloc (Obj.cells #[.int .i64 (cX), .int .i64 (cY)] 28)).alloc (Obj.cells #[.int .i64 (dX), .int .i64 (dY)] 28)) ((w1.setCell ⟨g2, 0, none⟩ (.int .i64 (cX - dX))).setCell ⟨g2, 1, none⟩ (.int .i64 (cY - dY))) := Hld.set (Hld.set H (by simp; omega) _) (by simp; omega) _
    clear hK K
    rw [← hR.out]
    exact P3_012_3.out _ H2 _ (b0.out.other (by omega) _ _) _ (b1.out.other (by omega) _ _) _ (b2.out.own _ _) (d01) (d02) (d12))
  have P3_012_1 : Hid (∀ (w1 : World) (H : Hld ((((w.alloc (Obj.cells #[.int .i64 (aX), .int .i64 (aY)] 28)).alloc (Obj.cells #[.int .i64 (bX), .int .i64 (bY)] 28)).alloc (Obj.cells #[.int .i64 (cX), .int .i64 (cY)] 28)).alloc (Obj.cells #[.int .i64 (dX), .int .i64 (dY)] 28)) w1) (g0 : Nat) (b0 : Hid (Box2 (w.heap.size + 4) w1 g0 (aX - dX) (aY - dY))) (g1 : Nat) (b1 : Hid (Box2 (w.heap.size + 4) w1 g1 0 0)) (g2 : Nat) (b2 : Hid (Box2 (w.heap.size + 4) w1 g2 0 0)) (d01 : ¬ g0 = g1) (d02 : ¬ g0 = g2) (d12 : ¬ g1 = g2), R 2 #[true, true, true, true, true, true, true, true, true, true, true, true, true, false, false] (⟨#[.agg #[.int .i64 aX, .int .i64 aY], .agg #[.int .i64 bX, .int .i64 bY], .agg #[.int .i64 cX, .int .i64 cY], .agg #[.int .i64 dX, .int .i64 dY], .pointer (some ⟨w.heap.size, 0, none⟩), .pointer (some ⟨w.heap.size + 1, 0, none⟩), .pointer (some ⟨w.heap.size + 1 + 1, 0, none⟩), .pointer (some ⟨w.heap.size + 1 + 1 + 1, 0, none⟩), .int .i64 0, .pointer (some ⟨g0, 0, none⟩), .pointer (some ⟨g1, 0, none⟩), .pointer (some ⟨g2, 0, none⟩), undef, .agg #[.int .i64 aX, .int .i64 aY], .agg #[.int .i64 dX, .int .i64 dY], .agg #[.int .i64 (aX - dX), .int .i64 (aY - dY)], .agg #[.int .i64 bX, .int .i64 bY], .agg #[.int .i64 dX, .int .i64 dY], .agg #[.int .i64 (bX - dX), .int .i64 (bY - dY)], .agg #[.int .i64 cX, .int .i64 cY], .agg #[.int .i64 dX, .int .i64 dY], .agg #[.int .i64 (cX - dX), .int .i64 (cY - dY)], undef, undef, undef, undef, undef, undef, undef, undef, undef, undef, undef, undef, undef, undef, undef, undef, undef, undef, undef, undef, undef, undef, undef, undef, undef, undef, undef, undef, undef, undef, undef], []⟩ : Act) w1) := Lib.hid (by
    intro w1 H g0 b0 g1 b1 g2 b2 d01 d02 d12
    rw [hR.out]
    refine wpAnyH_ready (rs := [13]) (by kernel_rfl) (by simp) ?_
    refine AllReadyH.cons rfl (fun K hK => ?_) AllReadyH.nil
    obtain ⟨q, l, c0, c1, f0, f1⟩ := b1.out
    go_simp
    refine hK.out _ _ ?_ (fun _ => ?_)
    · exact Hld.set (Hld.set H (by simp; omega) _) (by simp; omega) _
    have H2 : Hld ((((w.alloc (Obj.cells #[.int .i64 (aX), .int .i64 (aY)] 28)).alloc (Obj.cells #[.int .i64 (bX), .int .i64 (bY)] 28)).alloc (Obj.cells #[.int .i64 (cX), .int .i64 (cY)] 28)).alloc (Obj.cells #[.int .i64 (dX), .int .i64 (dY)] 28)) ((w1.setCell ⟨g1, 0, none⟩ (.int .i64 (bX - dX))).setCell ⟨g1, 1, none⟩ (.int .i64 (bY - dY))) := Hld.set (Hld.set H (by simp; omega) _) (by simp; omega) _
    clear hK K
    rw [← hR.out]
    exact P3_012_2.out _ H2 _ (b0.out.other (by omega) _ _) _ (b1.out.own _ _) _ (b2.out.other (by omega) _ _) (d01) (d02) (d12))
  have P3_012_0 : Hid (∀ (w1 : World) (H : Hld ((((w.alloc (Obj.cells #[.int .i64 (aX), .int .i64 (aY)] 28)).alloc (Obj.cells #[.int .i64 (bX), .int .i64 (bY)] 28)).alloc (Obj.cells #[.int .i64 (cX), .int .i64 (cY)] 28)).alloc (Obj.cells #[.int .i64 (dX), .int .i64 (dY)] 28)) w1) (g0 : Nat) (b0 : Hid (Box2 (w.heap.size + 4) w1 g0 0 0)) (g1 : Nat) (b1 : Hid (Box2 (w.heap.size + 4) w1 g1 0 0)) (g2 : Nat) (b2 : Hid (Box2 (w.heap.size + 4) w1 g2 0 0)) (d01 : ¬ g0 = g1) (d02 : ¬ g0 = g2) (d12 : ¬ g1 = g2), R 3 #[true, true, true, true, true, true, true, true, true, true, true, true, false, false, false] (⟨#[.agg #[.int .i64 aX, .int .i64 aY], .agg #[.int .i64 bX, .int .i64 bY], .agg #[.int .i64 cX, .int .i64 cY], .agg #[.int .i64 dX, .int .i64 dY], .pointer (some ⟨w.heap.size, 0, none⟩), .pointer (some ⟨w.heap.size + 1, 0, none⟩), .pointer (some ⟨w.heap.size + 1 + 1, 0, none⟩), .pointer (some ⟨w.heap.size + 1 + 1 + 1, 0, none⟩), .int .i64 0, .pointer (some ⟨g0, 0, none⟩), .pointer (some ⟨g1, 0, none⟩), .pointer (some ⟨g2, 0, none⟩), undef, .agg #[.int .i64 aX, .int .i64 aY], .agg #[.int .i64 dX, .int .i64 dY], .agg #[.int .i64 (aX - dX), .int .i64 (aY - dY)], .agg #[.int .i64 bX, .int .i64 bY], .agg #[.int .i64 dX, .int .i64 dY], .agg #[.int .i64 (bX - dX), .int .i64 (bY - dY)], .agg #[.int .i64 cX, .int .i64 cY], .agg #[.int .i64 dX, .int .i64 dY], .agg #[.int .i64 (cX - dX), .int .i64 (cY - dY)], undef, undef, undef, undef, undef, undef, undef, undef, undef, undef, undef, undef, undef, undef, undef, undef, undef, undef, undef, undef, undef, undef, undef, undef, undef, undef, undef, undef, undef, undef, undef], []⟩ : Act) w1) := Lib.hid (by
    intro w1 H g0 b0 g1 b1 g2 b2 d01 d02 d12
    rw [hR.out]
    refine wpAnyH_ready (rs := [12]) (by kernel_rfl) (by simp) ?_
    refine AllReadyH.cons rfl (fun K hK => ?_) AllReadyH.nil
    obtain ⟨q, l, c0, c1, f0, f1⟩ := b0.out
    go_simp
    refine hK.out _ _ ?_ (fun _ => ?_)
    · exact Hld.set (Hld.set H (by simp; omega) _) (by simp; omega) _
    have H2 : Hld ((((w.alloc (Obj.cells #[.int .i64 (aX), .int .i64 (aY)] 28)).alloc (Obj.cells #[.int .i64 (bX), .int .i64 (bY)] 28)).alloc (Obj.cells #[.int .i64 (cX), .int .i64 (cY)] 28)).alloc (Obj.cells #[.int .i64 (dX), .int .i64 (dY)] 28)) ((w1.setCell ⟨g0, 0, none⟩ (.int .i64 (aX - dX))).setCell ⟨g0, 1, none⟩ (.int .i64 (aY - dY))) := Hld.set (Hld.set H (by simp; omega) _) (by simp; omega) _
    clear hK K
    rw [← hR.out]
    exact P3_012_1.out _ H2 _ (b0.out.own _ _) _ (b1.out.other (by omega) _ _) _ (b2.out.other (by omega) _ _) (d01) (d02) (d12))
  have P3_01_0 : Hid (∀ (w1 : World) (H : Hld ((((w.alloc (Obj.cells #[.int .i64 (aX), .int .i64 (aY)] 28)).alloc (Obj.cells #[.int .i64 (bX), .int .i64 (bY)] 28)).alloc (Obj.cells #[.int .i64 (cX), .int .i64 (cY)] 28)).alloc (Obj.cells #[.int .i64 (dX), .int .i64 (dY)] 28)) w1) (g0 : Nat) (b0 : Hid (Box2 (w.heap.size + 4) w1 g0 0 0)) (g1 : Nat) (b1 : Hid (Box2 (w.heap.size + 4) w1 g1 0 0)) (d01 : ¬ g0 = g1), R 4 #[true, true, true, true, true, true, true, true, true, true, true, false, false, false, false] (⟨#[.agg #[.int .i64 aX, .int .i64 aY], .agg #[.int .i64 bX, .int .i64 bY], .agg #[.int .i64 cX, .int .i64 cY], .agg #[.int .i64 dX, .int .i64 dY], .pointer (some ⟨w.heap.size, 0, none⟩), .pointer (some ⟨w.heap.size + 1, 0, none⟩), .pointer (some ⟨w.heap.size + 1 + 1, 0, none⟩), .pointer (some ⟨w.heap.size + 1 + 1 + 1, 0, none⟩), .int .i64 0, .pointer (some ⟨g0, 0, none⟩), .pointer (some ⟨g1, 0, none⟩), undef, undef, .agg #[.int .i64 aX, .int .i64 aY], .agg #[.int .i64 dX, .int .i64 dY], .agg #[.int .i64 (aX - dX), .int .i64 (aY - dY)], .agg #[.int .i64 bX, .int .i64 bY], .agg #[.int .i64 dX, .int .i64 dY], .agg #[.int .i64 (bX - dX), .int .i64 (bY - dY)], .agg #[.int .i64 cX, .int .i64 cY], .agg #[.int .i64 dX, .int .i64 dY], .agg #[.int .i64 (cX - dX), .int .i64 (cY - dY)], undef, undef, undef, undef, undef, undef, undef, undef, undef, undef, undef, undef, undef, undef, undef, undef, undef, undef, undef, undef, undef, undef, undef, undef, undef, undef, undef, undef, undef, undef, undef], []⟩ : Act) w1) := Lib.hid (by
    intro w1 H g0 b0 g1 b1 d01
    rw [hR.out]
    refine wpAnyH_ready (rs := [11]) (by kernel_rfl) (by simp) ?_
    refine AllReadyH.cons rfl (fun K hK => ?_) ?_
    · go_simp
      refine hK.out _ _ (Hld.alloc H _) (fun _ => ?_)
      clear hK K
      rw [← hR.out]
      exact P3_012_0.out _ (Hld.alloc H _) _ (b0.out.alloc _) _ (b1.out.alloc _) _ (Box2.new (HB0.out w1 H) 0 0 _) (d01) (b0.out.ne) (b1.out.ne)
    exact AllReadyH.nil)
  have P3_02_0 : Hid (∀ (w1 : World) (H : Hld ((((w.alloc (Obj.cells #[.int .i64 (aX), .int .i64 (aY)] 28)).alloc (Obj.cells #[.int .i64 (bX), .int .i64 (bY)] 28)).alloc (Obj.cells #[.int .i64 (cX), .int .i64 (cY)] 28)).alloc (Obj.cells #[.int .i64 (dX), .int .i64 (dY)] 28)) w1) (g0 : Nat) (b0 : Hid (Box2 (w.heap.size + 4) w1 g0 0 0)) (g2 : Nat) (b2 : Hid (Box2 (w.heap.size + 4) w1 g2 0 0)) (d02 : ¬ g0 = g2), R 4 #[true, true, true, true, true, true, true, true, true, true, false, true, false, false, false] (⟨#[.agg #[.int .i64 aX, .int .i64 aY], .agg #[.int .i64 bX, .int .i64 bY], .agg #[.int .i64 cX, .int .i64 cY], .agg #[.int .i64 dX, .int .i64 dY], .pointer (some ⟨w.heap.size, 0, none⟩), .pointer (some ⟨w.heap.size + 1, 0, none⟩), .pointer (some ⟨w.heap.size + 1 + 1, 0, none⟩), .pointer (some ⟨w.heap.size + 1 + 1 + 1, 0, none⟩), .int .i64 0, .pointer (some ⟨g0, 0, none⟩), undef, .pointer (some ⟨g2, 0, none⟩), undef, .agg #[.int .i64 aX, .int .i64 aY], .agg #[.int .i64 dX, .int .i64 dY], .agg #[.int .i64 (aX - dX), .int .i64 (aY - dY)], .agg #[.int .i64 bX, .int .i64 bY], .agg #[.int .i64 dX, .int .i64 dY], .agg #[.int .i64 (bX - dX), .int .i64 (bY - dY)], .agg #[.int .i64 cX, .int .i64 cY], .agg #[.int .i64 dX, .int .i64 dY], .agg #[.int .i64 (cX - dX), .int .i64 (cY - dY)], undef, undef, undef, undef, undef, undef, undef, undef, undef, undef, undef, undef, undef, undef, undef, undef, undef, undef, undef, undef, undef, undef, undef, undef, undef, undef, undef, undef, undef, undef, undef], []⟩ : Act) w1) := Lib.hid (by
    intro w1 H g0 b0 g2 b2 d02
    rw [hR.out]
    refine wpAnyH_ready (rs := [10]) (by kernel_rfl) (by simp) ?_
    refine AllReadyH.cons rfl (fun K hK => ?_) ?_
    · go_simp
      refine hK.out _ _ (Hld.alloc H _) (fun _ => ?_)
      clear hK K
      rw [← hR.out]
      exact P3_012_0.out _ (Hld.alloc H _) _ (b0.out.alloc _) _ (Box2.new (HB0.out w1 H) 0 0 _) _ (b2.out.alloc _) (b0.out.ne) (d02) (fun h => b2.out.ne h.symm)
    exact AllReadyH.nil)
  have P3_12_0 : Hid (∀ (w1 : World) (H : Hld ((((w.alloc (Obj.cells #[.int .i64 (aX), .int .i64 (aY)] 28)).alloc (Obj.cells #[.int .i64 (bX), .int .i64 (bY)] 28)).alloc (Obj.cells #[.int .i64 (cX), .int .i64 (cY)] 28)).alloc (Obj.cells #[.int .i64 (dX), .int .i64 (dY)] 28)) w1) (g1 : Nat) (b1 : Hid (Box2 (w.heap.size + 4) w1 g1 0 0)) (g2 : Nat) (b2 : Hid (Box2 (w.heap.size + 4) w1 g2 0 0)) (d12 : ¬ g1 = g2), R 4 #[true, true, true, true, true, true, true, true, true, false, true, true, false, false, false] (⟨#[.agg #[.int .i64 aX, .int .i64 aY], .agg #[.int .i64 bX, .int .i64 bY], .agg #[.int .i64 cX, .int .i64 cY], .agg #[.int .i64 dX, .int .i64 dY], .pointer (some ⟨w.heap.size, 0, none⟩), .pointer (some ⟨w.heap.size + 1, 0, none⟩), .pointer (some ⟨w.heap.size + 1 + 1, 0, none⟩), .pointer (some ⟨w.heap.size + 1 + 1 + 1, 0, none⟩), .int .i64 0, undef, .pointer (some ⟨g1, 0, none⟩), .pointer (some ⟨g2, 0, none⟩), undef, .agg #[.int .i64 aX, .int .i64 aY], .agg #[.int .i64 dX, .int .i64 dY], .agg #[.int .i64 (aX - dX), .int .i64 (aY - dY)], .agg #[.int .i64 bX, .int .i64 bY], .agg #[.int .i64 dX, .int .i64 dY], .agg #[.int .i64 (bX - dX), .int .i64 (bY - dY)], .agg #[.int .i64 cX, .int .i64 cY], .agg #[.int .i64 dX, .int .i64 dY], .agg #[.int .i64 (cX - dX), .int .i64 (cY - dY)], undef, undef, undef, undef, undef, undef, undef, undef, undef, undef, undef, undef, undef, undef, undef, undef, undef, undef, undef, undef, undef, undef, undef, undef, undef, undef, undef, undef, undef, undef, undef], []⟩ : Act) w1) := Lib.hid (by
    intro w1 H g1 b1 g2 b2 d12
    rw [hR.out]
    refine wpAnyH_ready (rs := [9]) (by kernel_rfl) (by simp) ?_
    refine AllReadyH.cons rfl (fun K hK => ?_) ?_
    · go_simp
      refine hK.out _ _ (Hld.alloc H _) (fun _ => ?_)
      clear hK K
      rw [← hR.out]
      exact P3_012_0.out _ (Hld.alloc H _) _ (Box2.new (HB0.out w1 H) 0 0 _) _ (b1.out.alloc _) _ (b2.out.alloc _) (fun h => b1.out.ne h.symm) (fun h => b2.out.ne h.symm) (d12)
    exact AllReadyH.nil)
  have P3_0_0 : Hid (∀ (w1 : World) (H : Hld ((((w.alloc (Obj.cells #[.int .i64 (aX), .int .i64 (aY)] 28)).alloc (Obj.cells #[.int .i64 (bX), .int .i64 (bY)] 28)).alloc (Obj.cells #[.int .i64 (cX), .int .i64 (cY)] 28)).alloc (Obj.cells #[.int .i64 (dX), .int .i64 (dY)] 28)) w1) (g0 : Nat) (b0 : Hid (Box2 (w.heap.size + 4) w1 g0 0 0)), R 5 #[true, true, true, true, true, true, true, true, true, true, false, false, false, false, false] (⟨#[.agg #[.int .i64 aX, .int .i64 aY], .agg #[.int .i64 bX, .int .i64 bY], .agg #[.int .i64 cX, .int .i64 cY], .agg #[.int .i64 dX, .int .i64 dY], .pointer (some ⟨w.heap.size, 0, none⟩), .pointer (some ⟨w.heap.size + 1, 0, none⟩), .pointer (some ⟨w.heap.size + 1 + 1, 0, none⟩), .pointer (some ⟨w.heap.size + 1 + 1 + 1, 0, none⟩), .int .i64 0, .pointer (some ⟨g0, 0, none⟩), undef, undef, undef, .agg #[.int .i64 aX, .int .i64 aY], .agg #[.int .i64 dX, .int .i64 dY], .agg #[.int .i64 (aX - dX), .int .i64 (aY - dY)], .agg #[.int .i64 bX, .int .i64 bY], .agg #[.int .i64 dX, .int .i64 dY], .agg #[.int .i64 (bX - dX), .int .i64 (bY - dY)], .agg #[.int .i64 cX, .int .i64 cY], .agg #[.int .i64 dX, .int .i64 dY], .agg #[.int .i64 (cX - dX), .int .i64 (cY - dY)], undef, undef, undef, undef, undef, undef, undef, undef, undef, undef, undef, undef, undef, undef, undef, undef, undef, undef, undef, undef, undef, undef, undef, undef, undef, undef, undef, undef, undef, undef, undef], []⟩ : Act) w1) := Lib.hid (by
    intro w1 H g0 b0
    rw [hR.out]
    refine wpAnyH_ready (rs := [10, 11]) (by kernel_rfl) (by simp) ?_
    refine AllReadyH.cons rfl (fun K hK => ?_) ?_
    · go_simp
      refine hK.out _ _ (Hld.alloc H _) (fun _ => ?_)
      clear hK K
      rw [← hR.out]
      exact P3_01_0.out _ (Hld.alloc H _) _ (b0.out.alloc _) _ (Box2.new (HB0.out w1 H) 0 0 _) (b0.out.ne)
    refine AllReadyH.cons rfl (fun K hK => ?_) ?_
    · go_simp
      refine hK.out _ _ (Hld.alloc H _) (fun _ => ?_)
      clear hK K
      rw [← hR.out]
      exact P3_02_0.out _ (Hld.alloc H _) _ (b0.out.alloc _) _ (Box2.new (HB0.out w1 H) 0 0 _) (b0.out.ne)
    exact AllReadyH.nil)
  have P3_1_0 : Hid (∀ (w1 : World) (H : Hld ((((w.alloc (Obj.cells #[.int .i64 (aX), .int .i64 (aY)] 28)).alloc (Obj.cells #[.int .i64 (bX), .int .i64 (bY)] 28)).alloc (Obj.cells #[.int .i64 (cX), .int .i64 (cY)] 28)).alloc (Obj.cells #[.int .i64 (dX), .int .i64 (dY)] 28)) w1) (g1 : Nat) (b1 : Hid (Box2 (w.heap.size + 4) w1 g1 0 0)), R 5 #[true, true, true, true, true, true, true, true, true, false, true, false, false, false, false] (⟨#[.agg #[.int .i64 aX, .int .i64 aY], .agg #[.int .i64 bX, .int .i64 bY], .agg #[.int .i64 cX, .int .i64 cY], .agg #[.int .i64 dX, .int .i64 dY], .pointer (some ⟨w.heap.size, 0, none⟩), .pointer (some ⟨w.heap.size + 1, 0, none⟩), .pointer (some ⟨w.heap.size + 1 + 1, 0, none⟩), .pointer (some ⟨w.heap.size + 1 + 1 + 1, 0, none⟩), .int .i64 0, undef, .pointer (some ⟨g1, 0, none⟩), undef, undef, .agg #[.int .i64 aX, .int .i64 aY], .agg #[.int .i64 dX, .int .i64 dY], .agg #[.int .i64 (aX - dX), .int .i64 (aY - dY)], .agg #[.int .i64 bX, .int .i64 bY], .agg #[.int .i64 dX, .int .i64 dY], .agg #[.int .i64 (bX - dX), .int .i64 (bY - dY)], .agg #[.int .i64 cX, .int .i64 cY], .agg #[.int .i64 dX, .int .i64 dY], .agg #[.int .i64 (cX - dX), .int .i64 (cY - dY)], undef, undef, undef, undef, undef, undef, undef, undef, undef, undef, undef, undef, undef, undef, undef, undef, undef, undef, undef, undef, undef, undef, undef, undef, undef, undef, undef, undef, undef, undef, undef], []⟩ : Act) w1) := Lib.hid (by
    intro w1 H g1 b1
    rw [hR.out]
    refine wpAnyH_ready (rs := [9, 11]) (by kernel_rfl) (by simp) ?_
    refine AllReadyH.cons rfl (fun K hK => ?_) ?_
    · go_simp
      refine hK.out _ _ (Hld.alloc H _) (fun _ => ?_)
      clear hK K
      rw [← hR.out]
      exact P3_01_0.out _ (Hld.alloc H _) _ (Box2.new (HB0.out w1 H) 0 0 _) _ (b1.out.alloc _) (fun h => b1.out.ne h.symm)
    refine AllReadyH.cons rfl (fun K hK => ?_) ?_
    · go_simp
      refine hK.out _ _ (Hld.alloc H _) (fun _ => ?_)
      clear hK K
      rw [← hR.out]
      exact P3_12_0.out _ (Hld.alloc H _) _ (b1.out.alloc _) _ (Box2.new (HB0.out w1 H) 0 0 _) (b1.out.ne)
    exact AllReadyH.nil)
  have P3_2_0 : Hid (∀ (w1 : World) (H : Hld ((((w.alloc (Obj.cells #[.int .i64 (aX), .int .i64 (aY)] 28)).alloc (Obj.cells #[.int .i64 (bX), .int .i64 (bY)] 28)).alloc (Obj.cells #[.int .i64 (cX), .int .i64 (cY)] 28)).alloc (Obj.cells #[.int .i64 (dX), .int .i64 (dY)] 28)) w1) (g2 : Nat) (b2 : Hid (Box2 (w.heap.size + 4) w1 g2 0 0)), R 5 #[true, true, true, true, true, true, true, true, true, false, false, true, false, false, false] (⟨#[.agg #[.int .i64 aX, .int .i64 aY], .agg #[.int .i64 bX, .int .i64 bY], .agg #[.int .i64 cX, .int .i64 cY], .agg #[.int .i64 dX, .int .i64 dY], .pointer (some ⟨w.heap.size, 0, none⟩), .pointer (some ⟨w.heap.size + 1, 0, none⟩), .pointer (some ⟨w.heap.size + 1 + 1, 0, none⟩), .pointer (some ⟨w.heap.size + 1 + 1 + 1, 0, none⟩), .int .i64 0, undef, undef, .pointer (some ⟨g2, 0, none⟩), undef, .agg #[.int .i64 aX, .int .i64 aY], .agg #[.int .i64 dX, .int .i64 dY], .agg #[.int .i64 (aX - dX), .int .i64 (aY - dY)], .agg #[.int .i64 bX, .int .i64 bY], .agg #[.int .i64 dX, .int .i64 dY], .agg #[.int .i64 (bX - dX), .int .i64 (bY - dY)], .agg #[.int .i64 cX, .int .i64 cY], .agg #[.int .i64 dX, .int .i64 dY], .agg #[.int .i64 (cX - dX), .int .i64 (cY - dY)], undef, undef, undef, undef, undef, undef, undef, undef, undef, undef, undef, undef, undef, undef, undef, undef, undef, undef, undef, undef, undef, undef, undef, undef, undef, undef, undef, undef, undef, undef, undef], []⟩ : Act) w1) := Lib.hid (by
    intro w1 H g2 b2
    rw [hR.out]
    refine wpAnyH_ready (rs := [9, 10]) (by kernel_rfl) (by simp) ?_
    refine AllReadyH.cons rfl (fun K hK => ?_) ?_
    · go_simp
      refine hK.out _ _ (Hld.alloc H _) (fun _ => ?_)
      clear hK K
      rw [← hR.out]
      exact P3_02_0.out _ (Hld.alloc H _) _ (Box2.new (HB0.out w1 H) 0 0 _) _ (b2.out.alloc _) (fun h => b2.out.ne h.symm)
    refine AllReadyH.cons rfl (fun K hK => ?_) ?_
    · go_simp
      refine hK.out _ _ (Hld.alloc H _) (fun _ => ?_)
      clear hK K
      rw [← hR.out]
      exact P3_12_0.out _ (Hld.alloc H _) _ (Box2.new (HB0.out w1 H) 0 0 _) _ (b2.out.alloc _) (fun h => b2.out.ne h.symm)
    exact AllReadyH.nil)
  have P3_n_0 : Hid (∀ (w1 : World) (H : Hld ((((w.alloc (Obj.cells #[.int .i64 (aX), .int .i64 (aY)] 28)).alloc (Obj.cells #[.int .i64 (bX), .int .i64 (bY)] 28)).alloc (Obj.cells #[.int .i64 (cX), .int .i64 (cY)] 28)).alloc (Obj.cells #[.int .i64 (dX), .int .i64 (dY)] 28)) w1), R 6 #[true, true, true, true, true, true, true, true, true, false, false, false, false, false, false] (⟨#[.agg #[.int .i64 aX, .int .i64 aY], .agg #[.int .i64 bX, .int .i64 bY], .agg #[.int .i64 cX, .int .i64 cY], .agg #[.int .i64 dX, .int .i64 dY], .pointer (some ⟨w.heap.size, 0, none⟩), .pointer (some ⟨w.heap.size + 1, 0, none⟩), .pointer (some ⟨w.heap.size + 1 + 1, 0, none⟩), .pointer (some ⟨w.heap.size + 1 + 1 + 1, 0, none⟩), .int .i64 0, undef, undef, undef, undef, .agg #[.int .i64 aX, .int .i64 aY], .agg #[.int .i64 dX, .int .i64 dY], .agg #[.int .i64 (aX - dX), .int .i64 (aY - dY)], .agg #[.int .i64 bX, .int .i64 bY], .agg #[.int .i64 dX, .int .i64 dY], .agg #[.int .i64 (bX - dX), .int .i64 (bY - dY)], .agg #[.int .i64 cX, .int .i64 cY], .agg #[.int .i64 dX, .int .i64 dY], .agg #[.int .i64 (cX - dX), .int .i64 (cY - dY)], undef, undef, undef, undef, undef, undef, undef, undef, undef, undef, undef, undef, undef, undef, undef, undef, undef, undef, undef, undef, undef, undef, undef, undef, undef, undef, undef, undef, undef, undef, undef], []⟩ : Act) w1) := Lib.hid (by
    intro w1 H
    rw [hR.out]
    refine wpAnyH_ready (rs := [9, 10, 11]) (by kernel_rfl) (by simp) ?_
    refine AllReadyH.cons rfl (fun K hK => ?_) ?_
    · go_simp
      refine hK.out _ _ (Hld.alloc H _) (fun _ => ?_)
      clear hK K
      rw [← hR.out]
      exact P3_0_0.out _ (Hld.alloc H _) _ (Box2.new (HB0.out w1 H) 0 0 _)
    refine AllReadyH.cons rfl (fun K hK => ?_) ?_
    · go_simp
      refine hK.out _ _ (Hld.alloc H _) (fun _ => ?_)
      clear hK K
      rw [← hR.out]
      exact P3_1_0.out _ (Hld.alloc H _) _ (Box2.new (HB0.out w1 H) 0 0 _)
    refine AllReadyH.cons rfl (fun K hK => ?_) ?_
    · go_simp
      refine hK.out _ _ (Hld.alloc H _) (fun _ => ?_)
      clear hK K
      rw [← hR.out]
      exact P3_2_0.out _ (Hld.alloc H _) _ (Box2.new (HB0.out w1 H) 0 0 _)
    exact AllReadyH.nil)
  have P2_012_0 : Hid (∀ (w1 : World) (H : Hld ((((w.alloc (Obj.cells #[.int .i64 (aX), .int .i64 (aY)] 28)).alloc (Obj.cells #[.int .i64 (bX), .int .i64 (bY)] 28)).alloc (Obj.cells #[.int .i64 (cX), .int .i64 (cY)] 28)).alloc (Obj.cells #[.int .i64 (dX), .int .i64 (dY)] 28)) w1) (g0 : Nat) (b0 : Hid (Box2 (w.heap.size + 4) w1 g0 0 0)) (g1 : Nat) (b1 : Hid (Box2 (w.heap.size + 4) w1 g1 0 0)) (g2 : Nat) (b2 : Hid (Box2 (w.heap.size + 4) w1 g2 0 0)) (d01 : ¬ g0 = g1) (d02 : ¬ g0 = g2) (d12 : ¬ g1 = g2), R 4 #[true, true, true, true, true, true, true, true, false, true, true, true, false, false, false] (⟨#[.agg #[.int .i64 aX, .int .i64 aY], .agg #[.int .i64 bX, .int .i64 bY], .agg #[.int .i64 cX, .int .i64 cY], .agg #[.int .i64 dX, .int .i64 dY], .pointer (some ⟨w.heap.size, 0, none⟩), .pointer (some ⟨w.heap.size + 1, 0, none⟩), .pointer (some ⟨w.heap.size + 1 + 1, 0, none⟩), .pointer (some ⟨w.heap.size + 1 + 1 + 1, 0, none⟩), .int .i64 0, .pointer (some ⟨g0, 0, none⟩), .pointer (some ⟨g1, 0, none⟩), .pointer (some ⟨g2, 0, none⟩), undef, .agg #[.int .i64 aX, .int .i64 aY], .agg #[.int .i64 dX, .int .i64 dY], .agg #[.int .i64 (aX - dX), .int .i64 (aY - dY)], .agg #[.int .i64 bX, .int .i64 bY], .agg #[.int .i64 dX, .int .i64 dY], .agg #[.int .i64 (bX - dX), .int .i64 (bY - dY)], .agg #[.int .i64 cX, .int .i64 cY], .agg #[.int .i64 dX, .int .i64 dY], undef, undef, undef, undef, undef, undef, undef, undef, undef, undef, undef, undef, undef, undef, undef, undef, undef, undef, undef, undef, undef, undef, undef, undef, undef, undef, undef, undef, undef, undef, undef, undef], []⟩ : Act) w1) := Lib.hid (by
    intro w1 H g0 b0 g1 b1 g2 b2 d01 d02 d12
    rw [hR.out]
    refine wpAnyH_ready (rs := [8]) (by kernel_rfl) (by simp) ?_
    refine AllReadyH.cons rfl (fun K hK => ?_) ?_
    · go_simp
      refine (K3.out _).mono ?_
      rintro e w2 ⟨rfl, b9⟩
      have H2 := Hld.call H b9
      go_wp2_with fail
      refine hK.out _ _ H2 (fun _ => ?_)
      clear hK K
      rw [← hR.out]
      exact P3_012_0.out _ H2 _ (b0.out.below b9) _ (b1.out.below b9) _ (b2.out.below b9) (d01) (d02) (d12)
    exact AllReadyH.nil)
  have P2_01_0 : Hid (∀ (w1 : World) (H : Hld ((((w.alloc (Obj.cells #[.int .i64 (aX), .int .i64 (aY)] 28)).alloc (Obj.cells #[.int .i64 (bX), .int .i64 (bY)] 28)).alloc (Obj.cells #[.int .i64 (cX), .int .i64 (cY)] 28)).alloc (Obj.cells #[.int .i64 (dX), .int .i64 (dY)] 28)) w1) (g0 : Nat) (b0 : Hid (Box2 (w.heap.size + 4) w1 g0 0 0)) (g1 : Nat) (b1 : Hid (Box2 (w.heap.size + 4) w1 g1 0 0)) (d01 : ¬ g0 = g1), R 5 #[true, true, true, true, true, true, true, true, false, true, true, false, false, false, false] (⟨#[.agg #[.int .i64 aX, .int .i64 aY], .agg #[.int .i64 bX, .int .i64 bY], .agg #[.int .i64 cX, .int .i64 cY], .agg #[.int .i64 dX, .int .i64 dY], .pointer (some ⟨w.heap.size, 0, none⟩), .pointer (some ⟨w.heap.size + 1, 0, none⟩), .pointer (some ⟨w.heap.size + 1 + 1, 0, none⟩), .pointer (some ⟨w.heap.size + 1 + 1 + 1, 0, none⟩), .int .i64 0, .pointer (some ⟨g0, 0, none⟩), .pointer (some ⟨g1, 0, none⟩), undef, undef, .agg #[.int .i64 aX, .int .i64 aY], .agg #[.int .i64 dX, .int .i64 dY], .agg #[.int .i64 (aX - dX), .int .i64 (aY - dY)], .agg #[.int .i64 bX, .int .i64 bY], .agg #[.int .i64 dX, .int .i64 dY], .agg #[.int .i64 (bX - dX), .int .i64 (bY - dY)], .agg #[.int .i64 cX, .int .i64 cY], .agg #[.int .i64 dX, .int .i64 dY], undef, undef, undef, undef, undef, undef, undef, undef, undef, undef, undef, undef, undef, undef, undef, undef, undef, undef, undef, undef, undef, undef, undef, undef, undef, undef, undef, undef, undef, undef, undef, undef], []⟩ : Act) w1) := Lib.hid (by
    intro w1 H g0 b0 g1 b1 d01
    rw [hR.out]
    refine wpAnyH_ready (rs := [8, 11]) (by kernel_rfl) (by simp) ?_
    refine AllReadyH.cons rfl (fun K hK => ?_) ?_
    · go_simp
      refine (K3.out _).mono ?_
      rintro e w2 ⟨rfl, b9⟩
      have H2 := Hld.call H b9
      go_wp2_with fail
      refine hK.out _ _ H2 (fun _ => ?_)
      clear hK K
      rw [← hR.out]
      exact P3_01_0.out _ H2 _ (b0.out.below b9) _ (b1.out.below b9) (d01)
    refine AllReadyH.cons rfl (fun K hK => ?_) ?_
    · go_simp
      refine hK.out _ _ (Hld.alloc H _) (fun _ => ?_)
      clear hK K
      rw [← hR.out]
      exact P2_012_0.out _ (Hld.alloc H _) _ (b0.out.alloc _) _ (b1.out.alloc _) _ (Box2.new (HB0.out w1 H) 0 0 _) (d01) (b0.out.ne) (b1.out.ne)
    exact AllReadyH.nil)
  have P2_02_0 : Hid (∀ (w1 : World) (H : Hld ((((w.alloc (Obj.cells #[.int .i64 (aX), .int .i64 (aY)] 28)).alloc (Obj.cells #[.int .i64 (bX), .int .i64 (bY)] 28)).alloc (Obj.cells #[.int .i64 (cX), .int .i64 (cY)] 28)).alloc (Obj.cells #[.int .i64 (dX), .int .i64 (dY)] 28)) w1) (g0 : Nat) (b0 : Hid (Box2 (w.heap.size + 4) w1 g0 0 0)) (g2 : Nat) (b2 : Hid (Box2 (w.heap.size + 4) w1 g2 0 0)) (d02 : ¬ g0 = g2), R 5 #[true, true, true, true, true, true, true, true, false, true, false, true, false, false, false] (⟨#[.agg #[.int .i64 aX, .int .i64 aY], .agg #[.int .i64 bX, .int .i64 bY], .agg #[.int .i64 cX, .int .i64 cY], .agg #[.int .i64 dX, .int .i64 dY], .pointer (some ⟨w.heap.size, 0, none⟩), .pointer (some ⟨w.heap.size + 1, 0, none⟩), .pointer (some ⟨w.heap.size + 1 + 1, 0, none⟩), .pointer (some ⟨w.heap.size + 1 + 1 + 1, 0, none⟩), .int .i64 0, .pointer (some ⟨g0, 0, none⟩), undef, .pointer (some ⟨g2, 0, none⟩), undef, .agg #[.int .i64 aX, .int .i64 aY], .agg #[.int .i64 dX, .int .i64 dY], .agg #[.int .i64 (aX - dX), .int .i64 (aY - dY)], .agg #[.int .i64 bX, .int .i64 bY], .agg #[.int .i64 dX, .int .i64 dY], .agg #[.int .i64 (bX - dX), .int .i64 (bY - dY)], .agg #[.int .i64 cX, .int .i64 cY], .agg #[.int .i64 dX, .int .i64 dY], undef, undef, undef, undef, undef, undef, undef, undef, undef, undef, undef, undef, undef, undef, undef, undef, undef, undef, undef, undef, undef, undef, undef, undef, undef, undef, undef, undef, undef, undef, undef, undef], []⟩ : Act) w1) := Lib.hid (by
    intro w1 H g0 b0 g2 b2 d02
    rw [hR.out]
    refine wpAnyH_ready (rs := [8, 10]) (by kernel_rfl) (by simp) ?_
    refine AllReadyH.cons rfl (fun K hK => ?_) ?_
    · go_simp
      refine (K3.out _).mono ?_
      rintro e w2 ⟨rfl, b9⟩
      have H2 := Hld.call H b9
      go_wp2_with fail
      refine hK.out _ _ H2 (fun _ => ?_)
      clear hK K
      rw [← hR.out]
      exact P3_02_0.out _ H2 _ (b0.out.below b9) _ (b2.out.below b9) (d02)
    refine AllReadyH.cons rfl (fun K hK => ?_) ?_
    · go_simp
      refine hK.out _ _ (Hld.alloc H _) (fun _ => ?_)
      clear hK K
      rw [← hR.out]
      exact P2_012_0.out _ (Hld.alloc H _) _ (b0.out.alloc _) _ (Box2.new (HB0.out w1 H) 0 0 _) _ (b2.out.alloc _) (b0.out.ne) (d02) (fun h => b2.out.ne h.symm)
    exact AllReadyH.nil)
  have P2_12_0 : Hid (∀ (w1 : World) (H : Hld ((((w.alloc (Obj.cells #[.int .i64 (aX), .int .i64 (aY)] 28)).alloc (Obj.cells #[.int .i64 (bX), .int .i64 (bY)] 28)).alloc (Obj.cells #[.int .i64 (cX), .int .i64 (cY)] 28)).alloc (Obj.cells #[.int .i64 (dX), .int .i64 (dY)] 28)) w1) (g1 : Nat) (b1 : Hid (Box2 (w.heap.size + 4) w1 g1 0 0)) (g2 : Nat) (b2 : Hid (Box2 (w.heap.size + 4) w1 g2 0 0)) (d12 : ¬ g1 = g2), R 5 #[true, true, true, true, true, true, true, true, false, false, true, true, false, false, false] (⟨#[.agg #[.int .i64 aX, .int .i64 aY], .agg #[.int .i64 bX, .int .i64 bY], .agg #[.int .i64 cX, .int .i64 cY], .agg #[.int .i64 dX, .int .i64 dY], .pointer (some ⟨w.heap.size, 0, none⟩), .pointer (some ⟨w.heap.size + 1, 0, none⟩), .pointer (some ⟨w.heap.size + 1 + 1, 0, none⟩), .pointer (some ⟨w.heap.size + 1 + 1 + 1, 0, none⟩), .int .i64 0, undef, .pointer (some ⟨g1, 0, none⟩), .pointer (some ⟨g2, 0, none⟩), undef, .agg #[.int .i64 aX, .int .i64 aY], .agg #[.int .i64 dX, .int .i64 dY], .agg #[.int .i64 (aX - dX), .int .i64 (aY - dY)], .agg #[.int .i64 bX, .int .i64 bY], .agg #[.int .i64 dX, .int .i64 dY], .agg #[.int .i64 (bX - dX), .int .i64 (bY - dY)], .agg #[.int .i64 cX, .int .i64 cY], .agg #[.int .i64 dX, .int .i64 dY], undef, undef, undef, undef, undef, undef, undef, undef, undef, undef, undef, undef, undef, undef, undef, undef, undef, undef, undef, undef, undef, undef, undef, undef, undef, undef, undef, undef, undef, undef, undef, undef], []⟩ : Act) w1) := Lib.hid (by
    intro w1 H g1 b1 g2 b2 d12
    rw [hR.out]
    refine wpAnyH_ready (rs := [8, 9]) (by kernel_rfl) (by simp) ?_
    refine AllReadyH.cons rfl (fun K hK => ?_) ?_
    · go_simp
      refine (K3.out _).mono ?_
      rintro e w2 ⟨rfl, b9⟩
      have H2 := Hld.call H b9
      go_wp2_with fail
      refine hK.out _ _ H2 (fun _ => ?_)
      clear hK K
      rw [← hR.out]
      exact P3_12_0.out _ H2 _ (b1.out.below b9) _ (b2.out.below b9) (d12)
    refine AllReadyH.cons rfl (fun K hK => ?_) ?_
    · go_simp
      refine hK.out _ _ (Hld.alloc H _) (fun _ => ?_)
      clear hK K
      rw [← hR.out]
      exact P2_012_0.out _ (Hld.alloc H _) _ (Box2.new (HB0.out w1 H) 0 0 _) _ (b1.out.alloc _) _ (b2.out.alloc _) (fun h => b1.out.ne h.symm) (fun h => b2.out.ne h.symm) (d12)
    exact AllReadyH.nil)
  have P2_0_0 : Hid (∀ (w1 : World) (H : Hld ((((w.alloc (Obj.cells #[.int .i64 (aX), .int .i64 (aY)] 28)).alloc (Obj.cells #[.int .i64 (bX), .int .i64 (bY)] 28)).alloc (Obj.cells #[.int .i64 (cX), .int .i64 (cY)] 28)).alloc (Obj.cells #[.int .i64 (dX), .int .i64 (dY)] 28)) w1) (g0 : Nat) (b0 : Hid (Box2 (w.heap.size + 4) w1 g0 0 0)), R 6 #[true, true, true, true, true, true, true, true, false, true, false, false, false, false, false] (⟨#[.agg #[.int .i64 aX, .int .i64 aY], .agg #[.int .i64 bX, .int .i64 bY], .agg #[.int .i64 cX, .int .i64 cY], .agg #[.int .i64 dX, .int .i64 dY], .pointer (some ⟨w.heap.size, 0, none⟩), .pointer (some ⟨w.heap.size + 1, 0, none⟩), .pointer (some ⟨w.heap.size + 1 + 1, 0, none⟩), .pointer (some ⟨w.heap.size + 1 + 1 + 1, 0, none⟩), .int .i64 0, .pointer (some ⟨g0, 0, none⟩), undef, undef, undef, .agg #[.int .i64 aX, .int .i64 aY], .agg #[.int .i64 dX, .int .i64 dY], .agg #[.int .i64 (aX - dX), .int .i64 (aY - dY)], .agg #[.int .i64 bX, .int .i64 bY], .agg #[.int .i64 dX, .int .i64 dY], .agg #[.int .i64 (bX - dX), .int .i64 (bY - dY)], .agg #[.int .i64 cX, .int .i64 cY], .agg #[.int .i64 dX, .int .i64 dY], undef, undef, undef, undef, undef, undef, undef, undef, undef, undef, undef, undef, undef, undef, undef, undef, undef, undef, undef, undef, undef, undef, undef, undef, undef, undef, undef, undef, undef, undef, undef, undef], []⟩ : Act) w1) := Lib.hid (by
    intro w1 H g0 b0
    rw [hR.out]
    refine wpAnyH_ready (rs := [8, 10, 11]) (by kernel_rfl) (by simp) ?_
    refine AllReadyH.cons rfl (fun K hK => ?_) ?_
    · go_simp
      refine (K3.out _).mono ?_
      rintro e w2 ⟨rfl, b9⟩
      have H2 := Hld.call H b9
      go_wp2_with fail
      refine hK.out _ _ H2 (fun _ => ?_)
      clear hK K
      rw [← hR.out]
      exact P3_0_0.out _ H2 _ (b0.out.below b9)
    refine AllReadyH.cons rfl (fun K hK => ?_) ?_
    · go_simp
      refine hK.out _ _ (Hld.alloc H _) (fun _ => ?_)
      clear hK K
      rw [← hR.out]
      exact P2_01_0.out _ (Hld.alloc H _) _ (b0.out.alloc _) _ (Box2.new (HB0.out w1 H) 0 0 _) (b0.out.ne)
    refine AllReadyH.cons rfl (fun K hK => ?_) ?_
    · go_simp
      refine hK.out _ _ (Hld.alloc H _) (fun _ => ?_)
      clear hK K
      rw [← hR.out]
      exact P2_02_0.out _ (Hld.alloc H _) _ (b0.out.alloc _) _ (Box2.new (HB0.out w1 H) 0 0 _) (b0.out.ne)
    exact AllReadyH.nil)
  have P2_1_0 : Hid (∀ (w1 : World) (H : Hld ((((w.alloc (Obj.cells #[.int .i64 (aX), .int .i64 (aY)] 28)).alloc (Obj.cells #[.int .i64 (bX), .int .i64 (bY)] 28)).alloc (Obj.cells #[.int .i64 (cX), .int .i64 (cY)] 28)).alloc (Obj.cells #[.int .i64 (dX), .int .i64 (dY)] 28)) w1) (g1 : Nat) (b1 : Hid (Box2 (w.heap.size + 4) w1 g1 0 0)), R 6 #[true, true, true, true, true, true, true, true, false, false, true, false, false, false, false] (⟨#[.agg #[.int .i64 aX, .int .i64 aY], .agg #[.int .i64 bX, .int .i64 bY], .agg #[.int .i64 cX, .int .i64 cY], .agg #[.int .i64 dX, .int .i64 dY], .pointer (some ⟨w.heap.size, 0, none⟩), .pointer (some ⟨w.heap.size + 1, 0, none⟩), .pointer (some ⟨w.heap.size + 1 + 1, 0, none⟩), .pointer (some ⟨w.heap.size + 1 + 1 + 1, 0, none⟩), .int .i64 0, undef, .pointer (some ⟨g1, 0, none⟩), undef, undef, .agg #[.int .i64 aX, .int .i64 aY], .agg #[.int .i64 dX, .int .i64 dY], .agg #[.int .i64 (aX - dX), .int .i64 (aY - dY)], .agg #[.int .i64 bX, .int .i64 bY], .agg #[.int .i64 dX, .int .i64 dY], .agg #[.int .i64 (bX - dX), .int .i64 (bY - dY)], .agg #[.int .i64 cX, .int .i64 cY], .agg #[.int .i64 dX, .int .i64 dY], undef, undef, undef, undef, undef, undef, undef, undef, undef, undef, undef, undef, undef, undef, undef, undef, undef, undef, undef, undef, undef, undef, undef, undef, undef, undef, undef, undef, undef, undef, undef, undef], []⟩ : Act) w1) := Lib.hid (by
    intro w1 H g1 b1
    rw [hR.out]
    refine wpAnyH_ready (rs := [8, 9, 11]) (by kernel_rfl) (by simp) ?_
    refine AllReadyH.cons rfl (fun K hK => ?_) ?_
    · go_simp
      refine (K3.out _).mono ?_
      rintro e w2 ⟨rfl, b9⟩
      have H2 := Hld.call H b9
      go_wp2_with fail
      refine hK.out _ _ H2 (fun _ => ?_)
      clear hK K
      rw [← hR.out]
      exact P3_1_0.out _ H2 _ (b1.out.below b9)
    refine AllReadyH.cons rfl (fun K hK => ?_) ?_
    · go_simp
      refine hK.out _ _ (Hld.alloc H _) (fun _ => ?_)
      clear hK K
      rw [← hR.out]
      exact P2_01_0.out _ (Hld.alloc H _) _ (Box2.new (HB0.out w1 H) 0 0 _) _ (b1.out.alloc _) (fun h => b1.out.ne h.symm)
    refine AllReadyH.cons rfl (fun K hK => ?_) ?_
    · go_simp
      refine hK.out _ _ (Hld.alloc H _) (fun _ => ?_)
      clear hK K
      rw [← hR.out]
      exact P2_12_0.out _ (Hld.alloc H _) _ (b1.out.alloc _) _ (Box2.new (HB0.out w1 H) 0 0 _) (b1.out.ne)
    exact AllReadyH.nil)
  have P2_2_0 : Hid (∀ (w1 : World) (H : Hld ((((w.alloc (Obj.cells #[.int .i64 (aX), .int .i64 (aY)] 28)).alloc (Obj.cells #[.int .i64 (bX), .int .i64 (bY)] 28)).alloc (Obj.cells #[.int .i64 (cX), .int .i64 (cY)] 28)).alloc (Obj.cells #[.int .i64 (dX), .int .i64 (dY)] 28)) w1) (g2 : Nat) (b2 : Hid (Box2 (w.heap.size + 4) w1 g2 0 0)), R 6 #[true, true, true, true, true, true, true, true, false, false, false, true, false, false, false] (⟨#[.agg #[.int .i64 aX, .int .i64 aY], .agg #[.int .i64 bX, .int .i64 bY], .agg #[.int .i64 cX, .int .i64 cY], .agg #[.int .i64 dX, .int .i64 dY], .pointer (some ⟨w.heap.size, 0, none⟩), .pointer (some ⟨w.heap.size + 1, 0, none⟩), .pointer (some ⟨w.heap.size + 1 + 1, 0, none⟩), .pointer (some ⟨w.heap.size + 1 + 1 + 1, 0, none⟩), .int .i64 0, undef, undef, .pointer (some ⟨g2, 0, none⟩), undef, .agg #[.int .i64 aX, .int .i64 aY], .agg #[.int .i64 dX, .int .i64 dY], .agg #[.int .i64 (aX - dX), .int .i64 (aY - dY)], .agg #[.int .i64 bX, .int .i64 bY], .agg #[.int .i64 dX, .int .i64 dY], .agg #[.int .i64 (bX - dX), .int .i64 (bY - dY)], .agg #[.int .i64 cX, .int .i64 cY], .agg #[.int .i64 dX, .int .i64 dY], undef, undef, undef, undef, undef, undef, undef, undef, undef, undef, undef, undef, undef, undef, undef, undef, undef, undef, undef, undef, undef, undef, undef, undef, undef, undef, undef, undef, undef, undef, undef, undef], []⟩ : Act) w1) := Lib.hid (by
    intro w1 H g2 b2
    rw [hR.out]
    refine wpAnyH_ready (rs := [8, 9, 10]) (by kernel_rfl) (by simp) ?_
    refine AllReadyH.cons rfl (fun K hK => ?_) ?_
    · go_simp
      refine (K3.out _).mono ?_
      rintro e w2 ⟨rfl, b9⟩
      have H2 := Hld.call H b9
      go_wp2_with fail
      refine hK.out _ _ H2 (fun _ => ?_)
      clear hK K
      rw [← hR.out]
      exact P3_2_0.out _ H2 _ (b2.out.below b9)
    refine AllReadyH.cons rfl (fun K hK => ?_) ?_
    · go_simp
      refine hK.out _ _ (Hld.alloc H _) (fun _ => ?_)
      clear hK K
      rw [← hR.out]
      exact P2_02_0.out _ (Hld.alloc H _) _ (Box2.new (HB0.out w1 H) 0 0 _) _ (b2.out.alloc _) (fun h => b2.out.ne h.symm)
    refine AllReadyH.cons rfl (fun K hK => ?_) ?_
    · go_simp
      refine hK.out _ _ (Hld.alloc H _) (fun _ => ?_)
      clear hK K
      rw [← hR.out]
      exact P2_12_0.out _ (Hld.alloc H _) _ (Box2.new (HB0.out w1 H) 0 0 _) _ (b2.out.alloc _) (fun h => b2.out.ne h.symm)
    exact AllReadyH.nil)
  have P2_n_0 : Hid (∀ (w1 : World) (H : Hld ((((w.alloc (Obj.cells #[.int .i64 (aX), .int .i64 (aY)] 28)).alloc (Obj.cells #[.int .i64 (bX), .int .i64 (bY)] 28)).alloc (Obj.cells #[.int .i64 (cX), .int .i64 (cY)] 28)).alloc (Obj.cells #[.int .i64 (dX), .int .i64 (dY)] 28)) w1), R 7 #[true, true, true, true, true, true, true, true, false, false, false, false, false, false, false] (⟨#[.agg #[.int .i64 aX, .int .i64 aY], .agg #[.int .i64 bX, .int .i64 bY], .agg #[.int .i64 cX, .int .i64 cY], .agg #[.int .i64 dX, .int .i64 dY], .pointer (some ⟨w.heap.size, 0, none⟩), .pointer (some ⟨w.heap.size + 1, 0, none⟩), .pointer (some ⟨w.heap.size + 1 + 1, 0, none⟩), .pointer (some ⟨w.heap.size + 1 + 1 + 1, 0, none⟩), .int .i64 0, undef, undef, undef, undef, .agg #[.int .i64 aX, .int .i64 aY], .agg #[.int .i64 dX, .int .i64 dY], .agg #[.int .i64 (aX - dX), .int .i64 (aY - dY)], .agg #[.int .i64 bX, .int .i64 bY], .agg #[.int .i64 dX, .int .i64 dY], .agg #[.int .i64 (bX - dX), .int .i64 (bY - dY)], .agg #[.int .i64 cX, .int .i64 cY], .agg #[.int .i64 dX, .int .i64 dY], undef, undef, undef, undef, undef, undef, undef, undef, undef, undef, undef, undef, undef, undef, undef, undef, undef, undef, undef, undef, undef, undef, undef, undef, undef, undef, undef, undef, undef, undef, undef, undef], []⟩ : Act) w1) := Lib.hid (by
    intro w1 H
    rw [hR.out]
    refine wpAnyH_ready (rs := [8, 9, 10, 11]) (by kernel_rfl) (by simp) ?_
    refine AllReadyH.cons rfl (fun K hK => ?_) ?_
    · go_simp
      refine (K3.out _).mono ?_
      rintro e w2 ⟨rfl, b9⟩
      have H2 := Hld.call H b9
      go_wp2_with fail
      refine hK.out _ _ H2 (fun _ => ?_)
      clear hK K
      rw [← hR.out]
      exact P3_n_0.out _ H2
    refine AllReadyH.cons rfl (fun K hK => ?_) ?_
    · go_simp
      refine hK.out _ _ (Hld.alloc H _) (fun _ => ?_)
      clear hK K
      rw [← hR.out]
      exact P2_0_0.out _ (Hld.alloc H _) _ (Box2.new (HB0.out w1 H) 0 0 _)
    refine AllReadyH.cons rfl (fun K hK => ?_) ?_
    · go_simp
      refine hK.out _ _ (Hld.alloc H _) (fun _ => ?_)
      clear hK K
      rw [← hR.out]
      exact P2_1_0.out _ (Hld.alloc H _) _ (Box2.new (HB0.out w1 H) 0 0 _)
    refine AllReadyH.cons rfl (fun K hK => ?_) ?_
    · go_simp
      refine hK.out _ _ (Hld.alloc H _) (fun _ => ?_)
      clear hK K
      rw [← hR.out]
      exact P2_2_0.out _ (Hld.alloc H _) _ (Box2.new (HB0.out w1 H) 0 0 _)
    exact AllReadyH.nil)
  have P1_012_0 : Hid (∀ (w1 : World) (H : Hld ((((w.alloc (Obj.cells #[.int .i64 (aX), .int .i64 (aY)] 28)).alloc (Obj.cells #[.int .i64 (bX), .int .i64 (bY)] 28)).alloc (Obj.cells #[.int .i64 (cX), .int .i64 (cY)] 28)).alloc (Obj.cells #[.int .i64 (dX), .int .i64 (dY)] 28)) w1) (g0 : Nat) (b0 : Hid (Box2 (w.heap.size + 4) w1 g0 0 0)) (g1 : Nat) (b1 : Hid (Box2 (w.heap.size + 4) w1 g1 0 0)) (g2 : Nat) (b2 : Hid (Box2 (w.heap.size + 4) w1 g2 0 0)) (d01 : ¬ g0 = g1) (d02 : ¬ g0 = g2) (d12 : ¬ g1 = g2), R 5 #[true, true, true, true, true, false, true, true, false, true, true, true, false, false, false] (⟨#[.agg #[.int .i64 aX, .int .i64 aY], .agg #[.int .i64 bX, .int .i64 bY], .agg #[.int .i64 cX, .int .i64 cY], .agg #[.int .i64 dX, .int .i64 dY], .pointer (some ⟨w.heap.size, 0, none⟩), .pointer (some ⟨w.heap.size + 1, 0, none⟩), .pointer (some ⟨w.heap.size + 1 + 1, 0, none⟩), .pointer (some ⟨w.heap.size + 1 + 1 + 1, 0, none⟩), .int .i64 0, .pointer (some ⟨g0, 0, none⟩), .pointer (some ⟨g1, 0, none⟩), .pointer (some ⟨g2, 0, none⟩), undef, .agg #[.int .i64 aX, .int .i64 aY], .agg #[.int .i64 dX, .int .i64 dY], .agg #[.int .i64 (aX - dX), .int .i64 (aY - dY)], .agg #[.int .i64 bX, .int .i64 bY], .agg #[.int .i64 dX, .int .i64 dY], undef, .agg #[.int .i64 cX, .int .i64 cY], .agg #[.int .i64 dX, .int .i64 dY], undef, undef, undef, undef, undef, undef, undef, undef, undef, undef, undef, undef, undef, undef, undef, undef, undef, undef, undef, undef, undef, undef, undef, undef, undef, undef, undef, undef, undef, undef, undef, undef], []⟩ : Act) w1) := Lib.hid (by
    intro w1 H g0 b0 g1 b1 g2 b2 d01 d02 d12
    rw [hR.out]
    refine wpAnyH_ready (rs := [5]) (by kernel_rfl) (by simp) ?_
    refine AllReadyH.cons rfl (fun K hK => ?_) ?_
    · go_simp
      refine (K2.out _).mono ?_
      rintro e w2 ⟨rfl, b9⟩
      have H2 := Hld.call H b9
      go_wp2_with fail
      refine hK.out _ _ H2 (fun _ => ?_)
      clear hK K
      rw [← hR.out]
      exact P2_012_0.out _ H2 _ (b0.out.below b9) _ (b1.out.below b9) _ (b2.out.below b9) (d01) (d02) (d12)
    exact AllReadyH.nil)
  have P1_01_0 : Hid (∀ (w1 : World) (H : Hld ((((w.alloc (Obj.cells #[.int .i64 (aX), .int .i64 (aY)] 28)).alloc (Obj.cells #[.int .i64 (bX), .int .i64 (bY)] 28)).alloc (Obj.cells #[.int .i64 (cX), .int .i64 (cY)] 28)).alloc (Obj.cells #[.int .i64 (dX), .int .i64 (dY)] 28)) w1) (g0 : Nat) (b0 : Hid (Box2 (w.heap.size + 4) w1 g0 0 0)) (g1 : Nat) (b1 : Hid (Box2 (w.heap.size + 4) w1 g1 0 0)) (d01 : ¬ g0 = g1), R 6 #[true, true, true, true, true, false, true, true, false, true, true, false, false, false, false] (⟨#[.agg #[.int .i64 aX, .int .i64 aY], .agg #[.int .i64 bX, .int .i64 bY], .agg #[.int .i64 cX, .int .i64 cY], .agg #[.int .i64 dX, .int .i64 dY], .pointer (some ⟨w.heap.size, 0, none⟩), .pointer (some ⟨w.heap.size + 1, 0, none⟩), .pointer (some ⟨w.heap.size + 1 + 1, 0, none⟩), .pointer (some ⟨w.heap.size + 1 + 1 + 1, 0, none⟩), .int .i64 0, .pointer (some ⟨g0, 0, none⟩), .pointer (some ⟨g1, 0, none⟩), undef, undef, .agg #[.int .i64 aX, .int .i64 aY], .agg #[.int .i64 dX, .int .i64 dY], .agg #[.int .i64 (aX - dX), .int .i64 (aY - dY)], .agg #[.int .i64 bX, .int .i64 bY], .agg #[.int .i64 dX, .int .i64 dY], undef, .agg #[.int .i64 cX, .int .i64 cY], .agg #[.int .i64 dX, .int .i64 dY], undef, undef, undef, undef, undef, undef, undef, undef, undef, undef, undef, undef, undef, undef, undef, undef, undef, undef, undef, undef, undef, undef, undef, undef, undef, undef, undef, undef, undef, undef, undef, undef], []⟩ : Act) w1) := Lib.hid (by
    intro w1 H g0 b0 g1 b1 d01
    rw [hR.out]
    refine wpAnyH_ready (rs := [5, 11]) (by kernel_rfl) (by simp) ?_
    refine AllReadyH.cons rfl (fun K hK => ?_) ?_
    · go_simp
      refine (K2.out _).mono ?_
      rintro e w2 ⟨rfl, b9⟩
      have H2 := Hld.call H b9
      go_wp2_with fail
      refine hK.out _ _ H2 (fun _ => ?_)
      clear hK K
      rw [← hR.out]
      exact P2_01_0.out _ H2 _ (b0.out.below b9) _ (b1.out.below b9) (d01)
    refine AllReadyH.cons rfl (fun K hK => ?_) ?_
    · go_simp
      refine hK.out _ _ (Hld.alloc H _) (fun _ => ?_)
      clear hK K
      rw [← hR.out]
      exact P1_012_0.out _ (Hld.alloc H _) _ (b0.out.alloc _) _ (b1.out.alloc _) _ (Box2.new (HB0.out w1 H) 0 0 _) (d01) (b0.out.ne) (b1.out.ne)
    exact AllReadyH.nil)
  have P1_02_0 : Hid (∀ (w1 : World) (H : Hld ((((w.alloc (Obj.cells #[.int .i64 (aX), .int .i64 (aY)] 28)).alloc (Obj.cells #[.int .i64 (bX), .int .i64 (bY)] 28)).alloc (Obj.cells #[.int .i64 (cX), .int .i64 (cY)] 28)).alloc (Obj.cells #[.int .i64 (dX), .int .i64 (dY)] 28)) w1) (g0 : Nat) (b0 : Hid (Box2 (w.heap.size + 4) w1 g0 0 0)) (g2 : Nat) (b2 : Hid (Box2 (w.heap.size + 4) w1 g2 0 0)) (d02 : ¬ g0 = g2), R 6 #[true, true, true, true, true, false, true, true, false, true, false, true, false, false, false] (⟨#[.agg #[.int .i64 aX, .int .i64 aY], .agg #[.int .i64 bX, .int .i64 bY], .agg #[.int .i64 cX, .int .i64 cY], .agg #[.int .i64 dX, .int .i64 dY], .pointer (some ⟨w.heap.size, 0, none⟩), .pointer (some ⟨w.heap.size + 1, 0, none⟩), .pointer (some ⟨w.heap.size + 1 + 1, 0, none⟩), .pointer (some ⟨w.heap.size + 1 + 1 + 1, 0, none⟩), .int .i64 0, .pointer (some ⟨g0, 0, none⟩), undef, .pointer (some ⟨g2, 0, none⟩), undef, .agg #[.int .i64 aX, .int .i64 aY], .agg #[.int .i64 dX, .int .i64 dY], .agg #[.int .i64 (aX - dX), .int .i64 (aY - dY)], .agg #[.int .i64 bX, .int .i64 bY], .agg #[.int .i64 dX, .int .i64 dY], undef, .agg #[.int .i64 cX, .int .i64 cY], .agg #[.int .i64 dX, .int .i64 dY], undef, undef, undef, undef, undef, undef, undef, undef, undef, undef, undef, undef, undef, undef, undef, undef, undef, undef, undef, undef, undef, undef, undef, undef, undef, undef, undef, undef, undef, undef, undef, undef], []⟩ : Act) w1) := Lib.hid (by
    intro w1 H g0 b0 g2 b2 d02
    rw [hR.out]
    refine wpAnyH_ready (rs := [5, 10]) (by kernel_rfl) (by simp) ?_
    refine AllReadyH.cons rfl (fun K hK => ?_) ?_
    · go_simp
      refine (K2.out _).mono ?_
      rintro e w2 ⟨rfl, b9⟩
      have H2 := Hld.call H b9
      go_wp2_with fail
      refine hK.out _ _ H2 (fun _ => ?_)
      clear hK K
      rw [← hR.out]
      exact P2_02_0.out _ H2 _ (b0.out.below b9) _ (b2.out.below b9) (d02)
    refine AllReadyH.cons rfl (fun K hK => ?_) ?_
    · go_simp
      refine hK.out _ _ (Hld.alloc H _) (fun _ => ?_)
      clear hK K
      rw [← hR.out]
      exact P1_012_0.out _ (Hld.alloc H _) _ (b0.out.alloc _) _ (Box2.new (HB0.out w1 H) 0 0 _) _ (b2.out.alloc _) (b0.out.ne) (d02) (fun h => b2.out.ne h.symm)
    exact AllReadyH.nil)
  have P1_12_0 : Hid (∀ (w1 : World) (H : Hld ((((w.alloc (Obj.cells #[.int .i64 (aX), .int .i64 (aY)] 28)).alloc (Obj.cells #[.int .i64 (bX), .int .i64 (bY)] 28)).alloc (Obj.cells #[.int .i64 (cX), .int .i64 (cY)] 28)).alloc (Obj.cells #[.int .i64 (dX), .int .i64 (dY)] 28)) w1) (g1 : Nat) (b1 : Hid (Box2 (w.heap.size + 4) w1 g1 0 0)) (g2 : Nat) (b2 : Hid (Box2 (w.heap.size + 4) w1 g2 0 0)) (d12 : ¬ g1 = g2), R 6 #[true, true, true, true, true, false, true, true, false, false, true, true, false, false, false] (⟨#[.agg #[.int .i64 aX, .int .i64 aY], .agg #[.int .i64 bX, .int .i64 bY], .agg #[.int .i64 cX, .int .i64 cY], .agg #[.int .i64 dX, .int .i64 dY], .pointer (some ⟨w.heap.size, 0, none⟩), .pointer (some ⟨w.heap.size + 1, 0, none⟩), .pointer (some ⟨w.heap.size + 1 + 1, 0, none⟩), .pointer (some ⟨w.heap.size + 1 + 1 + 1, 0, none⟩), .int .i64 0, undef, .pointer (some ⟨g1, 0, none⟩), .pointer (some ⟨g2, 0, none⟩), undef, .agg #[.int .i64 aX, .int .i64 aY], .agg #[.int .i64 dX, .int .i64 dY], .agg #[.int .i64 (aX - dX), .int .i64 (aY - dY)], .agg #[.int .i64 bX, .int .i64 bY], .agg #[.int .i64 dX, .int .i64 dY], undef, .agg #[.int .i64 cX, .int .i64 cY], .agg #[.int .i64 dX, .int .i64 dY], undef, undef, undef, undef, undef, undef, undef, undef, undef, undef, undef, undef, undef, undef, undef, undef, undef, undef, undef, undef, undef, undef, undef, undef, undef, undef, undef, undef, undef, undef, undef, undef], []⟩ : Act) w1) := Lib.hid (by
    intro w1 H g1 b1 g2 b2 d12
    rw [hR.out]
    refine wpAnyH_ready (rs := [5, 9]) (by kernel_rfl) (by simp) ?_
    refine AllReadyH.cons rfl (fun K hK => ?_) ?_
    · go_simp
      refine (K2.out _).mono ?_
      rintro e w2 ⟨rfl, b9⟩
      have H2 := Hld.call H b9
      go_wp2_with fail
      refine hK.out _ _ H2 (fun _ => ?_)
      clear hK K
      rw [← hR.out]
      exact P2_12_0.out _ H2 _ (b1.out.below b9) _ (b2.out.below b9) (d12)
    refine AllReadyH.cons rfl (fun K hK => ?_) ?_
    · go_simp
      refine hK.out _ _ (Hld.alloc H _) (fun _ => ?_)
      clear hK K
      rw [← hR.out]
      exact P1_012_0.out _ (Hld.alloc H _) _ (Box2.new (HB0.out w1 H) 0 0 _) _ (b1.out.alloc _) _ (b2.out.alloc _) (fun h => b1.out.ne h.symm) (fun h => b2.out.ne h.symm) (d12)
    exact AllReadyH.nil)
  have P1_0_0 : Hid (∀ (w1 : World) (H : Hld ((((w.alloc (Obj.cells #[.int .i64 (aX), .int .i64 (aY)] 28)).alloc (Obj.cells #[.int .i64 (bX), .int .i64 (bY)] 28)).alloc (Obj.cells #[.int .i64 (cX), .int .i64 (cY)] 28)).alloc (Obj.cells #[.int .i64 (dX), .int .i64 (dY)] 28)) w1) (g0 : Nat) (b0 : Hid (Box2 (w.heap.size + 4) w1 g0 0 0)), R 7 #[true, true, true, true, true, false, true, true, false, true, false, false, false, false, false] (⟨#[.agg #[.int .i64 aX, .int .i64 aY], .agg #[.int .i64 bX, .int .i64 bY], .agg #[.int .i64 cX, .int .i64 cY], .agg #[.int .i64 dX, .int .i64 dY], .pointer (some ⟨w.heap.size, 0, none⟩), .pointer (some ⟨w.heap.size + 1, 0, none⟩), .pointer (some ⟨w.heap.size + 1 + 1, 0, none⟩), .pointer (some ⟨w.heap.size + 1 + 1 + 1, 0, none⟩), .int .i64 0, .pointer (some ⟨g0, 0, none⟩), undef, undef, undef, .agg #[.int .i64 aX, .int .i64 aY], .agg #[.int .i64 dX, .int .i64 dY], .agg #[.int .i64 (aX - dX), .int .i64 (aY - dY)], .agg #[.int .i64 bX, .int .i64 bY], .agg #[.int .i64 dX, .int .i64 dY], undef, .agg #[.int .i64 cX, .int .i64 cY], .agg #[.int .i64 dX, .int .i64 dY], undef, undef, undef, undef, undef, undef, undef, undef, undef, undef, undef, undef, undef, undef, undef, undef, undef, undef, undef, undef, undef, undef, undef, undef, undef, undef, undef, undef, undef, undef, undef, undef], []⟩ : Act) w1) := Lib.hid (by
    intro w1 H g0 b0
    rw [hR.out]
    refine wpAnyH_ready (rs := [5, 10, 11]) (by kernel_rfl) (by simp) ?_
    refine AllReadyH.cons rfl (fun K hK => ?_) ?_
    · go_simp
      refine (K2.out _).mono ?_
      rintro e w2 ⟨rfl, b9⟩
      have H2 := Hld.call H b9
      go_wp2_with fail
      refine hK.out _ _ H2 (fun _ => ?_)
      clear hK K
      rw [← hR.out]
      exact P2_0_0.out _ H2 _ (b0.out.below b9)
    refine AllReadyH.cons rfl (fun K hK => ?_) ?_
    · go_simp
      refine hK.out _ _ (Hld.alloc H _) (fun _ => ?_)
      clear hK K
      rw [← hR.out]
      exact P1_01_0.out _ (Hld.alloc H _) _ (b0.out.alloc _) _ (Box2.new (HB0.out w1 H) 0 0 _) (b0.out.ne)
    refine AllReadyH.cons rfl (fun K hK => ?_) ?_
    · go_simp
      refine hK.out _ _ (Hld.alloc H _) (fun _ => ?_)
      clear hK K
      rw [← hR.out]
      exact P1_02_0.out _ (Hld.alloc H _) _ (b0.out.alloc _) _ (Box2.new (HB0.out w1 H) 0 0 _) (b0.out.ne)
    exact AllReadyH.nil)
  have P1_1_0 : Hid (∀ (w1 : World) (H : Hld ((((w.alloc (Obj.cells #[.int .i64 (aX), .int .i64 (aY)] 28)).alloc (Obj.cells #[.int .i64 (bX), .int .i64 (bY)] 28)).alloc (Obj.cells #[.int .i64 (cX), .int .i64 (cY)] 28)).alloc (Obj.cells #[.int .i64 (dX), .int .i64 (dY)] 28)) w1) (g1 : Nat) (b1 : Hid (Box2 (w.heap.size + 4) w1 g1 0 0)), R 7 #[true, true, true, true, true, false, true, true, false, false, true, false, false, false, false] (⟨#[.agg #[.int .i64 aX, .int .i64 aY], .agg #[.int .i64 bX, .int .i64 bY], .agg #[.int .i64 cX, .int .i64 cY], .agg #[.int .i64 dX, .int .i64 dY], .pointer (some ⟨w.heap.size, 0, none⟩), .pointer (some ⟨w.heap.size + 1, 0, none⟩), .pointer (some ⟨w.heap.size + 1 + 1, 0, none⟩), .pointer (some ⟨w.heap.size + 1 + 1 + 1, 0, none⟩), .int .i64 0, undef, .pointer (some ⟨g1, 0, none⟩), undef, undef, .agg #[.int .i64 aX, .int .i64 aY], .agg #[.int .i64 dX, .int .i64 dY], .agg #[.int .i64 (aX - dX), .int .i64 (aY - dY)], .agg #[.int .i64 bX, .int .i64 bY], .agg #[.int .i64 dX, .int .i64 dY], undef, .agg #[.int .i64 cX, .int .i64 cY], .agg #[.int .i64 dX, .int .i64 dY], undef, undef, undef, undef, undef, undef, undef, undef, undef, undef, undef, undef, undef, undef, undef, undef, undef, undef, undef, undef, undef, undef, undef, undef, undef, undef, undef, undef, undef, undef, undef, undef], []⟩ : Act) w1) := Lib.hid (by
    intro w1 H g1 b1
    rw [hR.out]
    refine wpAnyH_ready (rs := [5, 9, 11]) (by kernel_rfl) (by simp) ?_
    refine AllReadyH.cons rfl (fun K hK => ?_) ?_
    · go_simp
      refine (K2.out _).mono ?_
      rintro e w2 ⟨rfl, b9⟩
      have H2 := Hld.call H b9
      go_wp2_with fail
      refine hK.out _ _ H2 (fun _ => ?_)
      clear hK K
      rw [← hR.out]
      exact P2_1_0.out _ H2 _ (b1.out.below b9)
    refine AllReadyH.cons rfl (fun K hK => ?_) ?_
    · go_simp
      refine hK.out _ _ (Hld.alloc H _) (fun _ => ?_)
      clear hK K
      rw [← hR.out]
      exact P1_01_0.out _ (Hld.alloc H _) _ (Box2.new (HB0.out w1 H) 0 0 _) _ (b1.out.alloc _) (fun h => b1.out.ne h.symm)
    refine AllReadyH.cons rfl (fun K hK => ?_) ?_
    · go_simp
      refine hK.out _ _ (Hld.alloc H _) (fun _ => ?_)
      clear hK K
      rw [← hR.out]
      exact P1_12_0.out _ (Hld.alloc H _) _ (b1.out.alloc _) _ (Box2.new (HB0.out w1 H) 0 0 _) (b1.out.ne)
    exact AllReadyH.nil)
  have P1_2_0 : Hid (∀ (w1 : World) (H : Hld ((((w.alloc (Obj.cells #[.int .i64 (aX), .int .i64 (aY)] 28)).alloc (Obj.cells #[.int .i64 (bX), .int .i64 (bY)] 28)).alloc (Obj.cells #[.int .i64 (cX), .int .i64 (cY)] 28)).alloc (Obj.cells #[.int .i64 (dX), .int .i64 (dY)] 28)) w1) (g2 : Nat) (b2 : Hid (Box2 (w.heap.size + 4) w1 g2 0 0)), R 7 #[true, true, true, true, true, false, true, true, false, false, false, true, false, false, false] (⟨#[.agg #[.int .i64 aX, .int .i64 aY], .agg #[.int .i64 bX, .int .i64 bY], .agg #[.int .i64 cX, .int .i64 cY], .agg #[.int .i64 dX, .int .i64 dY], .pointer (some ⟨w.heap.size, 0, none⟩), .pointer (some ⟨w.heap.size + 1, 0, none⟩), .pointer (some ⟨w.heap.size + 1 + 1, 0, none⟩), .pointer (some ⟨w.heap.size + 1 + 1 + 1, 0, none⟩), .int .i64 0, undef, undef, .pointer (some ⟨g2, 0, none⟩), undef, .agg #[.int .i64 aX, .int .i64 aY], .agg #[.int .i64 dX, .int .i64 dY], .agg #[.int .i64 (aX - dX), .int .i64 (aY - dY)], .agg #[.int .i64 bX, .int .i64 bY], .agg #[.int .i64 dX, .int .i64 dY], undef, .agg #[.int .i64 cX, .int .i64 cY], .agg #[.int .i64 dX, .int .i64 dY], undef, undef, undef, undef, undef, undef, undef, undef, undef, undef, undef, undef, undef, undef, undef, undef, undef, undef, undef, undef, undef, undef, undef, undef, undef, undef, undef, undef, undef, undef, undef, undef], []⟩ : Act) w1) := Lib.hid (by
    intro w1 H g2 b2
    rw [hR.out]
    refine wpAnyH_ready (rs := [5, 9, 10]) (by kernel_rfl) (by simp) ?_
    refine AllReadyH.cons rfl (fun K hK => ?_) ?_
    · go_simp
      refine (K2.out _).mono ?_
      rintro e w2 ⟨rfl, b9⟩
      have H2 := Hld.call H b9
      go_wp2_with fail
      refine hK.out _ _ H2 (fun _ => ?_)
      clear hK K
      rw [← hR.out]
      exact P2_2_0.out _ H2 _ (b2.out.below b9)
    refine AllReadyH.cons rfl (fun K hK => ?_) ?_
    · go_simp
      refine hK.out _ _ (Hld.alloc H _) (fun _ => ?_)
      clear hK K
      rw [← hR.out]
      exact P1_02_0.out _ (Hld.alloc H _) _ (Box2.new (HB0.out w1 H) 0 0 _) _ (b2.out.alloc _) (fun h => b2.out.ne h.symm)
    refine AllReadyH.cons rfl (fun K hK => ?_) ?_
    · go_simp
      refine hK.out _ _ (Hld.alloc H _) (fun _ => ?_)
      clear hK K
      rw [← hR.out]
      exact P1_12_0.out _ (Hld.alloc H _) _ (Box2.new (HB0.out w1 H) 0 0 _) _ (b2.out.alloc _) (fun h => b2.out.ne h.symm)
    exact AllReadyH.nil)
  have P1_n_0 : Hid (∀ (w1 : World) (H : Hld ((((w.alloc (Obj.cells #[.int .i64 (aX), .int .i64 (aY)] 28)).alloc (Obj.cells #[.int .i64 (bX), .int .i64 (bY)] 28)).alloc (Obj.cells #[.int .i64 (cX), .int .i64 (cY)] 28)).alloc (Obj.cells #[.int .i64 (dX), .int .i64 (dY)] 28)) w1), R 8 #[true, true, true, true, true, false, true, true, false, false, false, false, false, false, false] (⟨#[.agg #[.int .i64 aX, .int .i64 aY], .agg #[.int .i64 bX, .int .i64 bY], .agg #[.int .i64 cX, .int .i64 cY], .agg #[.int .i64 dX, .int .i64 dY], .pointer (some ⟨w.heap.size, 0, none⟩), .pointer (some ⟨w.heap.size + 1, 0, none⟩), .pointer (some ⟨w.heap.size + 1 + 1, 0, none⟩), .pointer (some ⟨w.heap.size + 1 + 1 + 1, 0, none⟩), .int .i64 0, undef, undef, undef, undef, .agg #[.int .i64 aX, .int .i64 aY], .agg #[.int .i64 dX, .int .i64 dY], .agg #[.int .i64 (aX - dX), .int .i64 (aY - dY)], .agg #[.int .i64 bX, .int .i64 bY], .agg #[.int .i64 dX, .int .i64 dY], undef, .agg #[.int .i64 cX, .int .i64 cY], .agg #[.int .i64 dX, .int .i64 dY], undef, undef, undef, undef, undef, undef, undef, undef, undef, undef, undef, undef, undef, undef, undef, undef, undef, undef, undef, undef, undef, undef, undef, undef, undef, undef, undef, undef, undef, undef, undef, undef], []⟩ : Act) w1) := Lib.hid (by
    intro w1 H
    rw [hR.out]
    refine wpAnyH_ready (rs := [5, 9, 10, 11]) (by kernel_rfl) (by simp) ?_
    refine AllReadyH.cons rfl (fun K hK => ?_) ?_
    · go_simp
      refine (K2.out _).mono ?_
      rintro e w2 ⟨rfl, b9⟩
      have H2 := Hld.call H b9
      go_wp2_with fail
      refine hK.out _ _ H2 (fun _ => ?_)
      clear hK K
      rw [← hR.out]
      exact P2_n_0.out _ H2
    refine AllReadyH.cons rfl (fun K hK => ?_) ?_
    · go_simp
      refine hK.out _ _ (Hld.alloc H _) (fun _ => ?_)
      clear hK K
      rw [← hR.out]
      exact P1_0_0.out _ (Hld.alloc H _) _ (Box2.new (HB0.out w1 H) 0 0 _)
    refine AllReadyH.cons rfl (fun K hK => ?_) ?_
    · go_simp
      refine hK.out _ _ (Hld.alloc H _) (fun _ => ?_)
      clear hK K
      rw [← hR.out]
      exact P1_1_0.out _ (Hld.alloc H _) _ (Box2.new (HB0.out w1 H) 0 0 _)
    refine AllReadyH.cons rfl (fun K hK => ?_) ?_
    · go_simp
      refine hK.out _ _ (Hld.alloc H _) (fun _ => ?_)
      clear hK K
      rw [← hR.out]
      exact P1_2_0.out _ (Hld.alloc H _) _ (Box2.new (HB0.out w1 H) 0 0 _)
    exact AllReadyH.nil)
  have P0_012_0 : Hid (∀ (w1 : World) (H : Hld ((((w.alloc (Obj.cells #[.int .i64 (aX), .int .i64 (aY)] 28)).alloc (Obj.cells #[.int .i64 (bX), .int .i64 (bY)] 28)).alloc (Obj.cells #[.int .i64 (cX), .int .i64 (cY)] 28)).alloc (Obj.cells #[.int .i64 (dX), .int .i64 (dY)] 28)) w1) (g0 : Nat) (b0 : Hid (Box2 (w.heap.size + 4) w1 g0 0 0)) (g1 : Nat) (b1 : Hid (Box2 (w.heap.size + 4) w1 g1 0 0)) (g2 : Nat) (b2 : Hid (Box2 (w.heap.size + 4) w1 g2 0 0)) (d01 : ¬ g0 = g1) (d02 : ¬ g0 = g2) (d12 : ¬ g1 = g2), R 6 #[true, true, false, true, true, false, true, true, false, true, true, true, false, false, false] (⟨#[.agg #[.int .i64 aX, .int .i64 aY], .agg #[.int .i64 bX, .int .i64 bY], .agg #[.int .i64 cX, .int .i64 cY], .agg #[.int .i64 dX, .int .i64 dY], .pointer (some ⟨w.heap.size, 0, none⟩), .pointer (some ⟨w.heap.size + 1, 0, none⟩), .pointer (some ⟨w.heap.size + 1 + 1, 0, none⟩), .pointer (some ⟨w.heap.size + 1 + 1 + 1, 0, none⟩), .int .i64 0, .pointer (some ⟨g0, 0, none⟩), .pointer (some ⟨g1, 0, none⟩), .pointer (some ⟨g2, 0, none⟩), undef, .agg #[.int .i64 aX, .int .i64 aY], .agg #[.int .i64 dX, .int .i64 dY], undef, .agg #[.int .i64 bX, .int .i64 bY], .agg #[.int .i64 dX, .int .i64 dY], undef, .agg #[.int .i64 cX, .int .i64 cY], .agg #[.int .i64 dX, .int .i64 dY], undef, undef, undef, undef, undef, undef, undef, undef, undef, undef, undef, undef, undef, undef, undef, undef, undef, undef, undef, undef, undef, undef, undef, undef, undef, undef, undef, undef, undef, undef, undef, undef], []⟩ : Act) w1) := Lib.hid (by
    intro w1 H g0 b0 g1 b1 g2 b2 d01 d02 d12
    rw [hR.out]
    refine wpAnyH_ready (rs := [2]) (by kernel_rfl) (by simp) ?_
    refine AllReadyH.cons rfl (fun K hK => ?_) ?_
    · go_simp
      refine (K1.out _).mono ?_
      rintro e w2 ⟨rfl, b9⟩
      have H2 := Hld.call H b9
      go_wp2_with fail
      refine hK.out _ _ H2 (fun _ => ?_)
      clear hK K
      rw [← hR.out]
      exact P1_012_0.out _ H2 _ (b0.out.below b9) _ (b1.out.below b9) _ (b2.out.below b9) (d01) (d02) (d12)
    exact AllReadyH.nil)
  have P0_01_0 : Hid (∀ (w1 : World) (H : Hld ((((w.alloc (Obj.cells #[.int .i64 (aX), .int .i64 (aY)] 28)).alloc (Obj.cells #[.int .i64 (bX), .int .i64 (bY)] 28)).alloc (Obj.cells #[.int .i64 (cX), .int .i64 (cY)] 28)).alloc (Obj.cells #[.int .i64 (dX), .int .i64 (dY)] 28)) w1) (g0 : Nat) (b0 : Hid (Box2 (w.heap.size + 4) w1 g0 0 0)) (g1 : Nat) (b1 : Hid (Box2 (w.heap.size + 4) w1 g1 0 0)) (d01 : ¬ g0 = g1), R 7 #[true, true, false, true, true, false, true, true, false, true, true, false, false, false, false] (⟨#[.agg #[.int .i64 aX, .int .i64 aY], .agg #[.int .i64 bX, .int .i64 bY], .agg #[.int .i64 cX, .int .i64 cY], .agg #[.int .i64 dX, .int .i64 dY], .pointer (some ⟨w.heap.size, 0, none⟩), .pointer (some ⟨w.heap.size + 1, 0, none⟩), .pointer (some ⟨w.heap.size + 1 + 1, 0, none⟩), .pointer (some ⟨w.heap.size + 1 + 1 + 1, 0, none⟩), .int .i64 0, .pointer (some ⟨g0, 0, none⟩), .pointer (some ⟨g1, 0, none⟩), undef, undef, .agg #[.int .i64 aX, .int .i64 aY], .agg #[.int .i64 dX, .int .i64 dY], undef, .agg #[.int .i64 bX, .int .i64 bY], .agg #[.int .i64 dX, .int .i64 dY], undef, .agg #[.int .i64 cX, .int .i64 cY], .agg #[.int .i64 dX, .int .i64 dY], undef, undef, undef, undef, undef, undef, undef, undef, undef, undef, undef, undef, undef, undef, undef, undef, undef, undef, undef, undef, undef, undef, undef, undef, undef, undef, undef, undef, undef, undef, undef, undef], []⟩ : Act) w1) := Lib.hid (by
    intro w1 H g0 b0 g1 b1 d01
    rw [hR.out]
    refine wpAnyH_ready (rs := [2, 11]) (by kernel_rfl) (by simp) ?_
    refine AllReadyH.cons rfl (fun K hK => ?_) ?_
    · go_simp
      refine (K1.out _).mono ?_
      rintro e w2 ⟨rfl, b9⟩
      have H2 := Hld.call H b9
      go_wp2_with fail
      refine hK.out _ _ H2 (fun _ => ?_)
      clear hK K
      rw [← hR.out]
      exact P1_01_0.out _ H2 _ (b0.out.below b9) _ (b1.out.below b9) (d01)
    refine AllReadyH.cons rfl (fun K hK => ?_) ?_
    · go_simp
      refine hK.out _ _ (Hld.alloc H _) (fun _ => ?_)
      clear hK K
      rw [← hR.out]
      exact P0_012_0.out _ (Hld.alloc H _) _ (b0.out.alloc _) _ (b1.out.alloc _) _ (Box2.new (HB0.out w1 H) 0 0 _) (d01) (b0.out.ne) (b1.out.ne)
    exact AllReadyH.nil)
  have P0_02_0 : Hid (∀ (w1 : World) (H : Hld ((((w.alloc (Obj.cells #[.int .i64 (aX), .int .i64 (aY)] 28)).alloc (Obj.cells #[.int .i64 (bX), .int .i64 (bY)] 28)).alloc (Obj.cells #[.int .i64 (cX), .int .i64 (cY)] 28)).alloc (Obj.cells #[.int .i64 (dX), .int .i64 (dY)] 28)) w1) (g0 : Nat) (b0 : Hid (Box2 (w.heap.size + 4) w1 g0 0 0)) (g2 : Nat) (b2 : Hid (Box2 (w.heap.size + 4) w1 g2 0 0)) (d02 : ¬ g0 = g2), R 7 #[true, true, false, true, true, false, true, true, false, true, false, true, false, false, false] (⟨#[.agg #[.int .i64 aX, .int .i64 aY], .agg #[.int .i64 bX, .int .i64 bY], .agg #[.int .i64 cX, .int .i64 cY], .agg #[.int .i64 dX, .int .i64 dY], .pointer (some ⟨w.heap.size, 0, none⟩), .pointer (some ⟨w.heap.size + 1, 0, none⟩), .pointer (some ⟨w.heap.size + 1 + 1, 0, none⟩), .pointer (some ⟨w.heap.size + 1 + 1 + 1, 0, none⟩), .int .i64 0, .pointer (some ⟨g0, 0, none⟩), undef, .pointer (some ⟨g2, 0, none⟩), undef, .agg #[.int .i64 aX, .int .i64 aY], .agg #[.int .i64 dX, .int .i64 dY], undef, .agg #[.int .i64 bX, .int .i64 bY], .agg #[.int .i64 dX, .int .i64 dY], undef, .agg #[.int .i64 cX, .int .i64 cY], .agg #[.int .i64 dX, .int .i64 dY], undef, undef, undef, undef, undef, undef, undef, undef, undef, undef, undef, undef, undef, undef, undef, undef, undef, undef, undef, undef, undef, undef, undef, undef, undef, undef, undef, undef, undef, undef, undef, undef], []⟩ : Act) w1) := Lib.hid (by
    intro w1 H g0 b0 g2 b2 d02
    rw [hR.out]
    refine wpAnyH_ready (rs := [2, 10]) (by kernel_rfl) (by simp) ?_
    refine AllReadyH.cons rfl (fun K hK => ?_) ?_
    · go_simp
      refine (K1.out _).mono ?_
      rintro e w2 ⟨rfl, b9⟩
      have H2 := Hld.call H b9
      go_wp2_with fail
      refine hK.out _ _ H2 (fun _ => ?_)
      clear hK K
      rw [← hR.out]
      exact P1_02_0.out _ H2 _ (b0.out.below b9) _ (b2.out.below b9) (d02)
    refine AllReadyH.cons rfl (fun K hK => ?_) ?_
    · go_simp
      refine hK.out _ _ (Hld.alloc H _) (fun _ => ?_)
      clear hK K
      rw [← hR.out]
      exact P0_012_0.out _ (Hld.alloc H _) _ (b0.out.alloc _) _ (Box2.new (HB0.out w1 H) 0 0 _) _ (b2.out.alloc _) (b0.out.ne) (d02) (fun h => b2.out.ne h.symm)
    exact AllReadyH.nil)
  have P0_12_0 : Hid (∀ (w1 : World) (H : Hld ((((w.alloc (Obj.cells #[.int .i64 (aX), .int .i64 (aY)] 28)).alloc (Obj.cells #[.int .i64 (bX), .int .i64 (bY)] 28)).alloc (Obj.cells #[.int .i64 (cX), .int .i64 (cY)] 28)).alloc (Obj.cells #[.int .i64 (dX), .int .i64 (dY)] 28)) w1) (g1 : Nat) (b1 : Hid (Box2 (w.heap.size + 4) w1 g1 0 0)) (g2 : Nat) (b2 : Hid (Box2 (w.heap.size + 4) w1 g2 0 0)) (d12 : ¬ g1 = g2), R 7 #[true, true, false, true, true, false, true, true, false, false, true, true, false, false, false] (⟨#[.agg #[.int .i64 aX, .int .i64 aY], .agg #[.int .i64 bX, .int .i64 bY], .agg #[.int .i64 cX, .int .i64 cY], .agg #[.int .i64 dX, .int .i64 dY], .pointer (some ⟨w.heap.size, 0, none⟩), .pointer (some ⟨w.heap.size + 1, 0, none⟩), .pointer (some ⟨w.heap.size + 1 + 1, 0, none⟩), .pointer (some ⟨w.heap.size + 1 + 1 + 1, 0, none⟩), .int .i64 0, undef, .pointer (some ⟨g1, 0, none⟩), .pointer (some ⟨g2, 0, none⟩), undef, .agg #[.int .i64 aX, .int .i64 aY], .agg #[.int .i64 dX, .int .i64 dY], undef, .agg #[.int .i64 bX, .int .i64 bY], .agg #[.int .i64 dX, .int .i64 dY], undef, .agg #[.int .i64 cX, .int .i64 cY], .agg #[.int .i64 dX, .int .i64 dY], undef, undef, undef, undef, undef, undef, undef, undef, undef, undef, undef, undef, undef, undef, undef, undef, undef, undef, undef, undef, undef, undef, undef, undef, undef, undef, undef, undef, undef, undef, undef, undef], []⟩ : Act) w1) := Lib.hid (by
    intro w1 H g1 b1 g2 b2 d12
    rw [hR.out]
    refine wpAnyH_ready (rs := [2, 9]) (by kernel_rfl) (by simp) ?_
    refine AllReadyH.cons rfl (fun K hK => ?_) ?_
    · go_simp
      refine (K1.out _).mono ?_
      rintro e w2 ⟨rfl, b9⟩
      have H2 := Hld.call H b9
      go_wp2_with fail
      refine hK.out _ _ H2 (fun _ => ?_)
      clear hK K
      rw [← hR.out]
      exact P1_12_0.out _ H2 _ (b1.out.below b9) _ (b2.out.below b9) (d12)
    refine AllReadyH.cons rfl (fun K hK => ?_) ?_
    · go_simp
      refine hK.out _ _ (Hld.alloc H _) (fun _ => ?_)
      clear hK K
      rw [← hR.out]
      exact P0_012_0.out _ (Hld.alloc H _) _ (Box2.new (HB0.out w1 H) 0 0 _) _ (b1.out.alloc _) _ (b2.out.alloc _) (fun h => b1.out.ne h.symm) (fun h => b2.out.ne h.symm) (d12)
    exact AllReadyH.nil)
  have P0_0_0 : Hid (∀ (w1 : World) (H : Hld ((((w.alloc (Obj.cells #[.int .i64 (aX), .int .i64 (aY)] 28)).alloc (Obj.cells #[.int .i64 (bX), .int .i64 (bY)] 28)).alloc (Obj.cells #[.int .i64 (cX), .int .i64 (cY)] 28)).alloc (Obj.cells #[.int .i64 (dX), .int .i64 (dY)] 28)) w1) (g0 : Nat) (b0 : Hid (Box2 (w.heap.size + 4) w1 g0 0 0)), R 8 #[true, true, false, true, true, false, true, true, false, true, false, false, false, false, false] (⟨#[.agg #[.int .i64 aX, .int .i64 aY], .agg #[.int .i64 bX, .int .i64 bY], .agg #[.int .i64 cX, .int .i64 cY], .agg #[.int .i64 dX, .int .i64 dY], .pointer (some ⟨w.heap.size, 0, none⟩), .pointer (some ⟨w.heap.size + 1, 0, none⟩), .pointer (some ⟨w.heap.size + 1 + 1, 0, none⟩), .pointer (some ⟨w.heap.size + 1 + 1 + 1, 0, none⟩), .int .i64 0, .pointer (some ⟨g0, 0, none⟩), undef, undef, undef, .agg #[.int .i64 aX, .int .i64 aY], .agg #[.int .i64 dX, .int .i64 dY], undef, .agg #[.int .i64 bX, .int .i64 bY], .agg #[.int .i64 dX, .int .i64 dY], undef, .agg #[.int .i64 cX, .int .i64 cY], .agg #[.int .i64 dX, .int .i64 dY], undef, undef, undef, undef, undef, undef, undef, undef, undef, undef, undef, undef, undef, undef, undef, undef, undef, undef, undef, undef, undef, undef, undef, undef, undef, undef, undef, undef, undef, undef, undef, undef], []⟩ : Act) w1) := Lib.hid (by
    intro w1 H g0 b0
    rw [hR.out]
    refine wpAnyH_ready (rs := [2, 10, 11]) (by kernel_rfl) (by simp) ?_
    refine AllReadyH.cons rfl (fun K hK => ?_) ?_
    · go_simp
      refine (K1.out _).mono ?_
      rintro e w2 ⟨rfl, b9⟩
      have H2 := Hld.call H b9
      go_wp2_with fail
      refine hK.out _ _ H2 (fun _ => ?_)
      clear hK K
      rw [← hR.out]
      exact P1_0_0.out _ H2 _ (b0.out.below b9)
    refine AllReadyH.cons rfl (fun K hK => ?_) ?_
    · go_simp
      refine hK.out _ _ (Hld.alloc H _) (fun _ => ?_)
      clear hK K
      rw [← hR.out]
      exact P0_01_0.out _ (Hld.alloc H _) _ (b0.out.alloc _) _ (Box2.new (HB0.out w1 H) 0 0 _) (b0.out.ne)
    refine AllReadyH.cons rfl (fun K hK => ?_) ?_
    · go_simp
      refine hK.out _ _ (Hld.alloc H _) (fun _ => ?_)
      clear hK K
      rw [← hR.out]
      exact P0_02_0.out _ (Hld.alloc H _) _ (b0.out.alloc _) _ (Box2.new (HB0.out w1 H) 0 0 _) (b0.out.ne)
    exact AllReadyH.nil)
  have P0_1_0 : Hid (∀ (w1 : World) (H : Hld ((((w.alloc (Obj.cells #[.int .i64 (aX), .int .i64 (aY)] 28)).alloc (Obj.cells #[.int .i64 (bX), .int .i64 (bY)] 28)).alloc (Obj.cells #[.int .i64 (cX), .int .i64 (cY)] 28)).alloc (Obj.cells #[.int .i64 (dX), .int .i64 (dY)] 28)) w1) (g1 : Nat) (b1 : Hid (Box2 (w.heap.size + 4) w1 g1 0 0)), R 8 #[true, true, false, true, true, false, true, true, false, false, true, false, false, false, false] (⟨#[.agg #[.int .i64 aX, .int .i64 aY], .agg #[.int .i64 bX, .int .i64 bY], .agg #[.int .i64 cX, .int .i64 cY], .agg #[.int .i64 dX, .int .i64 dY], .pointer (some ⟨w.heap.size, 0, none⟩), .pointer (some ⟨w.heap.size + 1, 0, none⟩), .pointer (some ⟨w.heap.size + 1 + 1, 0, none⟩), .pointer (some ⟨w.heap.size + 1 + 1 + 1, 0, none⟩), .int .i64 0, undef, .pointer (some ⟨g1, 0, none⟩), undef, undef, .agg #[.int .i64 aX, .int .i64 aY], .agg #[.int .i64 dX, .int .i64 dY], undef, .agg #[.int .i64 bX, .int .i64 bY], .agg #[.int .i64 dX, .int .i64 dY], undef, .agg #[.int .i64 cX, .int .i64 cY], .agg #[.int .i64 dX, .int .i64 dY], undef, undef, undef, undef, undef, undef, undef, undef, undef, undef, undef, undef, undef, undef, undef, undef, undef, undef, undef, undef, undef, undef, undef, undef, undef, undef, undef, undef, undef, undef, undef, undef], []⟩ : Act) w1) := Lib.hid (by
    intro w1 H g1 b1
    rw [hR.out]
    refine wpAnyH_ready (rs := [2, 9, 11]) (by kernel_rfl) (by simp) ?_
    refine AllReadyH.cons rfl (fun K hK => ?_) ?_
    · go_simp
      refine (K1.out _).mono ?_
      rintro e w2 ⟨rfl, b9⟩
      have H2 := Hld.call H b9
      go_wp2_with fail
      refine hK.out _ _ H2 (fun _ => ?_)
      clear hK K
      rw [← hR.out]
      exact P1_1_0.out _ H2 _ (b1.out.below b9)
    refine AllReadyH.cons rfl (fun K hK => ?_) ?_
    · go_simp
      refine hK.out _ _ (Hld.alloc H _) (fun _ => ?_)
      clear hK K
      rw [← hR.out]
      exact P0_01_0.out _ (Hld.alloc H _) _ (Box2.new (HB0.out w1 H) 0 0 _) _ (b1.out.alloc _) (fun h => b1.out.ne h.symm)
    refine AllReadyH.cons rfl (fun K hK => ?_) ?_
    · go_simp
      refine hK.out _ _ (Hld.alloc H _) (fun _ => ?_)
      clear hK K
      rw [← hR.out]
      exact P0_12_0.out _ (Hld.alloc H _) _ (b1.out.alloc _) _ (Box2.new (HB0.out w1 H) 0 0 _) (b1.out.ne)
    exact AllReadyH.nil)
  have P0_2_0 : Hid (∀ (w1 : World) (H : Hld ((((w.alloc (Obj.cells #[.int .i64 (aX), .int .i64 (aY)] 28)).alloc (Obj.cells #[.int .i64 (bX), .int .i64 (bY)] 28)).alloc (Obj.cells #[.int .i64 (cX), .int .i64 (cY)] 28)).alloc (Obj.cells #[.int .i64 (dX), .int .i64 (dY)] 28)) w1) (g2 : Nat) (b2 : Hid (Box2 (w.heap.size + 4) w1 g2 0 0)), R 8 #[true, true, false, true, true, false, true, true, false, false, false, true, false, false, false] (⟨#[.agg #[.int .i64 aX, .int .i64 aY], .agg #[.int .i64 bX, .int .i64 bY], .agg #[.int .i64 cX, .int .i64 cY], .agg #[.int .i64 dX, .int .i64 dY], .pointer (some ⟨w.heap.size, 0, none⟩), .pointer (some ⟨w.heap.size + 1, 0, none⟩), .pointer (some ⟨w.heap.size + 1 + 1, 0, none⟩), .pointer (some ⟨w.heap.size + 1 + 1 + 1, 0, none⟩), .int .i64 0, undef, undef, .pointer (some ⟨g2, 0, none⟩), undef, .agg #[.int .i64 aX, .int .i64 aY], .agg #[.int .i64 dX, .int .i64 dY], undef, .agg #[.int .i64 bX, .int .i64 bY], .agg #[.int .i64 dX, .int .i64 dY], undef, .agg #[.int .i64 cX, .int .i64 cY], .agg #[.int .i64 dX, .int .i64 dY], undef, undef, undef, undef, undef, undef, undef, undef, undef, undef, undef, undef, undef, undef, undef, undef, undef, undef, undef, undef, undef, undef, undef, undef, undef, undef, undef, undef, undef, undef, undef, undef], []⟩ : Act) w1) := Lib.hid (by
    intro w1 H g2 b2
    rw [hR.out]
    refine wpAnyH_ready (rs := [2, 9, 10]) (by kernel_rfl) (by simp) ?_
    refine AllReadyH.cons rfl (fun K hK => ?_) ?_
    · go_simp
      refine (K1.out _).mono ?_
      rintro e w2 ⟨rfl, b9⟩
      have H2 := Hld.call H b9
      go_wp2_with fail
      refine hK.out _ _ H2 (fun _ => ?_)
      clear hK K
      rw [← hR.out]
      exact P1_2_0.out _ H2 _ (b2.out.below b9)
    refine AllReadyH.cons rfl (fun K hK => ?_) ?_
    · go_simp
      refine hK.out _ _ (Hld.alloc H _) (fun _ => ?_)
      clear hK K
      rw [← hR.out]
      exact P0_02_0.out _ (Hld.alloc H _) _ (Box2.new (HB0.out w1 H) 0 0 _) _ (b2.out.alloc _) (fun h => b2.out.ne h.symm)
    refine AllReadyH.cons rfl (fun K hK => ?_) ?_
    · go_simp
      refine hK.out _ _ (Hld.alloc H _) (fun _ => ?_)
      clear hK K
      rw [← hR.out]
      exact P0_12_0.out _ (Hld.alloc H _) _ (Box2.new (HB0.out w1 H) 0 0 _) _ (b2.out.alloc _) (fun h => b2.out.ne h.symm)
    exact AllReadyH.nil)
  have P0_n_0 : Hid (∀ (w1 : World) (H : Hld ((((w.alloc (Obj.cells #[.int .i64 (aX), .int .i64 (aY)] 28)).alloc (Obj.cells #[.int .i64 (bX), .int .i64 (bY)] 28)).alloc (Obj.cells #[.int .i64 (cX), .int .i64 (cY)] 28)).alloc (Obj.cells #[.int .i64 (dX), .int .i64 (dY)] 28)) w1), R 9 #[true, true, false, true, true, false, true, true, false, false, false, false, false, false, false] (⟨#[.agg #[.int .i64 aX, .int .i64 aY], .agg #[.int .i64 bX, .int .i64 bY], .agg #[.int .i64 cX, .int .i64 cY], .agg #[.int .i64 dX, .int .i64 dY], .pointer (some ⟨w.heap.size, 0, none⟩), .pointer (some ⟨w.heap.size + 1, 0, none⟩), .pointer (some ⟨w.heap.size + 1 + 1, 0, none⟩), .pointer (some ⟨w.heap.size + 1 + 1 + 1, 0, none⟩), .int .i64 0, undef, undef, undef, undef, .agg #[.int .i64 aX, .int .i64 aY], .agg #[.int .i64 dX, .int .i64 dY], undef, .agg #[.int .i64 bX, .int .i64 bY], .agg #[.int .i64 dX, .int .i64 dY], undef, .agg #[.int .i64 cX, .int .i64 cY], .agg #[.int .i64 dX, .int .i64 dY], undef, undef, undef, undef, undef, undef, undef, undef, undef, undef, undef, undef, undef, undef, undef, undef, undef, undef, undef, undef, undef, undef, undef, undef, undef, undef, undef, undef, undef, undef, undef, undef], []⟩ : Act) w1) := Lib.hid (by
    intro w1 H
    rw [hR.out]
    refine wpAnyH_ready (rs := [2, 9, 10, 11]) (by kernel_rfl) (by simp) ?_
    refine AllReadyH.cons rfl (fun K hK => ?_) ?_
    · go_simp
      refine (K1.out _).mono ?_
      rintro e w2 ⟨rfl, b9⟩
      have H2 := Hld.call H b9
      go_wp2_with fail
      refine hK.out _ _ H2 (fun _ => ?_)
      clear hK K
      rw [← hR.out]
      exact P1_n_0.out _ H2
    refine AllReadyH.cons rfl (fun K hK => ?_) ?_
    · go_simp
      refine hK.out _ _ (Hld.alloc H _) (fun _ => ?_)
      clear hK K
      rw [← hR.out]
      exact P0_0_0.out _ (Hld.alloc H _) _ (Box2.new (HB0.out w1 H) 0 0 _)
    refine AllReadyH.cons rfl (fun K hK => ?_) ?_
    · go_simp
      refine hK.out _ _ (Hld.alloc H _) (fun _ => ?_)
      clear hK K
      rw [← hR.out]
      exact P0_1_0.out _ (Hld.alloc H _) _ (Box2.new (HB0.out w1 H) 0 0 _)
    refine AllReadyH.cons rfl (fun K hK => ?_) ?_
    · go_simp
      refine hK.out _ _ (Hld.alloc H _) (fun _ => ?_)
      clear hK K
      rw [← hR.out]
      exact P0_2_0.out _ (Hld.alloc H _) _ (Box2.new (HB0.out w1 H) 0 0 _)
    exact AllReadyH.nil)
  exact P0_n_0.out _ hHeld

end Go.Proofs.Ytgnjmcfkehgdfaa
