/- Contracts of functions that this seat's statements reach: each is shown to compute a plain Lean function, and to leave what was there as it was. No conditions but those in each theorem. -/
import Derived.Test.YtbhcodmpcknllaaS1
import Derived.Test.YtbhcodmpcknllaaB1
import Derived.Test.YtbhcodmpcknllaaPlainI
import Derived.Test.YtbhcodmpcknllaaGn
namespace Go.Proofs.Ytbhcodmpcknllaa
open Go.RowKit
set_option linter.unusedVariables false

open Go.Sort

set_option maxHeartbeats 8000000 in
theorem spec_inTriangle (aX : Int) (aY : Int) (bX : Int) (bY : Int) (cX : Int) (cY : Int) (x : Int) (y : Int) (w : World) (haX : -1000 ≤ aX ∧ aX ≤ 1000) (haY : -1000 ≤ aY ∧ aY ≤ 1000) (hbX : -1000 ≤ bX ∧ bX ≤ 1000) (hbY : -1000 ≤ bY ∧ bY ≤ 1000) (hcX : -1000 ≤ cX ∧ cX ≤ 1000) (hcY : -1000 ≤ cY ∧ cY ≤ 1000) (hx : -1000 ≤ x ∧ x ≤ 1000) (hy : -1000 ≤ y ∧ y ≤ 1000) :
    Calls Try.prog 68 #[.agg #[.int .i64 aX, .int .i64 aY], .agg #[.int .i64 bX, .int .i64 bY], .agg #[.int .i64 cX, .int .i64 cY], .agg #[.int .i64 x, .int .i64 y]] w fun e w' => e = .returned (.bool (TriB aX aY bX bY cX cY x y)) ∧ Below w.heap.size w w' := by
  by_cases hz : crossV aX aY bX bY cX cY = 0
  · rw [tri_line _ _ _ _ _ _ _ _ hz]
    have Babc := cross_bd1 aX aY bX bY cX cY haX haY hbX hbY hcX hcY
    have Babq := cross_bd1 aX aY bX bY x y haX haY hbX hbY hx hy
    have Bbcq := cross_bd1 bX bY cX cY x y hbX hbY hcX hcY hx hy
    have Bcaq := cross_bd1 cX cY aX aY x y hcX hcY haX haY hx hy
    have Sabc := sgn_bd1 (crossV aX aY bX bY cX cY)
    have Sabq := sgn_bd1 (crossV aX aY bX bY x y)
    have Sbcq := sgn_bd1 (crossV bX bY cX cY x y)
    have Scaq := sgn_bd1 (crossV cX cY aX aY x y)
    obtain ⟨laX, uaX⟩ := haX
    obtain ⟨laY, uaY⟩ := haY
    obtain ⟨lbX, ubX⟩ := hbX
    obtain ⟨lbY, ubY⟩ := hbY
    obtain ⟨lcX, ucX⟩ := hcX
    obtain ⟨lcY, ucY⟩ := hcY
    obtain ⟨lx, ux⟩ := hx
    obtain ⟨ly, uy⟩ := hy
    have K1 : Hid (∀ W : World, Calls Try.prog 109 #[.agg #[.int .i64 aX, .int .i64 aY], .agg #[.int .i64 bX, .int .i64 bY], .agg #[.int .i64 cX, .int .i64 cY]] W fun e w' => e = .returned (.int .i64 0) ∧ Below W.heap.size W w') := Lib.hid fun W => by
      have h := spec_cross (aX) (aY) (bX) (bY) (cX) (cY) W (by omega) (by omega) (by omega) (by omega) (by omega) (by omega)
      rw [hz] at h
      exact h
    have K2 : Hid (∀ W : World, Calls Try.prog 108 #[.int .i64 0] W fun e w' => e = .returned (.int .i64 0) ∧ W = w') := Lib.hid fun W => by
      have h := spec_sign (0) W
      exact h
    have K3 : Hid (∀ W : World, Calls Try.prog 110 #[.agg #[.int .i64 aX, .int .i64 aY, .int .i64 bX, .int .i64 bY], .agg #[.int .i64 x, .int .i64 y]] W fun e w' => e = .returned (.bool (hasB aX aY bX bY x y)) ∧ Below W.heap.size W w') := Lib.hid fun W => by
      have h := spec_onSegment (aX) (aY) (bX) (bY) (x) (y) W (by omega) (by omega) (by omega) (by omega) (by omega) (by omega)
      exact h
    have K4 : Hid (∀ W : World, Calls Try.prog 110 #[.agg #[.int .i64 bX, .int .i64 bY, .int .i64 cX, .int .i64 cY], .agg #[.int .i64 x, .int .i64 y]] W fun e w' => e = .returned (.bool (hasB bX bY cX cY x y)) ∧ Below W.heap.size W w') := Lib.hid fun W => by
      have h := spec_onSegment (bX) (bY) (cX) (cY) (x) (y) W (by omega) (by omega) (by omega) (by omega) (by omega) (by omega)
      exact h
    have K5 : Hid (∀ W : World, Calls Try.prog 110 #[.agg #[.int .i64 aX, .int .i64 aY, .int .i64 cX, .int .i64 cY], .agg #[.int .i64 x, .int .i64 y]] W fun e w' => e = .returned (.bool (hasB aX aY cX cY x y)) ∧ Below W.heap.size W w') := Lib.hid fun W => by
      have h := spec_onSegment (aX) (aY) (cX) (cY) (x) (y) W (by omega) (by omega) (by omega) (by omega) (by omega) (by omega)
      exact h
    clear hz Babc Sabc Babq Sabq Bbcq Sbcq Bcaq Scaq
    go_enter Try.func68, Try.ntmps68
    go_wp2_with (first | (go_at_call 109; (with_reducible refine (K1.out _).mono ?_); rintro e w' ⟨rfl, hb⟩; obtain ⟨hc, hf⟩ := bcell hb; have z0 : w.heap.size < w'.heap.size := (by have h9 := hb.size; (try simp at h9); omega); have z1 : w.heap.size + 1 < w'.heap.size := (by have h9 := hb.size; (try simp at h9); omega); have z2 : w.heap.size + 1 + 1 < w'.heap.size := (by have h9 := hb.size; (try simp at h9); omega); have z3 : w.heap.size + 1 + 1 + 1 < w'.heap.size := (by have h9 := hb.size; (try simp at h9); omega)) | (go_at_call 108; (with_reducible refine (K2.out _).mono ?_); rintro e w' ⟨rfl, rfl⟩) | (go_at_call 110; refine (spec_onSegment _ _ _ _ _ _ _ (by omega) (by omega) (by omega) (by omega) (by omega) (by omega)).mono ?_; rintro e w' ⟨rfl, hb⟩; obtain ⟨hc, hf⟩ := bcell hb; have z0 : w.heap.size < w'.heap.size := (by have h9 := hb.size; (try simp at h9); omega); have z1 : w.heap.size + 1 < w'.heap.size := (by have h9 := hb.size; (try simp at h9); omega); have z2 : w.heap.size + 1 + 1 < w'.heap.size := (by have h9 := hb.size; (try simp at h9); omega); have z3 : w.heap.size + 1 + 1 + 1 < w'.heap.size := (by have h9 := hb.size; (try simp at h9); omega)))
    all_goals go_ret
    all_goals exact ⟨ret_bool (by first | (simp_all; done) | (simp_all; intros; omega)), (by (repeat (first | with_reducible exact Below.refl _ _ | with_reducible refine bl_alloc ?_ _ | with_reducible refine bl_drew ?_ | with_reducible refine bl_set ?_ (by first | (simp; done) | (simp; omega)) _ | with_reducible refine bl_call (by assumption) ?_)))⟩
  · rw [tri_area _ _ _ _ _ _ _ _ hz]
    have Babc := cross_bd1 aX aY bX bY cX cY haX haY hbX hbY hcX hcY
    have Babq := cross_bd1 aX aY bX bY x y haX haY hbX hbY hx hy
    have Bbcq := cross_bd1 bX bY cX cY x y hbX hbY hcX hcY hx hy
    have Bcaq := cross_bd1 cX cY aX aY x y hcX hcY haX haY hx hy
    have Sabc := sgn_bd1 (crossV aX aY bX bY cX cY)
    have Sabq := sgn_bd1 (crossV aX aY bX bY x y)
    have Sbcq := sgn_bd1 (crossV bX bY cX cY x y)
    have Scaq := sgn_bd1 (crossV cX cY aX aY x y)
    obtain ⟨laX, uaX⟩ := haX
    obtain ⟨laY, uaY⟩ := haY
    obtain ⟨lbX, ubX⟩ := hbX
    obtain ⟨lbY, ubY⟩ := hbY
    obtain ⟨lcX, ucX⟩ := hcX
    obtain ⟨lcY, ucY⟩ := hcY
    obtain ⟨lx, ux⟩ := hx
    obtain ⟨ly, uy⟩ := hy
    have hs : ¬ sgnI (crossV aX aY bX bY cX cY) = 0 := fun h => hz ((sgnI_zero_iff _).1 h)
    have K1 : Hid (∀ W : World, Calls Try.prog 109 #[.agg #[.int .i64 aX, .int .i64 aY], .agg #[.int .i64 bX, .int .i64 bY], .agg #[.int .i64 cX, .int .i64 cY]] W fun e w' => e = .returned (.int .i64 (crossV aX aY bX bY cX cY)) ∧ Below W.heap.size W w') := Lib.hid fun W => by
      have h := spec_cross (aX) (aY) (bX) (bY) (cX) (cY) W (by omega) (by omega) (by omega) (by omega) (by omega) (by omega)
      exact h
    have K2 : Hid (∀ W : World, Calls Try.prog 108 #[.int .i64 (crossV aX aY bX bY cX cY)] W fun e w' => e = .returned (.int .i64 (sgnI (crossV aX aY bX bY cX cY))) ∧ W = w') := Lib.hid fun W => by
      have h := spec_sign (crossV aX aY bX bY cX cY) W
      exact h
    have K3 : Hid (∀ W : World, Calls Try.prog 109 #[.agg #[.int .i64 aX, .int .i64 aY], .agg #[.int .i64 bX, .int .i64 bY], .agg #[.int .i64 x, .int .i64 y]] W fun e w' => e = .returned (.int .i64 (crossV aX aY bX bY x y)) ∧ Below W.heap.size W w') := Lib.hid fun W => by
      have h := spec_cross (aX) (aY) (bX) (bY) (x) (y) W (by omega) (by omega) (by omega) (by omega) (by omega) (by omega)
      exact h
    have K4 : Hid (∀ W : World, Calls Try.prog 108 #[.int .i64 (crossV aX aY bX bY x y)] W fun e w' => e = .returned (.int .i64 (sgnI (crossV aX aY bX bY x y))) ∧ W = w') := Lib.hid fun W => by
      have h := spec_sign (crossV aX aY bX bY x y) W
      exact h
    have K5 : Hid (∀ W : World, Calls Try.prog 109 #[.agg #[.int .i64 bX, .int .i64 bY], .agg #[.int .i64 cX, .int .i64 cY], .agg #[.int .i64 x, .int .i64 y]] W fun e w' => e = .returned (.int .i64 (crossV bX bY cX cY x y)) ∧ Below W.heap.size W w') := Lib.hid fun W => by
      have h := spec_cross (bX) (bY) (cX) (cY) (x) (y) W (by omega) (by omega) (by omega) (by omega) (by omega) (by omega)
      exact h
    have K6 : Hid (∀ W : World, Calls Try.prog 108 #[.int .i64 (crossV bX bY cX cY x y)] W fun e w' => e = .returned (.int .i64 (sgnI (crossV bX bY cX cY x y))) ∧ W = w') := Lib.hid fun W => by
      have h := spec_sign (crossV bX bY cX cY x y) W
      exact h
    have K7 : Hid (∀ W : World, Calls Try.prog 109 #[.agg #[.int .i64 cX, .int .i64 cY], .agg #[.int .i64 aX, .int .i64 aY], .agg #[.int .i64 x, .int .i64 y]] W fun e w' => e = .returned (.int .i64 (crossV cX cY aX aY x y)) ∧ Below W.heap.size W w') := Lib.hid fun W => by
      have h := spec_cross (cX) (cY) (aX) (aY) (x) (y) W (by omega) (by omega) (by omega) (by omega) (by omega) (by omega)
      exact h
    have K8 : Hid (∀ W : World, Calls Try.prog 108 #[.int .i64 (crossV cX cY aX aY x y)] W fun e w' => e = .returned (.int .i64 (sgnI (crossV cX cY aX aY x y))) ∧ W = w') := Lib.hid fun W => by
      have h := spec_sign (crossV cX cY aX aY x y) W
      exact h
    obtain ⟨Blabc, Buabc⟩ := Babc
    obtain ⟨Slabc, Suabc⟩ := Sabc
    obtain ⟨Blabq, Buabq⟩ := Babq
    obtain ⟨Slabq, Suabq⟩ := Sabq
    obtain ⟨Blbcq, Bubcq⟩ := Bbcq
    obtain ⟨Slbcq, Subcq⟩ := Sbcq
    obtain ⟨Blcaq, Bucaq⟩ := Bcaq
    obtain ⟨Slcaq, Sucaq⟩ := Scaq
    obtain ⟨Mlabq, Muabq⟩ := mul_bd (sgnI (crossV aX aY bX bY x y)) (sgnI (crossV aX aY bX bY cX cY)) 1 8000000 ⟨by omega, by omega⟩ ⟨by omega, by omega⟩ (by omega) (by omega)
    obtain ⟨Mlbcq, Mubcq⟩ := mul_bd (sgnI (crossV bX bY cX cY x y)) (sgnI (crossV aX aY bX bY cX cY)) 1 8000000 ⟨by omega, by omega⟩ ⟨by omega, by omega⟩ (by omega) (by omega)
    obtain ⟨Mlcaq, Mucaq⟩ := mul_bd (sgnI (crossV cX cY aX aY x y)) (sgnI (crossV aX aY bX bY cX cY)) 1 8000000 ⟨by omega, by omega⟩ ⟨by omega, by omega⟩ (by omega) (by omega)
    generalize sgnI (crossV aX aY bX bY cX cY) = SC0 at *
    generalize crossV aX aY bX bY cX cY = C0 at *
    generalize sgnI (crossV aX aY bX bY x y) = SC1 at *
    generalize crossV aX aY bX bY x y = C1 at *
    generalize sgnI (crossV bX bY cX cY x y) = SC2 at *
    generalize crossV bX bY cX cY x y = C2 at *
    generalize sgnI (crossV cX cY aX aY x y) = SC3 at *
    generalize crossV cX cY aX aY x y = C3 at *
    clear hz
    have hs2 : (SC0 == 0) = false := by simp [hs]
    clear hs
    go_enter Try.func68, Try.ntmps68
    go_wp2_with (first | (go_at_call 109; (with_reducible refine (K1.out _).mono ?_); rintro e w' ⟨rfl, hb⟩; obtain ⟨hc, hf⟩ := bcell hb; have z0 : w.heap.size < w'.heap.size := (by have h9 := hb.size; (try simp at h9); omega); have z1 : w.heap.size + 1 < w'.heap.size := (by have h9 := hb.size; (try simp at h9); omega); have z2 : w.heap.size + 1 + 1 < w'.heap.size := (by have h9 := hb.size; (try simp at h9); omega); have z3 : w.heap.size + 1 + 1 + 1 < w'.heap.size := (by have h9 := hb.size; (try simp at h9); omega)) | (go_at_call 108; (with_reducible refine (K2.out _).mono ?_); rintro e w' ⟨rfl, rfl⟩) | (go_at_call 109; (with_reducible refine (K3.out _).mono ?_); rintro e w' ⟨rfl, hb⟩; obtain ⟨hc, hf⟩ := bcell hb; have z0 : w.heap.size < w'.heap.size := (by have h9 := hb.size; (try simp at h9); omega); have z1 : w.heap.size + 1 < w'.heap.size := (by have h9 := hb.size; (try simp at h9); omega); have z2 : w.heap.size + 1 + 1 < w'.heap.size := (by have h9 := hb.size; (try simp at h9); omega); have z3 : w.heap.size + 1 + 1 + 1 < w'.heap.size := (by have h9 := hb.size; (try simp at h9); omega)) | (go_at_call 108; (with_reducible refine (K4.out _).mono ?_); rintro e w' ⟨rfl, rfl⟩) | (go_at_call 109; (with_reducible refine (K5.out _).mono ?_); rintro e w' ⟨rfl, hb⟩; obtain ⟨hc, hf⟩ := bcell hb; have z0 : w.heap.size < w'.heap.size := (by have h9 := hb.size; (try simp at h9); omega); have z1 : w.heap.size + 1 < w'.heap.size := (by have h9 := hb.size; (try simp at h9); omega); have z2 : w.heap.size + 1 + 1 < w'.heap.size := (by have h9 := hb.size; (try simp at h9); omega); have z3 : w.heap.size + 1 + 1 + 1 < w'.heap.size := (by have h9 := hb.size; (try simp at h9); omega)) | (go_at_call 108; (with_reducible refine (K6.out _).mono ?_); rintro e w' ⟨rfl, rfl⟩) | (go_at_call 109; (with_reducible refine (K7.out _).mono ?_); rintro e w' ⟨rfl, hb⟩; obtain ⟨hc, hf⟩ := bcell hb; have z0 : w.heap.size < w'.heap.size := (by have h9 := hb.size; (try simp at h9); omega); have z1 : w.heap.size + 1 < w'.heap.size := (by have h9 := hb.size; (try simp at h9); omega); have z2 : w.heap.size + 1 + 1 < w'.heap.size := (by have h9 := hb.size; (try simp at h9); omega); have z3 : w.heap.size + 1 + 1 + 1 < w'.heap.size := (by have h9 := hb.size; (try simp at h9); omega)) | (go_at_call 108; (with_reducible refine (K8.out _).mono ?_); rintro e w' ⟨rfl, rfl⟩))
    all_goals go_ret
    all_goals exact ⟨ret_bool (by first | (simp_all; done) | (simp_all; intros; omega)), (by (repeat (first | with_reducible exact Below.refl _ _ | with_reducible refine bl_alloc ?_ _ | with_reducible refine bl_drew ?_ | with_reducible refine bl_set ?_ (by first | (simp; done) | (simp; omega)) _ | with_reducible refine bl_call (by assumption) ?_)))⟩

set_option maxHeartbeats 8000000 in
theorem impl_inTriangle (aX : Int) (aY : Int) (bX : Int) (bY : Int) (cX : Int) (cY : Int) (x : Int) (y : Int) (w : World) (haX : -1000 ≤ aX ∧ aX ≤ 1000) (haY : -1000 ≤ aY ∧ aY ≤ 1000) (hbX : -1000 ≤ bX ∧ bX ≤ 1000) (hbY : -1000 ≤ bY ∧ bY ≤ 1000) (hcX : -1000 ≤ cX ∧ cX ≤ 1000) (hcY : -1000 ≤ cY ∧ cY ≤ 1000) (hx : -1000 ≤ x ∧ x ≤ 1000) (hy : -1000 ≤ y ∧ y ≤ 1000) :
    Calls Try.prog 70 #[.agg #[.int .i64 aX, .int .i64 aY], .agg #[.int .i64 bX, .int .i64 bY], .agg #[.int .i64 cX, .int .i64 cY], .agg #[.int .i64 x, .int .i64 y]] w fun e w' => e = .returned (.bool (TriB aX aY bX bY cX cY x y)) ∧ Below w.heap.size w w' := by
  by_cases hz : crossV aX aY bX bY cX cY = 0
  · have hr : TriB aX aY bX bY cX cY x y = (hasB aX aY bX bY x y || (hasB bX bY cX cY x y || hasB cX cY aX aY x y)) := by unfold TriB; rw [if_pos hz]
    rw [hr]
    clear hr
    have Babc := cross_bd1 aX aY bX bY cX cY haX haY hbX hbY hcX hcY
    have Babq := cross_bd1 aX aY bX bY x y haX haY hbX hbY hx hy
    have Bbcq := cross_bd1 bX bY cX cY x y hbX hbY hcX hcY hx hy
    have Bcaq := cross_bd1 cX cY aX aY x y hcX hcY haX haY hx hy
    have Sabc := sgn_bd1 (crossV aX aY bX bY cX cY)
    have Sabq := sgn_bd1 (crossV aX aY bX bY x y)
    have Sbcq := sgn_bd1 (crossV bX bY cX cY x y)
    have Scaq := sgn_bd1 (crossV cX cY aX aY x y)
    obtain ⟨laX, uaX⟩ := haX
    obtain ⟨laY, uaY⟩ := haY
    obtain ⟨lbX, ubX⟩ := hbX
    obtain ⟨lbY, ubY⟩ := hbY
    obtain ⟨lcX, ucX⟩ := hcX
    obtain ⟨lcY, ucY⟩ := hcY
    obtain ⟨lx, ux⟩ := hx
    obtain ⟨ly, uy⟩ := hy
    have K1 : Hid (∀ W : World, Calls Try.prog 87 #[.agg #[.int .i64 aX, .int .i64 aY], .agg #[.int .i64 bX, .int .i64 bY], .agg #[.int .i64 cX, .int .i64 cY]] W fun e w' => e = .returned (.int .i64 0) ∧ Below W.heap.size W w') := Lib.hid fun W => by
      have h := impl_turn (aX) (aY) (bX) (bY) (cX) (cY) W (by omega) (by omega) (by omega) (by omega) (by omega) (by omega)
      rw [hz] at h
      exact h
    have K2 : Hid (∀ W : World, Calls Try.prog 94 #[.int .i64 0] W fun e w' => e = .returned (.int .i64 0) ∧ W = w') := Lib.hid fun W => by
      have h := impl_sign (0) W
      exact h
    have K3 : Hid (∀ W : World, Calls Try.prog 113 #[.agg #[.int .i64 aX, .int .i64 aY, .int .i64 bX, .int .i64 bY], .agg #[.int .i64 x, .int .i64 y]] W fun e w' => e = .returned (.bool (hasB aX aY bX bY x y)) ∧ Below W.heap.size W w') := Lib.hid fun W => by
      have h := impl_Segment_has (aX) (aY) (bX) (bY) (x) (y) W (by omega) (by omega) (by omega) (by omega) (by omega) (by omega)
      exact h
    have K4 : Hid (∀ W : World, Calls Try.prog 113 #[.agg #[.int .i64 bX, .int .i64 bY, .int .i64 cX, .int .i64 cY], .agg #[.int .i64 x, .int .i64 y]] W fun e w' => e = .returned (.bool (hasB bX bY cX cY x y)) ∧ Below W.heap.size W w') := Lib.hid fun W => by
      have h := impl_Segment_has (bX) (bY) (cX) (cY) (x) (y) W (by omega) (by omega) (by omega) (by omega) (by omega) (by omega)
      exact h
    have K5 : Hid (∀ W : World, Calls Try.prog 113 #[.agg #[.int .i64 cX, .int .i64 cY, .int .i64 aX, .int .i64 aY], .agg #[.int .i64 x, .int .i64 y]] W fun e w' => e = .returned (.bool (hasB cX cY aX aY x y)) ∧ Below W.heap.size W w') := Lib.hid fun W => by
      have h := impl_Segment_has (cX) (cY) (aX) (aY) (x) (y) W (by omega) (by omega) (by omega) (by omega) (by omega) (by omega)
      exact h
    generalize hasB aX aY bX bY x y = H0 at *
    generalize hasB bX bY cX cY x y = H1 at *
    generalize hasB cX cY aX aY x y = H2 at *
    clear hz Babc Sabc Babq Sabq Bbcq Sbcq Bcaq Scaq
    go_enter Try.func70, Try.ntmps70
    go_wp2_with (first | (go_at_call 87; (with_reducible refine (K1.out _).mono ?_); rintro e w' ⟨rfl, hb⟩; obtain ⟨hc, hf⟩ := bcell hb; have z0 : w.heap.size < w'.heap.size := (by have h9 := hb.size; (try simp at h9); omega); have z1 : w.heap.size + 1 < w'.heap.size := (by have h9 := hb.size; (try simp at h9); omega); have z2 : w.heap.size + 1 + 1 < w'.heap.size := (by have h9 := hb.size; (try simp at h9); omega); have z3 : w.heap.size + 1 + 1 + 1 < w'.heap.size := (by have h9 := hb.size; (try simp at h9); omega)) | (go_at_call 94; (with_reducible refine (K2.out _).mono ?_); rintro e w' ⟨rfl, rfl⟩) | (go_at_call 113; (with_reducible refine (K3.out _).mono ?_); rintro e w' ⟨rfl, hb⟩; obtain ⟨hc, hf⟩ := bcell hb; have z0 : w.heap.size < w'.heap.size := (by have h9 := hb.size; (try simp at h9); omega); have z1 : w.heap.size + 1 < w'.heap.size := (by have h9 := hb.size; (try simp at h9); omega); have z2 : w.heap.size + 1 + 1 < w'.heap.size := (by have h9 := hb.size; (try simp at h9); omega); have z3 : w.heap.size + 1 + 1 + 1 < w'.heap.size := (by have h9 := hb.size; (try simp at h9); omega)) | (go_at_call 113; (with_reducible refine (K4.out _).mono ?_); rintro e w' ⟨rfl, hb⟩; obtain ⟨hc, hf⟩ := bcell hb; have z0 : w.heap.size < w'.heap.size := (by have h9 := hb.size; (try simp at h9); omega); have z1 : w.heap.size + 1 < w'.heap.size := (by have h9 := hb.size; (try simp at h9); omega); have z2 : w.heap.size + 1 + 1 < w'.heap.size := (by have h9 := hb.size; (try simp at h9); omega); have z3 : w.heap.size + 1 + 1 + 1 < w'.heap.size := (by have h9 := hb.size; (try simp at h9); omega)) | (go_at_call 113; (with_reducible refine (K5.out _).mono ?_); rintro e w' ⟨rfl, hb⟩; obtain ⟨hc, hf⟩ := bcell hb; have z0 : w.heap.size < w'.heap.size := (by have h9 := hb.size; (try simp at h9); omega); have z1 : w.heap.size + 1 < w'.heap.size := (by have h9 := hb.size; (try simp at h9); omega); have z2 : w.heap.size + 1 + 1 < w'.heap.size := (by have h9 := hb.size; (try simp at h9); omega); have z3 : w.heap.size + 1 + 1 + 1 < w'.heap.size := (by have h9 := hb.size; (try simp at h9); omega)))
    all_goals go_ret
    all_goals exact ⟨ret_bool (by first | (simp_all; done) | (simp_all; intros; omega)), (by (repeat (first | with_reducible exact Below.refl _ _ | with_reducible refine bl_alloc ?_ _ | with_reducible refine bl_drew ?_ | with_reducible refine bl_set ?_ (by first | (simp; done) | (simp; omega)) _ | with_reducible refine bl_call (by assumption) ?_)))⟩
  · have hr : TriB aX aY bX bY cX cY x y = (decide (0 ≤ sgnI (crossV aX aY bX bY cX cY) * crossV aX aY bX bY x y) && (decide (0 ≤ sgnI (crossV aX aY bX bY cX cY) * crossV bX bY cX cY x y) && decide (0 ≤ sgnI (crossV aX aY bX bY cX cY) * crossV cX cY aX aY x y))) := by unfold TriB; rw [if_neg hz]
    rw [hr]
    clear hr
    have Babc := cross_bd1 aX aY bX bY cX cY haX haY hbX hbY hcX hcY
    have Babq := cross_bd1 aX aY bX bY x y haX haY hbX hbY hx hy
    have Bbcq := cross_bd1 bX bY cX cY x y hbX hbY hcX hcY hx hy
    have Bcaq := cross_bd1 cX cY aX aY x y hcX hcY haX haY hx hy
    have Sabc := sgn_bd1 (crossV aX aY bX bY cX cY)
    have Sabq := sgn_bd1 (crossV aX aY bX bY x y)
    have Sbcq := sgn_bd1 (crossV bX bY cX cY x y)
    have Scaq := sgn_bd1 (crossV cX cY aX aY x y)
    obtain ⟨laX, uaX⟩ := haX
    obtain ⟨laY, uaY⟩ := haY
    obtain ⟨lbX, ubX⟩ := hbX
    obtain ⟨lbY, ubY⟩ := hbY
    obtain ⟨lcX, ucX⟩ := hcX
    obtain ⟨lcY, ucY⟩ := hcY
    obtain ⟨lx, ux⟩ := hx
    obtain ⟨ly, uy⟩ := hy
    have hs : ¬ sgnI (crossV aX aY bX bY cX cY) = 0 := fun h => hz ((sgnI_zero_iff _).1 h)
    have K1 : Hid (∀ W : World, Calls Try.prog 87 #[.agg #[.int .i64 aX, .int .i64 aY], .agg #[.int .i64 bX, .int .i64 bY], .agg #[.int .i64 cX, .int .i64 cY]] W fun e w' => e = .returned (.int .i64 (crossV aX aY bX bY cX cY)) ∧ Below W.heap.size W w') := Lib.hid fun W => by
      have h := impl_turn (aX) (aY) (bX) (bY) (cX) (cY) W (by omega) (by omega) (by omega) (by omega) (by omega) (by omega)
      exact h
    have K2 : Hid (∀ W : World, Calls Try.prog 94 #[.int .i64 (crossV aX aY bX bY cX cY)] W fun e w' => e = .returned (.int .i64 (sgnI (crossV aX aY bX bY cX cY))) ∧ W = w') := Lib.hid fun W => by
      have h := impl_sign (crossV aX aY bX bY cX cY) W
      exact h
    have K3 : Hid (∀ W : World, Calls Try.prog 87 #[.agg #[.int .i64 aX, .int .i64 aY], .agg #[.int .i64 bX, .int .i64 bY], .agg #[.int .i64 x, .int .i64 y]] W fun e w' => e = .returned (.int .i64 (crossV aX aY bX bY x y)) ∧ Below W.heap.size W w') := Lib.hid fun W => by
      have h := impl_turn (aX) (aY) (bX) (bY) (x) (y) W (by omega) (by omega) (by omega) (by omega) (by omega) (by omega)
      exact h
    have K4 : Hid (∀ W : World, Calls Try.prog 87 #[.agg #[.int .i64 bX, .int .i64 bY], .agg #[.int .i64 cX, .int .i64 cY], .agg #[.int .i64 x, .int .i64 y]] W fun e w' => e = .returned (.int .i64 (crossV bX bY cX cY x y)) ∧ Below W.heap.size W w') := Lib.hid fun W => by
      have h := impl_turn (bX) (bY) (cX) (cY) (x) (y) W (by omega) (by omega) (by omega) (by omega) (by omega) (by omega)
      exact h
    have K5 : Hid (∀ W : World, Calls Try.prog 87 #[.agg #[.int .i64 cX, .int .i64 cY], .agg #[.int .i64 aX, .int .i64 aY], .agg #[.int .i64 x, .int .i64 y]] W fun e w' => e = .returned (.int .i64 (crossV cX cY aX aY x y)) ∧ Below W.heap.size W w') := Lib.hid fun W => by
      have h := impl_turn (cX) (cY) (aX) (aY) (x) (y) W (by omega) (by omega) (by omega) (by omega) (by omega) (by omega)
      exact h
    obtain ⟨Blabc, Buabc⟩ := Babc
    obtain ⟨Slabc, Suabc⟩ := Sabc
    obtain ⟨Blabq, Buabq⟩ := Babq
    obtain ⟨Slabq, Suabq⟩ := Sabq
    obtain ⟨Blbcq, Bubcq⟩ := Bbcq
    obtain ⟨Slbcq, Subcq⟩ := Sbcq
    obtain ⟨Blcaq, Bucaq⟩ := Bcaq
    obtain ⟨Slcaq, Sucaq⟩ := Scaq
    obtain ⟨Mlabq, Muabq⟩ := mul_bd (sgnI (crossV aX aY bX bY cX cY)) (crossV aX aY bX bY x y) 1 8000000 ⟨by omega, by omega⟩ ⟨by omega, by omega⟩ (by omega) (by omega)
    obtain ⟨Mlbcq, Mubcq⟩ := mul_bd (sgnI (crossV aX aY bX bY cX cY)) (crossV bX bY cX cY x y) 1 8000000 ⟨by omega, by omega⟩ ⟨by omega, by omega⟩ (by omega) (by omega)
    obtain ⟨Mlcaq, Mucaq⟩ := mul_bd (sgnI (crossV aX aY bX bY cX cY)) (crossV cX cY aX aY x y) 1 8000000 ⟨by omega, by omega⟩ ⟨by omega, by omega⟩ (by omega) (by omega)
    generalize sgnI (crossV aX aY bX bY cX cY) = SC0 at *
    generalize crossV aX aY bX bY cX cY = C0 at *
    generalize sgnI (crossV aX aY bX bY x y) = SC1 at *
    generalize crossV aX aY bX bY x y = C1 at *
    generalize sgnI (crossV bX bY cX cY x y) = SC2 at *
    generalize crossV bX bY cX cY x y = C2 at *
    generalize sgnI (crossV cX cY aX aY x y) = SC3 at *
    generalize crossV cX cY aX aY x y = C3 at *
    clear hz
    have hs2 : (SC0 == 0) = false := by simp [hs]
    clear hs
    go_enter Try.func70, Try.ntmps70
    go_wp2_with (first | (go_at_call 87; (with_reducible refine (K1.out _).mono ?_); rintro e w' ⟨rfl, hb⟩; obtain ⟨hc, hf⟩ := bcell hb; have z0 : w.heap.size < w'.heap.size := (by have h9 := hb.size; (try simp at h9); omega); have z1 : w.heap.size + 1 < w'.heap.size := (by have h9 := hb.size; (try simp at h9); omega); have z2 : w.heap.size + 1 + 1 < w'.heap.size := (by have h9 := hb.size; (try simp at h9); omega); have z3 : w.heap.size + 1 + 1 + 1 < w'.heap.size := (by have h9 := hb.size; (try simp at h9); omega)) | (go_at_call 94; (with_reducible refine (K2.out _).mono ?_); rintro e w' ⟨rfl, rfl⟩) | (go_at_call 87; (with_reducible refine (K3.out _).mono ?_); rintro e w' ⟨rfl, hb⟩; obtain ⟨hc, hf⟩ := bcell hb; have z0 : w.heap.size < w'.heap.size := (by have h9 := hb.size; (try simp at h9); omega); have z1 : w.heap.size + 1 < w'.heap.size := (by have h9 := hb.size; (try simp at h9); omega); have z2 : w.heap.size + 1 + 1 < w'.heap.size := (by have h9 := hb.size; (try simp at h9); omega); have z3 : w.heap.size + 1 + 1 + 1 < w'.heap.size := (by have h9 := hb.size; (try simp at h9); omega)) | (go_at_call 87; (with_reducible refine (K4.out _).mono ?_); rintro e w' ⟨rfl, hb⟩; obtain ⟨hc, hf⟩ := bcell hb; have z0 : w.heap.size < w'.heap.size := (by have h9 := hb.size; (try simp at h9); omega); have z1 : w.heap.size + 1 < w'.heap.size := (by have h9 := hb.size; (try simp at h9); omega); have z2 : w.heap.size + 1 + 1 < w'.heap.size := (by have h9 := hb.size; (try simp at h9); omega); have z3 : w.heap.size + 1 + 1 + 1 < w'.heap.size := (by have h9 := hb.size; (try simp at h9); omega)) | (go_at_call 87; (with_reducible refine (K5.out _).mono ?_); rintro e w' ⟨rfl, hb⟩; obtain ⟨hc, hf⟩ := bcell hb; have z0 : w.heap.size < w'.heap.size := (by have h9 := hb.size; (try simp at h9); omega); have z1 : w.heap.size + 1 < w'.heap.size := (by have h9 := hb.size; (try simp at h9); omega); have z2 : w.heap.size + 1 + 1 < w'.heap.size := (by have h9 := hb.size; (try simp at h9); omega); have z3 : w.heap.size + 1 + 1 + 1 < w'.heap.size := (by have h9 := hb.size; (try simp at h9); omega)))
    all_goals go_ret
    all_goals exact ⟨ret_bool (by first | (simp_all; done) | (simp_all; intros; omega)), (by (repeat (first | with_reducible exact Below.refl _ _ | with_reducible refine bl_alloc ?_ _ | with_reducible refine bl_drew ?_ | with_reducible refine bl_set ?_ (by first | (simp; done) | (simp; omega)) _ | with_reducible refine bl_call (by assumption) ?_)))⟩

end Go.Proofs.Ytbhcodmpcknllaa
