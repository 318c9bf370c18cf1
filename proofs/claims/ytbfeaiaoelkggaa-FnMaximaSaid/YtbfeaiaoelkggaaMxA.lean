/- Contracts of functions that this seat's statements reach: each is shown to compute a plain Lean function, and to leave what was there as it was. No conditions but those in each theorem. -/
import Derived.Test.YtbfeaiaoelkggaaRowsP3
import Derived.Test.YtbfeaiaoelkggaaPlainM
import Derived.Test.YtbfeaiaoelkggaaGn
namespace Go.Proofs.Ytbfeaiaoelkggaa
open Go.RowKit
set_option linter.unusedVariables false

theorem impl_above (x y z u : Int) (w : World) : Calls Try.prog 36 #[.agg #[.int .i64 x, .int .i64 y], .agg #[.int .i64 z, .int .i64 u]] w fun e w' => e = .returned (.bool (decide (z ≤ x) && decide (u ≤ y))) ∧ Below w.heap.size w w' := by
  by_cases h1 : z ≤ x
  · by_cases h2 : u ≤ y
    · have i1 : decide (z ≤ x) = true := by simp [h1]
      have i2 : decide (u ≤ y) = true := by simp [h2]
      go_enter Try.func36, Try.ntmps36
      go_wp2
      go_ret
      exact ⟨ret_bool (by first | rfl | (simp; done) | (simp [h1]; done) | (simp [h2]; done) | (simp [h1, h2]; done)), (by (repeat (first | with_reducible exact Below.refl _ _ | with_reducible refine bl_alloc ?_ _ | with_reducible refine bl_drew ?_ | with_reducible refine bl_set ?_ (by first | (simp; done) | (simp; omega)) _ | with_reducible refine bl_call (by assumption) ?_)))⟩
    · have i1 : decide (z ≤ x) = true := by simp [h1]
      have i2 : decide (u ≤ y) = false := by simp [h2]
      go_enter Try.func36, Try.ntmps36
      go_wp2
      go_ret
      exact ⟨ret_bool (by first | rfl | (simp; done) | (simp [h1]; done) | (simp [h2]; done) | (simp [h1, h2]; done)), (by (repeat (first | with_reducible exact Below.refl _ _ | with_reducible refine bl_alloc ?_ _ | with_reducible refine bl_drew ?_ | with_reducible refine bl_set ?_ (by first | (simp; done) | (simp; omega)) _ | with_reducible refine bl_call (by assumption) ?_)))⟩
  · have i1 : decide (z ≤ x) = false := by simp [h1]
    go_enter Try.func36, Try.ntmps36
    go_wp2
    go_ret
    exact ⟨ret_bool (by first | rfl | (simp; done) | (simp [h1]; done)), (by (repeat (first | with_reducible exact Below.refl _ _ | with_reducible refine bl_alloc ?_ _ | with_reducible refine bl_drew ?_ | with_reducible refine bl_set ?_ (by first | (simp; done) | (simp; omega)) _ | with_reducible refine bl_call (by assumption) ?_)))⟩

set_option maxHeartbeats 1000000 in
theorem impl_Maxima_1_1 (x y z u : Int) (P : Nat) (w : World) (hP : P < w.heap.size) (h0 : w.cell? ⟨P, 0, none⟩ = some (.int .i64 z)) (h1 : w.cell? ⟨P, 1, none⟩ = some (.int .i64 u)) :
    Calls Try.prog 35 #[.agg #[.int .i64 x, .int .i64 y], .pointer (some ⟨P, 0, none⟩)] w fun e w' => e = .returned (.bool (doP (z, u) (x, y))) ∧ Below w.heap.size w w' := by
  have e0 := calloc h0 (Obj.cells #[.int .i64 x, .int .i64 y] 30)
  have e1 := calloc h1 (Obj.cells #[.int .i64 x, .int .i64 y] 30)
  have HA := Lib.hid (fun W => impl_above x y z u W)
  unfold doP
  dsimp only
  by_cases c1 : x = z
  · by_cases c2 : y = u
    · subst c1 c2
      have i1 : (x == x) = true := by simp
      have i2 : (y == y) = true := by simp
      go_enter Try.func35, Try.ntmps35
      go_wp2
      go_ret
      exact ⟨ret_bool (by simp), (by (repeat (first | with_reducible exact Below.refl _ _ | with_reducible refine bl_alloc ?_ _ | with_reducible refine bl_drew ?_ | with_reducible refine bl_set ?_ (by first | (simp; done) | (simp; omega)) _ | with_reducible refine bl_call (by assumption) ?_)))⟩

    · subst c1
      have i1 : (x == x) = true := by simp
      have i2 : (y == u) = false := by simp [c2]
      go_enter Try.func35, Try.ntmps35
      go_wp2_with (go_at_call 36; refine (HA.out _).mono ?_; rintro e w' ⟨rfl, hb'⟩)
      go_ret
      exact ⟨ret_bool (by simp [c2]), (by (repeat (first | with_reducible exact Below.refl _ _ | with_reducible refine bl_alloc ?_ _ | with_reducible refine bl_drew ?_ | with_reducible refine bl_set ?_ (by first | (simp; done) | (simp; omega)) _ | with_reducible refine bl_call (by assumption) ?_)))⟩

  · have i1 : (x == z) = false := by simp [c1]
    go_enter Try.func35, Try.ntmps35
    go_wp2_with (go_at_call 36; refine (HA.out _).mono ?_; rintro e w' ⟨rfl, hb'⟩)
    go_ret
    exact ⟨ret_bool (by simp [c1]), (by (repeat (first | with_reducible exact Below.refl _ _ | with_reducible refine bl_alloc ?_ _ | with_reducible refine bl_drew ?_ | with_reducible refine bl_set ?_ (by first | (simp; done) | (simp; omega)) _ | with_reducible refine bl_call (by assumption) ?_)))⟩

set_option maxHeartbeats 1000000 in
theorem impl_Maxima_1 (b off n c : Nat) (zs : List (Int × Int)) (z u : Int) (P : Nat) (w : World) (hn : n ≤ 1048576) (hz : zs.length = n) (hb : b < w.heap.size) (hr : rowOfPoint w b off zs) (hP : P < w.heap.size) (hL : w.cell? ⟨P, 0, none⟩ = some (.slice (some ⟨b, off, none⟩) n c)) :
    Calls Try.prog 33 #[.agg #[.int .i64 z, .int .i64 u], .pointer (some ⟨P, 0, none⟩)] w fun e w' => e = .returned (.bool (mxP zs (z, u))) ∧ Below w.heap.size w w' := by
  have HL := Lib.hid (calloc hL (Obj.cells #[.int .i64 z, .int .i64 u] 30))
  have hL2 := HL.out
  have HR := Lib.hid hr
  have hB := Lib.hid hb
  clear hL hr hb
  have eg : ∀ args w, (callFunc 35 args).run Try.prog w = .ok (.enter 35 args) w := enters_of Try.func35 (by kernel_rfl) rfl
  have HE := Lib.hid (fun W (B : Below w.heap.size w W) (hP : w.heap.size < W.heap.size) (e0 : W.cell? ⟨w.heap.size, 0, none⟩ = some (.int .i64 z)) (e1 : W.cell? ⟨w.heap.size, 1, none⟩ = some (.int .i64 u)) => containsFunc_Point (doP (z, u)) 35 #[.pointer (some ⟨w.heap.size, 0, none⟩)] eg b off n c zs W (fun W2 q hq hW => (impl_Maxima_1_1 q.1 q.2 z u w.heap.size W2 (Nat.lt_of_lt_of_le hP hW.size) ((hW.cell (p := ⟨w.heap.size, 0, none⟩) hP).trans e0) ((hW.cell (p := ⟨w.heap.size, 1, none⟩) hP).trans e1)).mono fun _ _ ⟨he, hw⟩ => ⟨he, bl_call hw hW⟩) hz (by omega) (Nat.lt_of_lt_of_le hB.out B.size) (row_belowPoint HR.out hB.out B))
  clear eg
  show Calls _ _ _ _ fun e w' => e = .returned (.bool (!(zs.any (doP (z, u))))) ∧ _
  generalize (zs.any (doP (z, u))) = r at HE ⊢
  go_enter Try.func33, Try.ntmps33
  go_wp2_with (go_at_call 34; refine (HE.out _ (by (repeat (first | with_reducible exact Below.refl _ _ | with_reducible refine bl_alloc ?_ _ | with_reducible refine bl_drew ?_ | with_reducible refine bl_set ?_ (by first | (simp; done) | (simp; omega)) _ | with_reducible refine bl_call (by assumption) ?_))) (by simp) (by simp [go_sem]) (by simp [go_sem])).mono ?_; rintro e w' ⟨rfl, hb'⟩)
  go_ret
  exact ⟨rfl, (by (repeat (first | with_reducible exact Below.refl _ _ | with_reducible refine bl_alloc ?_ _ | with_reducible refine bl_drew ?_ | with_reducible refine bl_set ?_ (by first | (simp; done) | (simp; omega)) _ | with_reducible refine bl_call (by assumption) ?_)))⟩

end Go.Proofs.Ytbfeaiaoelkggaa
