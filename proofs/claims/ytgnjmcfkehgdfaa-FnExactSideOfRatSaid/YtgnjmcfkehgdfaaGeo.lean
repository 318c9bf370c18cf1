/- Contracts of functions that this seat's statements reach: each is shown to compute a plain Lean function, and to leave what was there as it was. No conditions but those in each theorem. -/
import Derived.Test.YtgnjmcfkehgdfaaCtn
namespace Go.Proofs.Ytgnjmcfkehgdfaa
open Go.RowKit
set_option linter.unusedVariables false

open Go.Sort

theorem impl_Point_minus (x : Int) (y : Int) (a : Int) (b : Int) (w : World) (hx : -1000000 ≤ x ∧ x ≤ 1000000) (hy : -1000000 ≤ y ∧ y ≤ 1000000) (ha : -1000000 ≤ a ∧ a ≤ 1000000) (hb : -1000000 ≤ b ∧ b ≤ 1000000) :
    Calls Try.prog 43 #[.agg #[.int .i64 x, .int .i64 y], .agg #[.int .i64 a, .int .i64 b]] w fun e w' => e = .returned (.agg #[.int .i64 (x - a), .int .i64 (y - b)]) ∧ Below w.heap.size w w' := by
  obtain ⟨hx1, hx2⟩ := hx
  obtain ⟨hy1, hy2⟩ := hy
  obtain ⟨ha1, ha2⟩ := ha
  obtain ⟨hb1, hb2⟩ := hb
  go_enter Try.func43, Try.ntmps43
  go_wp2
  refine bodyPost_ret (v := .agg #[.int .i64 (x - a), .int .i64 (y - b)]) (by simp [results, Try.results43, go_sem]) rfl ⟨rfl, ?_⟩
  (repeat (first | with_reducible exact Below.refl _ _ | with_reducible refine bl_alloc ?_ _ | with_reducible refine bl_drew ?_ | with_reducible refine bl_set ?_ (by first | (simp; done) | (simp; omega)) _ | with_reducible refine bl_call (by assumption) ?_))

theorem impl_Point_cross (x : Int) (y : Int) (a : Int) (b : Int) (w : World) (hx : -1000000 ≤ x ∧ x ≤ 1000000) (hy : -1000000 ≤ y ∧ y ≤ 1000000) (ha : -1000000 ≤ a ∧ a ≤ 1000000) (hb : -1000000 ≤ b ∧ b ≤ 1000000) :
    Calls Try.prog 92 #[.agg #[.int .i64 x, .int .i64 y], .agg #[.int .i64 a, .int .i64 b]] w fun e w' => e = .returned (.int .i64 (x * b - y * a)) ∧ Below w.heap.size w w' := by
  have m_xb := mul_bd x b 1000000 1000000 (by omega) (by omega) (by omega) (by omega)
  have m_ya := mul_bd y a 1000000 1000000 (by omega) (by omega) (by omega) (by omega)
  obtain ⟨hx1, hx2⟩ := hx
  obtain ⟨hy1, hy2⟩ := hy
  obtain ⟨ha1, ha2⟩ := ha
  obtain ⟨hb1, hb2⟩ := hb
  obtain ⟨m1, m2⟩ := m_xb
  obtain ⟨m3, m4⟩ := m_ya
  go_enter Try.func92, Try.ntmps92
  go_wp2
  all_goals go_ret
  all_goals exact ⟨rfl, (by (repeat (first | with_reducible exact Below.refl _ _ | with_reducible refine bl_alloc ?_ _ | with_reducible refine bl_drew ?_ | with_reducible refine bl_set ?_ (by first | (simp; done) | (simp; omega)) _ | with_reducible refine bl_call (by assumption) ?_)))⟩

theorem impl_Point_dot (x : Int) (y : Int) (a : Int) (b : Int) (w : World) (hx : -1000000 ≤ x ∧ x ≤ 1000000) (hy : -1000000 ≤ y ∧ y ≤ 1000000) (ha : -1000000 ≤ a ∧ a ≤ 1000000) (hb : -1000000 ≤ b ∧ b ≤ 1000000) :
    Calls Try.prog 85 #[.agg #[.int .i64 x, .int .i64 y], .agg #[.int .i64 a, .int .i64 b]] w fun e w' => e = .returned (.int .i64 (x * a + y * b)) ∧ Below w.heap.size w w' := by
  have m_xa := mul_bd x a 1000000 1000000 (by omega) (by omega) (by omega) (by omega)
  have m_yb := mul_bd y b 1000000 1000000 (by omega) (by omega) (by omega) (by omega)
  obtain ⟨hx1, hx2⟩ := hx
  obtain ⟨hy1, hy2⟩ := hy
  obtain ⟨ha1, ha2⟩ := ha
  obtain ⟨hb1, hb2⟩ := hb
  obtain ⟨m1, m2⟩ := m_xa
  obtain ⟨m3, m4⟩ := m_yb
  go_enter Try.func85, Try.ntmps85
  go_wp2
  all_goals go_ret
  all_goals exact ⟨rfl, (by (repeat (first | with_reducible exact Below.refl _ _ | with_reducible refine bl_alloc ?_ _ | with_reducible refine bl_drew ?_ | with_reducible refine bl_set ?_ (by first | (simp; done) | (simp; omega)) _ | with_reducible refine bl_call (by assumption) ?_)))⟩

theorem impl_turn (a1 : Int) (a2 : Int) (b1 : Int) (b2 : Int) (c1 : Int) (c2 : Int) (w : World) (ha1 : -1000 ≤ a1 ∧ a1 ≤ 1000) (ha2 : -1000 ≤ a2 ∧ a2 ≤ 1000) (hb1 : -1000 ≤ b1 ∧ b1 ≤ 1000) (hb2 : -1000 ≤ b2 ∧ b2 ≤ 1000) (hc1 : -1000 ≤ c1 ∧ c1 ≤ 1000) (hc2 : -1000 ≤ c2 ∧ c2 ≤ 1000) :
    Calls Try.prog 63 #[.agg #[.int .i64 a1, .int .i64 a2], .agg #[.int .i64 b1, .int .i64 b2], .agg #[.int .i64 c1, .int .i64 c2]] w fun e w' => e = .returned (.int .i64 (crossV a1 a2 b1 b2 c1 c2)) ∧ Below w.heap.size w w' := by
  have fc0 : (((w.alloc (Obj.cells #[.int .i64 a1, .int .i64 a2] 28)).alloc (Obj.cells #[.int .i64 b1, .int .i64 b2] 28)).alloc (Obj.cells #[.int .i64 c1, .int .i64 c2] 28)).cell? ⟨w.heap.size, 0, none⟩ = some (.int .i64 a1) := by simp [go_sem]
  have fc1 : (((w.alloc (Obj.cells #[.int .i64 a1, .int .i64 a2] 28)).alloc (Obj.cells #[.int .i64 b1, .int .i64 b2] 28)).alloc (Obj.cells #[.int .i64 c1, .int .i64 c2] 28)).cell? ⟨w.heap.size, 1, none⟩ = some (.int .i64 a2) := by simp [go_sem]
  have fc2 : (((w.alloc (Obj.cells #[.int .i64 a1, .int .i64 a2] 28)).alloc (Obj.cells #[.int .i64 b1, .int .i64 b2] 28)).alloc (Obj.cells #[.int .i64 c1, .int .i64 c2] 28)).cell? ⟨w.heap.size + 1, 0, none⟩ = some (.int .i64 b1) := by simp [go_sem]
  have fc3 : (((w.alloc (Obj.cells #[.int .i64 a1, .int .i64 a2] 28)).alloc (Obj.cells #[.int .i64 b1, .int .i64 b2] 28)).alloc (Obj.cells #[.int .i64 c1, .int .i64 c2] 28)).cell? ⟨w.heap.size + 1, 1, none⟩ = some (.int .i64 b2) := by simp [go_sem]
  have fc4 : (((w.alloc (Obj.cells #[.int .i64 a1, .int .i64 a2] 28)).alloc (Obj.cells #[.int .i64 b1, .int .i64 b2] 28)).alloc (Obj.cells #[.int .i64 c1, .int .i64 c2] 28)).cell? ⟨w.heap.size + 1 + 1, 0, none⟩ = some (.int .i64 c1) := by simp [go_sem]
  have fc5 : (((w.alloc (Obj.cells #[.int .i64 a1, .int .i64 a2] 28)).alloc (Obj.cells #[.int .i64 b1, .int .i64 b2] 28)).alloc (Obj.cells #[.int .i64 c1, .int .i64 c2] 28)).cell? ⟨w.heap.size + 1 + 1, 1, none⟩ = some (.int .i64 c2) := by simp [go_sem]
  go_enter Try.func63, Try.ntmps63
  go_wp2
  have k0 := cell_regrown fc0
  have k1 := cell_regrown fc1
  have k2 := cell_regrown fc2
  have k3 := cell_regrown fc3
  have k4 := cell_regrown fc4
  have k5 := cell_regrown fc5
  clear fc0 fc1 fc2 fc3 fc4 fc5
  refine wp_region_quiet_below (by kernel_rfl) (by kernel_rfl) ?_
  repeat (go_big_quiet_step ((first | (go_at_call 43; exact Calls.regrown_of (impl_Point_minus _ _ _ _ _ (by omega) (by omega) (by omega) (by omega))) | (go_at_call 92; exact Calls.regrown_of (impl_Point_cross _ _ _ _ _ (by omega) (by omega) (by omega) (by omega))))))
  refine wpQuiet_nil ?_
  intro _ hw'
  obtain ⟨⟨dq, osq⟩, hw''⟩ := hw'
  subst hw''
  go_wp2
  go_ret
  exact ⟨rfl, bl_call (below_regrown _ dq osq) (by (repeat (first | with_reducible exact Below.refl _ _ | with_reducible refine bl_alloc ?_ _ | with_reducible refine bl_drew ?_ | with_reducible refine bl_set ?_ (by first | (simp; done) | (simp; omega)) _ | with_reducible refine bl_call (by assumption) ?_)))⟩

theorem impl_far (a1 : Int) (a2 : Int) (b1 : Int) (b2 : Int) (w : World) (ha1 : -1000 ≤ a1 ∧ a1 ≤ 1000) (ha2 : -1000 ≤ a2 ∧ a2 ≤ 1000) (hb1 : -1000 ≤ b1 ∧ b1 ≤ 1000) (hb2 : -1000 ≤ b2 ∧ b2 ≤ 1000) :
    Calls Try.prog 49 #[.agg #[.int .i64 a1, .int .i64 a2], .agg #[.int .i64 b1, .int .i64 b2]] w fun e w' => e = .returned (.int .i64 (farV a1 a2 b1 b2)) ∧ Below w.heap.size w w' := by
  have fc0 : ((w.alloc (Obj.cells #[.int .i64 a1, .int .i64 a2] 28)).alloc (Obj.cells #[.int .i64 b1, .int .i64 b2] 28)).cell? ⟨w.heap.size, 0, none⟩ = some (.int .i64 a1) := by simp [go_sem]
  have fc1 : ((w.alloc (Obj.cells #[.int .i64 a1, .int .i64 a2] 28)).alloc (Obj.cells #[.int .i64 b1, .int .i64 b2] 28)).cell? ⟨w.heap.size, 1, none⟩ = some (.int .i64 a2) := by simp [go_sem]
  have fc2 : ((w.alloc (Obj.cells #[.int .i64 a1, .int .i64 a2] 28)).alloc (Obj.cells #[.int .i64 b1, .int .i64 b2] 28)).cell? ⟨w.heap.size + 1, 0, none⟩ = some (.int .i64 b1) := by simp [go_sem]
  have fc3 : ((w.alloc (Obj.cells #[.int .i64 a1, .int .i64 a2] 28)).alloc (Obj.cells #[.int .i64 b1, .int .i64 b2] 28)).cell? ⟨w.heap.size + 1, 1, none⟩ = some (.int .i64 b2) := by simp [go_sem]
  go_enter Try.func49, Try.ntmps49
  go_wp2
  have k0 := cell_regrown fc0
  have k1 := cell_regrown fc1
  have k2 := cell_regrown fc2
  have k3 := cell_regrown fc3
  clear fc0 fc1 fc2 fc3
  refine wp_region_quiet_below (by kernel_rfl) (by kernel_rfl) ?_
  repeat (go_big_quiet_step ((first | (go_at_call 43; exact Calls.regrown_of (impl_Point_minus _ _ _ _ _ (by omega) (by omega) (by omega) (by omega))) | (go_at_call 85; exact Calls.regrown_of (impl_Point_dot _ _ _ _ _ (by omega) (by omega) (by omega) (by omega))))))
  refine wpQuiet_nil ?_
  intro _ hw'
  obtain ⟨⟨dq, osq⟩, hw''⟩ := hw'
  subst hw''
  go_wp2
  go_ret
  exact ⟨rfl, bl_call (below_regrown _ dq osq) (by (repeat (first | with_reducible exact Below.refl _ _ | with_reducible refine bl_alloc ?_ _ | with_reducible refine bl_drew ?_ | with_reducible refine bl_set ?_ (by first | (simp; done) | (simp; omega)) _ | with_reducible refine bl_call (by assumption) ?_)))⟩

theorem spec_cross (a1 : Int) (a2 : Int) (b1 : Int) (b2 : Int) (c1 : Int) (c2 : Int) (w : World) (ha1 : -1000 ≤ a1 ∧ a1 ≤ 1000) (ha2 : -1000 ≤ a2 ∧ a2 ≤ 1000) (hb1 : -1000 ≤ b1 ∧ b1 ≤ 1000) (hb2 : -1000 ≤ b2 ∧ b2 ≤ 1000) (hc1 : -1000 ≤ c1 ∧ c1 ≤ 1000) (hc2 : -1000 ≤ c2 ∧ c2 ≤ 1000) :
    Calls Try.prog 91 #[.agg #[.int .i64 a1, .int .i64 a2], .agg #[.int .i64 b1, .int .i64 b2], .agg #[.int .i64 c1, .int .i64 c2]] w fun e w' => e = .returned (.int .i64 (crossV a1 a2 b1 b2 c1 c2)) ∧ Below w.heap.size w w' := by
  obtain ⟨la1, ua1⟩ := ha1
  obtain ⟨la2, ua2⟩ := ha2
  obtain ⟨lb1, ub1⟩ := hb1
  obtain ⟨lb2, ub2⟩ := hb2
  obtain ⟨lc1, uc1⟩ := hc1
  obtain ⟨lc2, uc2⟩ := hc2
  obtain ⟨ml, mu⟩ := mul_bd (b1 - a1) (c2 - a2) 2000 2000 (by omega) (by omega) (by omega) (by omega)
  obtain ⟨kl, ku⟩ := mul_bd (b2 - a2) (c1 - a1) 2000 2000 (by omega) (by omega) (by omega) (by omega)
  go_enter Try.func91, Try.ntmps91
  go_wp2
  all_goals go_ret
  all_goals exact ⟨rfl, (by (repeat (first | with_reducible exact Below.refl _ _ | with_reducible refine bl_alloc ?_ _ | with_reducible refine bl_drew ?_ | with_reducible refine bl_set ?_ (by first | (simp; done) | (simp; omega)) _ | with_reducible refine bl_call (by assumption) ?_)))⟩

theorem spec_square (a1 : Int) (a2 : Int) (b1 : Int) (b2 : Int) (w : World) (ha1 : -1000 ≤ a1 ∧ a1 ≤ 1000) (ha2 : -1000 ≤ a2 ∧ a2 ≤ 1000) (hb1 : -1000 ≤ b1 ∧ b1 ≤ 1000) (hb2 : -1000 ≤ b2 ∧ b2 ≤ 1000) :
    Calls Try.prog 46 #[.agg #[.int .i64 a1, .int .i64 a2], .agg #[.int .i64 b1, .int .i64 b2]] w fun e w' => e = .returned (.int .i64 (farV a1 a2 b1 b2)) ∧ Below w.heap.size w w' := by
  obtain ⟨la1, ua1⟩ := ha1
  obtain ⟨la2, ua2⟩ := ha2
  obtain ⟨lb1, ub1⟩ := hb1
  obtain ⟨lb2, ub2⟩ := hb2
  obtain ⟨ml, mu⟩ := mul_bd (a1 - b1) (a1 - b1) 2000 2000 (by omega) (by omega) (by omega) (by omega)
  obtain ⟨kl, ku⟩ := mul_bd (a2 - b2) (a2 - b2) 2000 2000 (by omega) (by omega) (by omega) (by omega)
  go_enter Try.func46, Try.ntmps46
  go_wp2
  go_ret
  exact ⟨ret_int (by rw [farV, sq_sub a1 b1, sq_sub a2 b2]), (by (repeat (first | with_reducible exact Below.refl _ _ | with_reducible refine bl_alloc ?_ _ | with_reducible refine bl_drew ?_ | with_reducible refine bl_set ?_ (by first | (simp; done) | (simp; omega)) _ | with_reducible refine bl_call (by assumption) ?_)))⟩

end Go.Proofs.Ytgnjmcfkehgdfaa
