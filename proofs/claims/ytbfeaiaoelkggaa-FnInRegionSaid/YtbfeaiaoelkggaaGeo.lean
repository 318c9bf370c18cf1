/- Contracts of functions that this seat's statements reach: each is shown to compute a plain Lean function, and to leave what was there as it was. No conditions but those in each theorem. -/
import Derived.Test.YtbfeaiaoelkggaaCtn
namespace Go.Proofs.Ytbfeaiaoelkggaa
open Go.RowKit
set_option linter.unusedVariables false

open Go.Sort

theorem impl_Point_minus (x : Int) (y : Int) (a : Int) (b : Int) (w : World) (hx : -1000000 ≤ x ∧ x ≤ 1000000) (hy : -1000000 ≤ y ∧ y ≤ 1000000) (ha : -1000000 ≤ a ∧ a ≤ 1000000) (hb : -1000000 ≤ b ∧ b ≤ 1000000) :
    Calls Try.prog 60 #[.agg #[.int .i64 x, .int .i64 y], .agg #[.int .i64 a, .int .i64 b]] w fun e w' => e = .returned (.agg #[.int .i64 (x - a), .int .i64 (y - b)]) ∧ Below w.heap.size w w' := by
  obtain ⟨hx1, hx2⟩ := hx
  obtain ⟨hy1, hy2⟩ := hy
  obtain ⟨ha1, ha2⟩ := ha
  obtain ⟨hb1, hb2⟩ := hb
  go_enter Try.func60, Try.ntmps60
  go_wp2
  refine bodyPost_ret (v := .agg #[.int .i64 (x - a), .int .i64 (y - b)]) (by simp [results, Try.results60, go_sem]) rfl ⟨rfl, ?_⟩
  (repeat (first | with_reducible exact Below.refl _ _ | with_reducible refine bl_alloc ?_ _ | with_reducible refine bl_drew ?_ | with_reducible refine bl_set ?_ (by first | (simp; done) | (simp; omega)) _ | with_reducible refine bl_call (by assumption) ?_))

theorem impl_Point_dot (x : Int) (y : Int) (a : Int) (b : Int) (w : World) (hx : -1000000 ≤ x ∧ x ≤ 1000000) (hy : -1000000 ≤ y ∧ y ≤ 1000000) (ha : -1000000 ≤ a ∧ a ≤ 1000000) (hb : -1000000 ≤ b ∧ b ≤ 1000000) :
    Calls Try.prog 61 #[.agg #[.int .i64 x, .int .i64 y], .agg #[.int .i64 a, .int .i64 b]] w fun e w' => e = .returned (.int .i64 (x * a + y * b)) ∧ Below w.heap.size w w' := by
  have m_xa := mul_bd x a 1000000 1000000 (by omega) (by omega) (by omega) (by omega)
  have m_yb := mul_bd y b 1000000 1000000 (by omega) (by omega) (by omega) (by omega)
  obtain ⟨hx1, hx2⟩ := hx
  obtain ⟨hy1, hy2⟩ := hy
  obtain ⟨ha1, ha2⟩ := ha
  obtain ⟨hb1, hb2⟩ := hb
  obtain ⟨m1, m2⟩ := m_xa
  obtain ⟨m3, m4⟩ := m_yb
  go_enter Try.func61, Try.ntmps61
  go_wp2
  all_goals go_ret
  all_goals exact ⟨rfl, (by (repeat (first | with_reducible exact Below.refl _ _ | with_reducible refine bl_alloc ?_ _ | with_reducible refine bl_drew ?_ | with_reducible refine bl_set ?_ (by first | (simp; done) | (simp; omega)) _ | with_reducible refine bl_call (by assumption) ?_)))⟩

theorem impl_far (a1 : Int) (a2 : Int) (b1 : Int) (b2 : Int) (w : World) (ha1 : -1000 ≤ a1 ∧ a1 ≤ 1000) (ha2 : -1000 ≤ a2 ∧ a2 ≤ 1000) (hb1 : -1000 ≤ b1 ∧ b1 ≤ 1000) (hb2 : -1000 ≤ b2 ∧ b2 ≤ 1000) :
    Calls Try.prog 41 #[.agg #[.int .i64 a1, .int .i64 a2], .agg #[.int .i64 b1, .int .i64 b2]] w fun e w' => e = .returned (.int .i64 (farV a1 a2 b1 b2)) ∧ Below w.heap.size w w' := by
  have fc0 : ((w.alloc (Obj.cells #[.int .i64 a1, .int .i64 a2] 30)).alloc (Obj.cells #[.int .i64 b1, .int .i64 b2] 30)).cell? ⟨w.heap.size, 0, none⟩ = some (.int .i64 a1) := by simp [go_sem]
  have fc1 : ((w.alloc (Obj.cells #[.int .i64 a1, .int .i64 a2] 30)).alloc (Obj.cells #[.int .i64 b1, .int .i64 b2] 30)).cell? ⟨w.heap.size, 1, none⟩ = some (.int .i64 a2) := by simp [go_sem]
  have fc2 : ((w.alloc (Obj.cells #[.int .i64 a1, .int .i64 a2] 30)).alloc (Obj.cells #[.int .i64 b1, .int .i64 b2] 30)).cell? ⟨w.heap.size + 1, 0, none⟩ = some (.int .i64 b1) := by simp [go_sem]
  have fc3 : ((w.alloc (Obj.cells #[.int .i64 a1, .int .i64 a2] 30)).alloc (Obj.cells #[.int .i64 b1, .int .i64 b2] 30)).cell? ⟨w.heap.size + 1, 1, none⟩ = some (.int .i64 b2) := by simp [go_sem]
  go_enter Try.func41, Try.ntmps41
  go_wp2
  have k0 := cell_regrown fc0
  have k1 := cell_regrown fc1
  have k2 := cell_regrown fc2
  have k3 := cell_regrown fc3
  clear fc0 fc1 fc2 fc3
  refine wp_region_quiet_below (by kernel_rfl) (by kernel_rfl) ?_
  repeat (go_big_quiet_step ((first | (go_at_call 60; exact Calls.regrown_of (impl_Point_minus _ _ _ _ _ (by omega) (by omega) (by omega) (by omega))) | (go_at_call 61; exact Calls.regrown_of (impl_Point_dot _ _ _ _ _ (by omega) (by omega) (by omega) (by omega))))))
  refine wpQuiet_nil ?_
  intro _ hw'
  obtain ⟨⟨dq, osq⟩, hw''⟩ := hw'
  subst hw''
  go_wp2
  go_ret
  exact ⟨rfl, bl_call (below_regrown _ dq osq) (by (repeat (first | with_reducible exact Below.refl _ _ | with_reducible refine bl_alloc ?_ _ | with_reducible refine bl_drew ?_ | with_reducible refine bl_set ?_ (by first | (simp; done) | (simp; omega)) _ | with_reducible refine bl_call (by assumption) ?_)))⟩

theorem spec_square (a1 : Int) (a2 : Int) (b1 : Int) (b2 : Int) (w : World) (ha1 : -1000 ≤ a1 ∧ a1 ≤ 1000) (ha2 : -1000 ≤ a2 ∧ a2 ≤ 1000) (hb1 : -1000 ≤ b1 ∧ b1 ≤ 1000) (hb2 : -1000 ≤ b2 ∧ b2 ≤ 1000) :
    Calls Try.prog 43 #[.agg #[.int .i64 a1, .int .i64 a2], .agg #[.int .i64 b1, .int .i64 b2]] w fun e w' => e = .returned (.int .i64 (farV a1 a2 b1 b2)) ∧ Below w.heap.size w w' := by
  obtain ⟨la1, ua1⟩ := ha1
  obtain ⟨la2, ua2⟩ := ha2
  obtain ⟨lb1, ub1⟩ := hb1
  obtain ⟨lb2, ub2⟩ := hb2
  obtain ⟨ml, mu⟩ := mul_bd (a1 - b1) (a1 - b1) 2000 2000 (by omega) (by omega) (by omega) (by omega)
  obtain ⟨kl, ku⟩ := mul_bd (a2 - b2) (a2 - b2) 2000 2000 (by omega) (by omega) (by omega) (by omega)
  go_enter Try.func43, Try.ntmps43
  go_wp2
  go_ret
  exact ⟨ret_int (by rw [farV, sq_sub a1 b1, sq_sub a2 b2]), (by (repeat (first | with_reducible exact Below.refl _ _ | with_reducible refine bl_alloc ?_ _ | with_reducible refine bl_drew ?_ | with_reducible refine bl_set ?_ (by first | (simp; done) | (simp; omega)) _ | with_reducible refine bl_call (by assumption) ?_)))⟩

end Go.Proofs.Ytbfeaiaoelkggaa
