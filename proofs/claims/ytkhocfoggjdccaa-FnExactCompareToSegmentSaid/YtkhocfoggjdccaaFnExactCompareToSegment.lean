/- FnExactCompareToSegment returns true for every argument, and leaves its arguments as they were. No conditions. -/
import Derived.Test.YtkhocfoggjdccaaFrame
import Derived.Test.YtkhocfoggjdccaaW
namespace Go.Proofs.Ytkhocfoggjdccaa
open Go.RowKit
set_option linter.unusedVariables false

open Go.ChangeShapes Go.WideShapes Go.ChangeAt
namespace FnExactCompareToSegment

theorem fl55 : Try.prog.cellTypes Try.prog.depth 55 = some (List.replicate 4 3) := by kernel_rfl
theorem cz55 : Try.prog.cellsOf 55 = 4 := by kernel_rfl

theorem fl53 : Try.prog.cellTypes Try.prog.depth 53 = some (List.replicate 2 3) := by kernel_rfl
theorem cz53 : Try.prog.cellsOf 53 = 2 := by kernel_rfl

open Go.Sort

theorem walk (a1 : Int) (a2 : Int) (b1 : Int) (b2 : Int) (x : Int) (y : Int) (n : Int) (w : World) (b_a1 : -9223372036854775808 ≤ a1 ∧ a1 ≤ 9223372036854775807) (b_a2 : -9223372036854775808 ≤ a2 ∧ a2 ≤ 9223372036854775807) (b_b1 : -9223372036854775808 ≤ b1 ∧ b1 ≤ 9223372036854775807) (b_b2 : -9223372036854775808 ≤ b2 ∧ b2 ≤ 9223372036854775807) (b_x : -9223372036854775808 ≤ x ∧ x ≤ 9223372036854775807) (b_y : -9223372036854775808 ≤ y ∧ y ≤ 9223372036854775807) (b_n : -9223372036854775808 ≤ n ∧ n ≤ 9223372036854775807) :
    Calls Try.prog 13 #[.agg #[.int .i64 a1, .int .i64 a2, .int .i64 b1, .int .i64 b2], .agg #[.int .i64 x, .int .i64 y], .int .i64 n] w fun e w' => e = .returned (.bool true) ∧ Below w.heap.size w w' := by
  clear b_a1 b_a2 b_b1 b_b2 b_x b_y b_n
  have fc0 : ((w.alloc (Obj.cells #[.int .i64 a1, .int .i64 a2, .int .i64 b1, .int .i64 b2] 55)).alloc (Obj.cells #[.int .i64 x, .int .i64 y] 53)).cell? ⟨w.heap.size, 0, none⟩ = some (.int .i64 a1) := by simp [go_sem]
  have fc1 : ((w.alloc (Obj.cells #[.int .i64 a1, .int .i64 a2, .int .i64 b1, .int .i64 b2] 55)).alloc (Obj.cells #[.int .i64 x, .int .i64 y] 53)).cell? ⟨w.heap.size, 1, none⟩ = some (.int .i64 a2) := by simp [go_sem]
  have fc2 : ((w.alloc (Obj.cells #[.int .i64 a1, .int .i64 a2, .int .i64 b1, .int .i64 b2] 55)).alloc (Obj.cells #[.int .i64 x, .int .i64 y] 53)).cell? ⟨w.heap.size, 2, none⟩ = some (.int .i64 b1) := by simp [go_sem]
  have fc3 : ((w.alloc (Obj.cells #[.int .i64 a1, .int .i64 a2, .int .i64 b1, .int .i64 b2] 55)).alloc (Obj.cells #[.int .i64 x, .int .i64 y] 53)).cell? ⟨w.heap.size, 3, none⟩ = some (.int .i64 b2) := by simp [go_sem]
  have fc4 : ((w.alloc (Obj.cells #[.int .i64 a1, .int .i64 a2, .int .i64 b1, .int .i64 b2] 55)).alloc (Obj.cells #[.int .i64 x, .int .i64 y] 53)).cell? ⟨w.heap.size + 1, 0, none⟩ = some (.int .i64 x) := by simp [go_sem]
  have fc5 : ((w.alloc (Obj.cells #[.int .i64 a1, .int .i64 a2, .int .i64 b1, .int .i64 b2] 55)).alloc (Obj.cells #[.int .i64 x, .int .i64 y] 53)).cell? ⟨w.heap.size + 1, 1, none⟩ = some (.int .i64 y) := by simp [go_sem]
  go_enter Try.func13, Try.ntmps13
  go_wp2
  have k0 := cell_regrown fc0
  have k1 := cell_regrown fc1
  have k2 := cell_regrown fc2
  have k3 := cell_regrown fc3
  have k4 := cell_regrown fc4
  have k5 := cell_regrown fc5
  clear fc0 fc1 fc2 fc3 fc4 fc5
  refine wp_region_quiet_below (by kernel_rfl) (by kernel_rfl) ?_
  repeat (go_big_quiet_step ((first | (go_at_call 41; exact Calls.regrown_of (laws_toSegment _ _ _ _ _)) | (go_at_call 42; exact Calls.regrown_of (laws_toPoint _ _ _)) | (go_at_call 40; exact Calls.regrown_of (spec_CompareToSegment _ _ _ _ _ _ _ _)))))
  refine wpQuiet_nil ?_
  intro _ hw'
  obtain ⟨⟨dq, osq⟩, hw''⟩ := hw'
  subst hw''
  have fc0 := k0 dq osq
  have fc1 := k1 dq osq
  have fc2 := k2 dq osq
  have fc3 := k3 dq osq
  have fc4 := k4 dq osq
  have fc5 := k5 dq osq
  clear k0 k1 k2 k3 k4 k5
  go_wp2
  have k0 := cell_regrown fc0
  have k1 := cell_regrown fc1
  have k2 := cell_regrown fc2
  have k3 := cell_regrown fc3
  have k4 := cell_regrown fc4
  have k5 := cell_regrown fc5
  clear fc0 fc1 fc2 fc3 fc4 fc5
  refine wp_region_quiet_below (by kernel_rfl) (by kernel_rfl) ?_
  repeat (go_big_quiet_step ((first | (go_at_call 41; exact Calls.regrown_of (laws_toSegment _ _ _ _ _)) | (go_at_call 42; exact Calls.regrown_of (laws_toPoint _ _ _)) | (go_at_call 43; exact Calls.regrown_of (impl_CompareToSegment _ _ _ _ _ _ _ _)))))
  refine wpQuiet_nil ?_
  intro _ hw'
  obtain ⟨⟨dq2, osq2⟩, hw''⟩ := hw'
  subst hw''
  go_wp2
  go_ret
  exact ⟨rfl, bl_call (below_regrown _ dq2 osq2) (bl_call (below_regrown _ dq osq) (by (repeat (first | with_reducible exact Below.refl _ _ | with_reducible refine bl_alloc ?_ _ | with_reducible refine bl_drew ?_ | with_reducible refine bl_set ?_ (by first | (simp; done) | (simp; omega)) _ | with_reducible refine bl_call (by assumption) ?_))))⟩

set_option maxRecDepth 100000 in
theorem lifted (os : Os) (started : os.Started) (H : Type) (enc : TypeId × Value → H) :
    ReturnsInHanded {} Try.checked os 13 .any (Rows.fnExactCompareToSegmentSpec.pre6 enc Try.prog Try.f13 Rows.fnExactCompareToSegmentRow.domain false) (Rows.fnExactCompareToSegmentSpec.post enc Try.prog Try.f13 false true false false) := by
  refine returnsInHanded_of_change (C := Try.checked) own started (by kernel_rfl) Try.func13
    (ChangeSpec.witness6 (enc := enc) (C := Try.checked) false ⟨#[], #[.agg #[.int .i64 0, .int .i64 0, .int .i64 0, .int .i64 0], .agg #[.int .i64 0, .int .i64 0], .int .i64 0], []⟩ 8 (by kernel_rfl) (by kernel_rfl) (by kernel_rfl) (by kernel_rfl)) ?_
  intro W base args ds gs before hval0 hW hcnd _
  have hval : ∀ (j : Nat) t v, Try.f13.params[j]? = some t → args[j]? = some v → Value.okWide Try.prog W .any base t v := hval0
  have hW' := hW
  obtain ⟨p, q, hA0, hV, rfl, hfz, hnd⟩ := hW
  have hA : DataW.TrodAll enc Try.prog W 0 (fun _ => true) true Try.f13.params.toList args.toList ds p := hA0
  rw [Try.params13] at hA hval
  obtain ⟨v0, vs0, d0, ds0, p0, q0, hargs, rfl, rfl, h0, r0⟩ := trodAll_cons hA
  obtain ⟨v1, vs1, d1, ds1, p1, q1, rfl, rfl, rfl, h1, r1⟩ := trodAll_cons r0
  obtain ⟨v2, vs2, d2, ds2, p2, q2, rfl, rfl, rfl, h2, r2⟩ := trodAll_cons r1
  obtain ⟨rfl, rfl, rfl⟩ := trodAll_nil r2
  obtain rfl : args = #[v0, v1, v2] := by cases args; simp_all
  obtain ⟨rfl, rfl⟩ := trodVars_none hV
  have k0 := h0
  have lt0 : ∀ x ∈ p0, x.block < W.heap.size := by obtain ⟨m, hm⟩ := k0; exact DataW.trod_lt m _ _ _ hm
  obtain ⟨xs0, hl0, rfl, hx0⟩ := open_flat Try.underlying55 cz55 fl55 Try.underlying3 (hval 0 55 v0 rfl rfl)
  obtain ⟨a1, a2, b1, b2, rfl⟩ := len4 hl0
  have b_a1 := hx0 a1 (by simp)
  have b_a2 := hx0 a2 (by simp)
  have b_b1 := hx0 b1 (by simp)
  have b_b2 := hx0 b2 (by simp)
  have k1 := h1
  have lt1 : ∀ x ∈ p1, x.block < W.heap.size := by obtain ⟨m, hm⟩ := k1; exact DataW.trod_lt m _ _ _ hm
  obtain ⟨xs1, hl1, rfl, hx1⟩ := open_flat Try.underlying53 cz53 fl53 Try.underlying3 (hval 1 53 v1 rfl rfl)
  obtain ⟨x, y, rfl⟩ := len2 hl1
  have b_x := hx1 x (by simp)
  have b_y := hx1 y (by simp)
  have k2 := h2
  have lt2 : ∀ x ∈ p2, x.block < W.heap.size := by obtain ⟨m, hm⟩ := k2; exact DataW.trod_lt m _ _ _ hm
  obtain ⟨n, rfl, rfl, rfl, w2⟩ := open_int Try.underlying3 (hval 2 3 v2 rfl rfl) h2
  have b_n := bounds_i64 w2
  clear hA0 hval0
  refine (walk a1 a2 b1 b2 x y n W b_a1 b_a2 b_b1 b_b2 b_x b_y b_n).mono fun e W' ⟨he, bel⟩ => ?_
  subst he
  exact ⟨_, rfl, _, _, _, [], _, [], hW', trodAll_mk1 (shut_bool Try.underlying4 _), (trodAll_cons_mk (Below.trod laidOut (by kernel_rfl) (of_decide_eq_true (by kernel_rfl)) k0 bel lt0) (trodAll_cons_mk (Below.trod laidOut (by kernel_rfl) (of_decide_eq_true (by kernel_rfl)) k1 bel lt1) (trodAll_cons_mk (Below.trod laidOut (by kernel_rfl) (of_decide_eq_true (by kernel_rfl)) k2 bel lt2) trodAll_mk0))), rfl, bel.frame _, fun h => by cases h⟩

theorem proved : Rows.FnExactCompareToSegmentSaid :=
  OpenClaim.holds_of_wide 13 Try.f13 rfl rfl rfl rfl rfl rfl rfl ⟨rfl, rfl, rfl, rfl, rfl⟩ rfl rfl rfl rfl rfl (by kernel_rfl) Try.func13 (by kernel_rfl)
    (of_decide_eq_true (by kernel_rfl)) (by unfold Func.isWrapper; first | (rw [if_pos (by decide +kernel)]; kernel_rfl) | (rw [if_neg (by decide +kernel)]; exact ⟨rfl, rfl⟩))
    (fun os started H enc _ => lifted os started H enc)

end FnExactCompareToSegment

end Go.Proofs.Ytkhocfoggjdccaa
