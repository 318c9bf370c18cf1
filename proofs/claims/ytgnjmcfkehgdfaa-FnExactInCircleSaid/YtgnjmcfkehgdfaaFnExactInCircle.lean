/- FnExactInCircle returns true for every argument, and leaves its arguments as they were. No conditions. -/
import Derived.Test.YtgnjmcfkehgdfaaFrame
import Derived.Test.YtgnjmcfkehgdfaaIcS
import Derived.Test.YtgnjmcfkehgdfaaIcX
namespace Go.Proofs.Ytgnjmcfkehgdfaa
open Go.RowKit
set_option linter.unusedVariables false

open Go.ChangeShapes Go.WideShapes Go.ChangeAt
namespace FnExactInCircle

theorem fl23 : Try.prog.cellTypes Try.prog.depth 23 = some (List.replicate 2 3) := by kernel_rfl
theorem cz23 : Try.prog.cellsOf 23 = 2 := by kernel_rfl

open Go.Sort

theorem walk (a1 : Int) (a2 : Int) (b1 : Int) (b2 : Int) (c1 : Int) (c2 : Int) (d1 : Int) (d2 : Int) (w : World) (b_a1 : -9223372036854775808 ≤ a1 ∧ a1 ≤ 9223372036854775807) (b_a2 : -9223372036854775808 ≤ a2 ∧ a2 ≤ 9223372036854775807) (b_b1 : -9223372036854775808 ≤ b1 ∧ b1 ≤ 9223372036854775807) (b_b2 : -9223372036854775808 ≤ b2 ∧ b2 ≤ 9223372036854775807) (b_c1 : -9223372036854775808 ≤ c1 ∧ c1 ≤ 9223372036854775807) (b_c2 : -9223372036854775808 ≤ c2 ∧ c2 ≤ 9223372036854775807) (b_d1 : -9223372036854775808 ≤ d1 ∧ d1 ≤ 9223372036854775807) (b_d2 : -9223372036854775808 ≤ d2 ∧ d2 ≤ 9223372036854775807) :
    Calls Try.prog 8 #[.agg #[.int .i64 a1, .int .i64 a2], .agg #[.int .i64 b1, .int .i64 b2], .agg #[.int .i64 c1, .int .i64 c2], .agg #[.int .i64 d1, .int .i64 d2]] w fun e w' => e = .returned (.bool true) ∧ Below w.heap.size w w' := by
  clear b_a1 b_a2 b_b1 b_b2 b_c1 b_c2 b_d1 b_d2
  have fc0 : ((((w.alloc (Obj.cells #[.int .i64 a1, .int .i64 a2] 23)).alloc (Obj.cells #[.int .i64 b1, .int .i64 b2] 23)).alloc (Obj.cells #[.int .i64 c1, .int .i64 c2] 23)).alloc (Obj.cells #[.int .i64 d1, .int .i64 d2] 23)).cell? ⟨w.heap.size, 0, none⟩ = some (.int .i64 a1) := by simp [go_sem]
  have fc1 : ((((w.alloc (Obj.cells #[.int .i64 a1, .int .i64 a2] 23)).alloc (Obj.cells #[.int .i64 b1, .int .i64 b2] 23)).alloc (Obj.cells #[.int .i64 c1, .int .i64 c2] 23)).alloc (Obj.cells #[.int .i64 d1, .int .i64 d2] 23)).cell? ⟨w.heap.size, 1, none⟩ = some (.int .i64 a2) := by simp [go_sem]
  have fc2 : ((((w.alloc (Obj.cells #[.int .i64 a1, .int .i64 a2] 23)).alloc (Obj.cells #[.int .i64 b1, .int .i64 b2] 23)).alloc (Obj.cells #[.int .i64 c1, .int .i64 c2] 23)).alloc (Obj.cells #[.int .i64 d1, .int .i64 d2] 23)).cell? ⟨w.heap.size + 1, 0, none⟩ = some (.int .i64 b1) := by simp [go_sem]
  have fc3 : ((((w.alloc (Obj.cells #[.int .i64 a1, .int .i64 a2] 23)).alloc (Obj.cells #[.int .i64 b1, .int .i64 b2] 23)).alloc (Obj.cells #[.int .i64 c1, .int .i64 c2] 23)).alloc (Obj.cells #[.int .i64 d1, .int .i64 d2] 23)).cell? ⟨w.heap.size + 1, 1, none⟩ = some (.int .i64 b2) := by simp [go_sem]
  have fc4 : ((((w.alloc (Obj.cells #[.int .i64 a1, .int .i64 a2] 23)).alloc (Obj.cells #[.int .i64 b1, .int .i64 b2] 23)).alloc (Obj.cells #[.int .i64 c1, .int .i64 c2] 23)).alloc (Obj.cells #[.int .i64 d1, .int .i64 d2] 23)).cell? ⟨w.heap.size + 1 + 1, 0, none⟩ = some (.int .i64 c1) := by simp [go_sem]
  have fc5 : ((((w.alloc (Obj.cells #[.int .i64 a1, .int .i64 a2] 23)).alloc (Obj.cells #[.int .i64 b1, .int .i64 b2] 23)).alloc (Obj.cells #[.int .i64 c1, .int .i64 c2] 23)).alloc (Obj.cells #[.int .i64 d1, .int .i64 d2] 23)).cell? ⟨w.heap.size + 1 + 1, 1, none⟩ = some (.int .i64 c2) := by simp [go_sem]
  have fc6 : ((((w.alloc (Obj.cells #[.int .i64 a1, .int .i64 a2] 23)).alloc (Obj.cells #[.int .i64 b1, .int .i64 b2] 23)).alloc (Obj.cells #[.int .i64 c1, .int .i64 c2] 23)).alloc (Obj.cells #[.int .i64 d1, .int .i64 d2] 23)).cell? ⟨w.heap.size + 1 + 1 + 1, 0, none⟩ = some (.int .i64 d1) := by simp [go_sem]
  have fc7 : ((((w.alloc (Obj.cells #[.int .i64 a1, .int .i64 a2] 23)).alloc (Obj.cells #[.int .i64 b1, .int .i64 b2] 23)).alloc (Obj.cells #[.int .i64 c1, .int .i64 c2] 23)).alloc (Obj.cells #[.int .i64 d1, .int .i64 d2] 23)).cell? ⟨w.heap.size + 1 + 1 + 1, 1, none⟩ = some (.int .i64 d2) := by simp [go_sem]
  go_enter Try.func8, Try.ntmps8
  go_wp2
  have k0 := cell_regrown fc0
  have k1 := cell_regrown fc1
  have k2 := cell_regrown fc2
  have k3 := cell_regrown fc3
  have k4 := cell_regrown fc4
  have k5 := cell_regrown fc5
  have k6 := cell_regrown fc6
  have k7 := cell_regrown fc7
  clear fc0 fc1 fc2 fc3 fc4 fc5 fc6 fc7
  refine wp_region_quiet_below (by kernel_rfl) (by kernel_rfl) ?_
  repeat (go_big_quiet_step ((first | (go_at_call 13; exact Calls.regrown_of (laws_toPoint _ _ _)) | (go_at_call 30; exact Calls.regrown_of (spec_InCircle _ _ _ _ _ _ _ _ _)))))
  refine wpQuiet_nil ?_
  intro _ hw'
  obtain ⟨⟨dq, osq⟩, hw''⟩ := hw'
  subst hw''
  have fc0 := k0 dq osq
  have fc1 := k1 dq osq
  have fc2 := k2 dq osq
  have fc3 := k3 dq osq
  have fc4 := k4 dq osq
  have fc5 := k5 dq osq
  have fc6 := k6 dq osq
  have fc7 := k7 dq osq
  clear k0 k1 k2 k3 k4 k5 k6 k7
  go_wp2
  have k0 := cell_regrown fc0
  have k1 := cell_regrown fc1
  have k2 := cell_regrown fc2
  have k3 := cell_regrown fc3
  have k4 := cell_regrown fc4
  have k5 := cell_regrown fc5
  have k6 := cell_regrown fc6
  have k7 := cell_regrown fc7
  clear fc0 fc1 fc2 fc3 fc4 fc5 fc6 fc7
  refine wp_region_quiet_below (by kernel_rfl) (by kernel_rfl) ?_
  repeat (go_big_quiet_step ((first | (go_at_call 13; exact Calls.regrown_of (laws_toPoint _ _ _)) | (go_at_call 31; exact Calls.regrown_of (impl_InCircle _ _ _ _ _ _ _ _ _)))))
  refine wpQuiet_nil ?_
  intro _ hw'
  obtain ⟨⟨dq2, osq2⟩, hw''⟩ := hw'
  subst hw''
  go_wp2
  go_ret
  exact ⟨rfl, bl_call (below_regrown _ dq2 osq2) (bl_call (below_regrown _ dq osq) (by (repeat (first | with_reducible exact Below.refl _ _ | with_reducible refine bl_alloc ?_ _ | with_reducible refine bl_drew ?_ | with_reducible refine bl_set ?_ (by first | (simp; done) | (simp; omega)) _ | with_reducible refine bl_call (by assumption) ?_))))⟩

set_option maxRecDepth 100000 in
theorem lifted (os : Os) (started : os.Started) (H : Type) (enc : TypeId × Value → H) :
    ReturnsInHanded {} Try.checked os 8 .any (Rows.fnExactInCircleSpec.pre6 enc Try.prog Try.f8 Rows.fnExactInCircleRow.domain false) (Rows.fnExactInCircleSpec.post enc Try.prog Try.f8 false true false false) := by
  refine returnsInHanded_of_change (C := Try.checked) own started (by kernel_rfl) Try.func8
    (ChangeSpec.witness6 (enc := enc) (C := Try.checked) false ⟨#[], #[.agg #[.int .i64 0, .int .i64 0], .agg #[.int .i64 0, .int .i64 0], .agg #[.int .i64 0, .int .i64 0], .agg #[.int .i64 0, .int .i64 0]], []⟩ 8 (by kernel_rfl) (by kernel_rfl) (by kernel_rfl) (by kernel_rfl)) ?_
  intro W base args ds gs before hval0 hW hcnd _
  have hval : ∀ (j : Nat) t v, Try.f8.params[j]? = some t → args[j]? = some v → Value.okWide Try.prog W .any base t v := hval0
  have hW' := hW
  obtain ⟨p, q, hA0, hV, rfl, hfz, hnd⟩ := hW
  have hA : DataW.TrodAll enc Try.prog W 0 (fun _ => true) true Try.f8.params.toList args.toList ds p := hA0
  rw [Try.params8] at hA hval
  obtain ⟨v0, vs0, d0, ds0, p0, q0, hargs, rfl, rfl, h0, r0⟩ := trodAll_cons hA
  obtain ⟨v1, vs1, d1, ds1, p1, q1, rfl, rfl, rfl, h1, r1⟩ := trodAll_cons r0
  obtain ⟨v2, vs2, d2, ds2, p2, q2, rfl, rfl, rfl, h2, r2⟩ := trodAll_cons r1
  obtain ⟨v3, vs3, d3, ds3, p3, q3, rfl, rfl, rfl, h3, r3⟩ := trodAll_cons r2
  obtain ⟨rfl, rfl, rfl⟩ := trodAll_nil r3
  obtain rfl : args = #[v0, v1, v2, v3] := by cases args; simp_all
  obtain ⟨rfl, rfl⟩ := trodVars_none hV
  have k0 := h0
  have lt0 : ∀ x ∈ p0, x.block < W.heap.size := by obtain ⟨m, hm⟩ := k0; exact DataW.trod_lt m _ _ _ hm
  obtain ⟨xs0, hl0, rfl, hx0⟩ := open_flat Try.underlying23 cz23 fl23 Try.underlying3 (hval 0 23 v0 rfl rfl)
  obtain ⟨a1, a2, rfl⟩ := len2 hl0
  have b_a1 := hx0 a1 (by simp)
  have b_a2 := hx0 a2 (by simp)
  have k1 := h1
  have lt1 : ∀ x ∈ p1, x.block < W.heap.size := by obtain ⟨m, hm⟩ := k1; exact DataW.trod_lt m _ _ _ hm
  obtain ⟨xs1, hl1, rfl, hx1⟩ := open_flat Try.underlying23 cz23 fl23 Try.underlying3 (hval 1 23 v1 rfl rfl)
  obtain ⟨b1, b2, rfl⟩ := len2 hl1
  have b_b1 := hx1 b1 (by simp)
  have b_b2 := hx1 b2 (by simp)
  have k2 := h2
  have lt2 : ∀ x ∈ p2, x.block < W.heap.size := by obtain ⟨m, hm⟩ := k2; exact DataW.trod_lt m _ _ _ hm
  obtain ⟨xs2, hl2, rfl, hx2⟩ := open_flat Try.underlying23 cz23 fl23 Try.underlying3 (hval 2 23 v2 rfl rfl)
  obtain ⟨c1, c2, rfl⟩ := len2 hl2
  have b_c1 := hx2 c1 (by simp)
  have b_c2 := hx2 c2 (by simp)
  have k3 := h3
  have lt3 : ∀ x ∈ p3, x.block < W.heap.size := by obtain ⟨m, hm⟩ := k3; exact DataW.trod_lt m _ _ _ hm
  obtain ⟨xs3, hl3, rfl, hx3⟩ := open_flat Try.underlying23 cz23 fl23 Try.underlying3 (hval 3 23 v3 rfl rfl)
  obtain ⟨d1, d2, rfl⟩ := len2 hl3
  have b_d1 := hx3 d1 (by simp)
  have b_d2 := hx3 d2 (by simp)
  clear hA0 hval0
  refine (walk a1 a2 b1 b2 c1 c2 d1 d2 W b_a1 b_a2 b_b1 b_b2 b_c1 b_c2 b_d1 b_d2).mono fun e W' ⟨he, bel⟩ => ?_
  subst he
  exact ⟨_, rfl, _, _, _, [], _, [], hW', trodAll_mk1 (shut_bool Try.underlying4 _), (trodAll_cons_mk (Below.trod laidOut (by kernel_rfl) (of_decide_eq_true (by kernel_rfl)) k0 bel lt0) (trodAll_cons_mk (Below.trod laidOut (by kernel_rfl) (of_decide_eq_true (by kernel_rfl)) k1 bel lt1) (trodAll_cons_mk (Below.trod laidOut (by kernel_rfl) (of_decide_eq_true (by kernel_rfl)) k2 bel lt2) (trodAll_cons_mk (Below.trod laidOut (by kernel_rfl) (of_decide_eq_true (by kernel_rfl)) k3 bel lt3) trodAll_mk0)))), rfl, bel.frame _, fun h => by cases h⟩

theorem proved : Rows.FnExactInCircleSaid :=
  OpenClaim.holds_of_wide 8 Try.f8 rfl rfl rfl rfl rfl rfl rfl ⟨rfl, rfl, rfl, rfl, rfl⟩ rfl rfl rfl rfl rfl (by kernel_rfl) Try.func8 (by kernel_rfl)
    (of_decide_eq_true (by kernel_rfl)) (by unfold Func.isWrapper; first | (rw [if_pos (by decide +kernel)]; kernel_rfl) | (rw [if_neg (by decide +kernel)]; exact ⟨rfl, rfl⟩))
    (fun os started H enc _ => lifted os started H enc)

end FnExactInCircle

end Go.Proofs.Ytgnjmcfkehgdfaa
