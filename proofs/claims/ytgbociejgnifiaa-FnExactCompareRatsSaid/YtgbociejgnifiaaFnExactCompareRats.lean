/- FnExactCompareRats returns true for every argument, and leaves its arguments as they were. No conditions. -/
import Derived.Test.YtgbociejgnifiaaFrame
import Derived.Test.YtgbociejgnifiaaB1
namespace Go.Proofs.Ytgbociejgnifiaa
open Go.RowKit
set_option linter.unusedVariables false

open Go.ChangeShapes Go.WideShapes Go.ChangeAt
namespace FnExactCompareRats

theorem fl31 : Try.prog.cellTypes Try.prog.depth 31 = some (List.replicate 2 3) := by kernel_rfl
theorem cz31 : Try.prog.cellsOf 31 = 2 := by kernel_rfl

open Go.Sort

theorem walk (n : Int) (d : Int) (m : Int) (k : Int) (w : World) (b_n : -9223372036854775808 ≤ n ∧ n ≤ 9223372036854775807) (b_d : -9223372036854775808 ≤ d ∧ d ≤ 9223372036854775807) (b_m : -9223372036854775808 ≤ m ∧ m ≤ 9223372036854775807) (b_k : -9223372036854775808 ≤ k ∧ k ≤ 9223372036854775807) :
    Calls Try.prog 13 #[.agg #[.int .i64 n, .int .i64 d], .agg #[.int .i64 m, .int .i64 k]] w fun e w' => e = .returned (.bool true) ∧ Below w.heap.size w w' := by
  clear b_n b_d b_m b_k
  have fc0 : ((w.alloc (Obj.cells #[.int .i64 n, .int .i64 d] 31)).alloc (Obj.cells #[.int .i64 m, .int .i64 k] 31)).cell? ⟨w.heap.size, 0, none⟩ = some (.int .i64 n) := by simp [go_sem]
  have fc1 : ((w.alloc (Obj.cells #[.int .i64 n, .int .i64 d] 31)).alloc (Obj.cells #[.int .i64 m, .int .i64 k] 31)).cell? ⟨w.heap.size, 1, none⟩ = some (.int .i64 d) := by simp [go_sem]
  have fc2 : ((w.alloc (Obj.cells #[.int .i64 n, .int .i64 d] 31)).alloc (Obj.cells #[.int .i64 m, .int .i64 k] 31)).cell? ⟨w.heap.size + 1, 0, none⟩ = some (.int .i64 m) := by simp [go_sem]
  have fc3 : ((w.alloc (Obj.cells #[.int .i64 n, .int .i64 d] 31)).alloc (Obj.cells #[.int .i64 m, .int .i64 k] 31)).cell? ⟨w.heap.size + 1, 1, none⟩ = some (.int .i64 k) := by simp [go_sem]
  go_enter Try.func13, Try.ntmps13
  go_wp2
  have k0 := cell_regrown fc0
  have k1 := cell_regrown fc1
  have k2 := cell_regrown fc2
  have k3 := cell_regrown fc3
  clear fc0 fc1 fc2 fc3
  refine wp_region_quiet_below (by kernel_rfl) (by kernel_rfl) ?_
  repeat (go_big_quiet_step ((first | (go_at_call 20; exact Calls.regrown_of (laws_toRat _ _ _)) | (go_at_call 47; exact Calls.regrown_of (spec_CompareRats _ _ _ _ _)))))
  refine wpQuiet_nil ?_
  intro _ hw'
  obtain ⟨⟨dq, osq⟩, hw''⟩ := hw'
  subst hw''
  have fc0 := k0 dq osq
  have fc1 := k1 dq osq
  have fc2 := k2 dq osq
  have fc3 := k3 dq osq
  clear k0 k1 k2 k3
  go_wp2
  have k0 := cell_regrown fc0
  have k1 := cell_regrown fc1
  have k2 := cell_regrown fc2
  have k3 := cell_regrown fc3
  clear fc0 fc1 fc2 fc3
  refine wp_region_quiet_below (by kernel_rfl) (by kernel_rfl) ?_
  repeat (go_big_quiet_step ((first | (go_at_call 20; exact Calls.regrown_of (laws_toRat _ _ _)) | (go_at_call 48; exact Calls.regrown_of (impl_CompareRats _ _ _ _ _)))))
  refine wpQuiet_nil ?_
  intro _ hw'
  obtain ⟨⟨dq2, osq2⟩, hw''⟩ := hw'
  subst hw''
  go_wp2
  go_ret
  exact ⟨rfl, bl_call (below_regrown _ dq2 osq2) (bl_call (below_regrown _ dq osq) (by (repeat (first | with_reducible exact Below.refl _ _ | with_reducible refine bl_alloc ?_ _ | with_reducible refine bl_drew ?_ | with_reducible refine bl_set ?_ (by first | (simp; done) | (simp; omega)) _ | with_reducible refine bl_call (by assumption) ?_))))⟩

set_option maxRecDepth 100000 in
theorem lifted (os : Os) (started : os.Started) (H : Type) (enc : TypeId × Value → H) :
    ReturnsInHanded {} Try.checked os 13 .any (Rows.fnExactCompareRatsSpec.pre6 enc Try.prog Try.f13 Rows.fnExactCompareRatsRow.domain false) (Rows.fnExactCompareRatsSpec.post enc Try.prog Try.f13 false true false false) := by
  refine returnsInHanded_of_change (C := Try.checked) own started (by kernel_rfl) Try.func13
    (ChangeSpec.witness6 (enc := enc) (C := Try.checked) false ⟨#[], #[.agg #[.int .i64 0, .int .i64 0], .agg #[.int .i64 0, .int .i64 0]], []⟩ 8 (by kernel_rfl) (by kernel_rfl) (by kernel_rfl) (by kernel_rfl)) ?_
  intro W base args ds gs before hval0 hW hcnd _
  have hval : ∀ (j : Nat) t v, Try.f13.params[j]? = some t → args[j]? = some v → Value.okWide Try.prog W .any base t v := hval0
  have hW' := hW
  obtain ⟨p, q, hA0, hV, rfl, hfz, hnd⟩ := hW
  have hA : DataW.TrodAll enc Try.prog W 0 (fun _ => true) true Try.f13.params.toList args.toList ds p := hA0
  rw [Try.params13] at hA hval
  obtain ⟨v0, vs0, d0, ds0, p0, q0, hargs, rfl, rfl, h0, r0⟩ := trodAll_cons hA
  obtain ⟨v1, vs1, d1, ds1, p1, q1, rfl, rfl, rfl, h1, r1⟩ := trodAll_cons r0
  obtain ⟨rfl, rfl, rfl⟩ := trodAll_nil r1
  obtain rfl : args = #[v0, v1] := by cases args; simp_all
  obtain ⟨rfl, rfl⟩ := trodVars_none hV
  have k0 := h0
  have lt0 : ∀ x ∈ p0, x.block < W.heap.size := by obtain ⟨m, hm⟩ := k0; exact DataW.trod_lt m _ _ _ hm
  obtain ⟨xs0, hl0, rfl, hx0⟩ := open_flat Try.underlying31 cz31 fl31 Try.underlying3 (hval 0 31 v0 rfl rfl)
  obtain ⟨n, d, rfl⟩ := len2 hl0
  have b_n := hx0 n (by simp)
  have b_d := hx0 d (by simp)
  have k1 := h1
  have lt1 : ∀ x ∈ p1, x.block < W.heap.size := by obtain ⟨m, hm⟩ := k1; exact DataW.trod_lt m _ _ _ hm
  obtain ⟨xs1, hl1, rfl, hx1⟩ := open_flat Try.underlying31 cz31 fl31 Try.underlying3 (hval 1 31 v1 rfl rfl)
  obtain ⟨m, k, rfl⟩ := len2 hl1
  have b_m := hx1 m (by simp)
  have b_k := hx1 k (by simp)
  clear hA0 hval0
  refine (walk n d m k W b_n b_d b_m b_k).mono fun e W' ⟨he, bel⟩ => ?_
  subst he
  exact ⟨_, rfl, _, _, _, [], _, [], hW', trodAll_mk1 (shut_bool Try.underlying4 _), (trodAll_cons_mk (Below.trod laidOut (by kernel_rfl) (of_decide_eq_true (by kernel_rfl)) k0 bel lt0) (trodAll_cons_mk (Below.trod laidOut (by kernel_rfl) (of_decide_eq_true (by kernel_rfl)) k1 bel lt1) trodAll_mk0)), rfl, bel.frame _, fun h => by cases h⟩

theorem proved : Rows.FnExactCompareRatsSaid :=
  OpenClaim.holds_of_wide 13 Try.f13 rfl rfl rfl rfl rfl rfl rfl ⟨rfl, rfl, rfl, rfl, rfl⟩ rfl rfl rfl rfl rfl (by kernel_rfl) Try.func13 (by kernel_rfl)
    (of_decide_eq_true (by kernel_rfl)) (by unfold Func.isWrapper; first | (rw [if_pos (by decide +kernel)]; kernel_rfl) | (rw [if_neg (by decide +kernel)]; exact ⟨rfl, rfl⟩))
    (fun os started H enc _ => lifted os started H enc)

end FnExactCompareRats

end Go.Proofs.Ytgbociejgnifiaa
