/- FnExactSideOfRat returns true for every argument, and leaves its arguments as they were. No conditions. -/
import Derived.Test.YtgnjmcfkehgdfaaFrame
import Derived.Test.YtgnjmcfkehgdfaaSoC
namespace Go.Proofs.Ytgnjmcfkehgdfaa
open Go.RowKit
set_option linter.unusedVariables false

open Go.ChangeShapes Go.WideShapes Go.ChangeAt
namespace FnExactSideOfRat

theorem fl53 : Try.prog.cellTypes Try.prog.depth 53 = some (List.replicate 3 3) := by kernel_rfl
theorem cz53 : Try.prog.cellsOf 53 = 3 := by kernel_rfl

theorem fl57 : Try.prog.cellTypes Try.prog.depth 57 = some (List.replicate 4 3) := by kernel_rfl
theorem cz57 : Try.prog.cellsOf 57 = 4 := by kernel_rfl

open Go.Sort

theorem walk (a : Int) (b : Int) (c : Int) (n : Int) (d : Int) (m : Int) (k : Int) (w : World) (b_a : -9223372036854775808 ≤ a ∧ a ≤ 9223372036854775807) (b_b : -9223372036854775808 ≤ b ∧ b ≤ 9223372036854775807) (b_c : -9223372036854775808 ≤ c ∧ c ≤ 9223372036854775807) (b_n : -9223372036854775808 ≤ n ∧ n ≤ 9223372036854775807) (b_d : -9223372036854775808 ≤ d ∧ d ≤ 9223372036854775807) (b_m : -9223372036854775808 ≤ m ∧ m ≤ 9223372036854775807) (b_k : -9223372036854775808 ≤ k ∧ k ≤ 9223372036854775807) :
    Calls Try.prog 11 #[.agg #[.int .i64 a, .int .i64 b, .int .i64 c], .agg #[.int .i64 n, .int .i64 d, .int .i64 m, .int .i64 k]] w fun e w' => e = .returned (.bool true) ∧ Below w.heap.size w w' := by
  clear b_a b_b b_c b_n b_d b_m b_k
  have fc0 : ((w.alloc (Obj.cells #[.int .i64 a, .int .i64 b, .int .i64 c] 53)).alloc (Obj.cells #[.int .i64 n, .int .i64 d, .int .i64 m, .int .i64 k] 57)).cell? ⟨w.heap.size, 0, none⟩ = some (.int .i64 a) := by simp [go_sem]
  have fc1 : ((w.alloc (Obj.cells #[.int .i64 a, .int .i64 b, .int .i64 c] 53)).alloc (Obj.cells #[.int .i64 n, .int .i64 d, .int .i64 m, .int .i64 k] 57)).cell? ⟨w.heap.size, 1, none⟩ = some (.int .i64 b) := by simp [go_sem]
  have fc2 : ((w.alloc (Obj.cells #[.int .i64 a, .int .i64 b, .int .i64 c] 53)).alloc (Obj.cells #[.int .i64 n, .int .i64 d, .int .i64 m, .int .i64 k] 57)).cell? ⟨w.heap.size, 2, none⟩ = some (.int .i64 c) := by simp [go_sem]
  have fc3 : ((w.alloc (Obj.cells #[.int .i64 a, .int .i64 b, .int .i64 c] 53)).alloc (Obj.cells #[.int .i64 n, .int .i64 d, .int .i64 m, .int .i64 k] 57)).cell? ⟨w.heap.size + 1, 0, none⟩ = some (.int .i64 n) := by simp [go_sem]
  have fc4 : ((w.alloc (Obj.cells #[.int .i64 a, .int .i64 b, .int .i64 c] 53)).alloc (Obj.cells #[.int .i64 n, .int .i64 d, .int .i64 m, .int .i64 k] 57)).cell? ⟨w.heap.size + 1, 1, none⟩ = some (.int .i64 d) := by simp [go_sem]
  have fc5 : ((w.alloc (Obj.cells #[.int .i64 a, .int .i64 b, .int .i64 c] 53)).alloc (Obj.cells #[.int .i64 n, .int .i64 d, .int .i64 m, .int .i64 k] 57)).cell? ⟨w.heap.size + 1, 2, none⟩ = some (.int .i64 m) := by simp [go_sem]
  have fc6 : ((w.alloc (Obj.cells #[.int .i64 a, .int .i64 b, .int .i64 c] 53)).alloc (Obj.cells #[.int .i64 n, .int .i64 d, .int .i64 m, .int .i64 k] 57)).cell? ⟨w.heap.size + 1, 3, none⟩ = some (.int .i64 k) := by simp [go_sem]
  go_enter Try.func11, Try.ntmps11
  go_wp2
  have k0 := cell_regrown fc0
  have k1 := cell_regrown fc1
  have k2 := cell_regrown fc2
  have k3 := cell_regrown fc3
  have k4 := cell_regrown fc4
  have k5 := cell_regrown fc5
  have k6 := cell_regrown fc6
  clear fc0 fc1 fc2 fc3 fc4 fc5 fc6
  refine wp_region_quiet_below (by kernel_rfl) (by kernel_rfl) ?_
  repeat (go_big_quiet_step ((first | (go_at_call 37; exact Calls.regrown_of (laws_toLine _ _ _ _)) | (go_at_call 38; exact Calls.regrown_of (laws_toRatPoint _ _ _ _ _)) | (go_at_call 36; exact Calls.regrown_of (spec_SideOfRat _ _ _ _ _ _ _ _)))))
  refine wpQuiet_nil ?_
  intro _ hw'
  obtain ⟨⟨dq, osq⟩, hw''⟩ := hw'
  subst hw''
  have fc0 := k0 dq osq
  have fc1 := k1 dq osq
  have fc2 := k2 dq osq
  have fc3 := k3 dq osq
  have fc4 := k4 dq osq
  have fc5 := k5 dq osq
  have fc6 := k6 dq osq
  clear k0 k1 k2 k3 k4 k5 k6
  go_wp2
  have k0 := cell_regrown fc0
  have k1 := cell_regrown fc1
  have k2 := cell_regrown fc2
  have k3 := cell_regrown fc3
  have k4 := cell_regrown fc4
  have k5 := cell_regrown fc5
  have k6 := cell_regrown fc6
  clear fc0 fc1 fc2 fc3 fc4 fc5 fc6
  refine wp_region_quiet_below (by kernel_rfl) (by kernel_rfl) ?_
  repeat (go_big_quiet_step ((first | (go_at_call 37; exact Calls.regrown_of (laws_toLine _ _ _ _)) | (go_at_call 38; exact Calls.regrown_of (laws_toRatPoint _ _ _ _ _)) | (go_at_call 39; exact Calls.regrown_of (impl_SideOfRat _ _ _ _ _ _ _ _)))))
  refine wpQuiet_nil ?_
  intro _ hw'
  obtain ⟨⟨dq2, osq2⟩, hw''⟩ := hw'
  subst hw''
  go_wp2
  go_ret
  exact ⟨rfl, bl_call (below_regrown _ dq2 osq2) (bl_call (below_regrown _ dq osq) (by (repeat (first | with_reducible exact Below.refl _ _ | with_reducible refine bl_alloc ?_ _ | with_reducible refine bl_drew ?_ | with_reducible refine bl_set ?_ (by first | (simp; done) | (simp; omega)) _ | with_reducible refine bl_call (by assumption) ?_))))⟩

set_option maxRecDepth 100000 in
theorem lifted (os : Os) (started : os.Started) (H : Type) (enc : TypeId × Value → H) :
    ReturnsInHanded {} Try.checked os 11 .any (Rows.fnExactSideOfRatSpec.pre6 enc Try.prog Try.f11 Rows.fnExactSideOfRatRow.domain false) (Rows.fnExactSideOfRatSpec.post enc Try.prog Try.f11 false true false false) := by
  refine returnsInHanded_of_change (C := Try.checked) own started (by kernel_rfl) Try.func11
    (ChangeSpec.witness6 (enc := enc) (C := Try.checked) false ⟨#[], #[.agg #[.int .i64 0, .int .i64 0, .int .i64 0], .agg #[.int .i64 0, .int .i64 0, .int .i64 0, .int .i64 0]], []⟩ 8 (by kernel_rfl) (by kernel_rfl) (by kernel_rfl) (by kernel_rfl)) ?_
  intro W base args ds gs before hval0 hW hcnd _
  have hval : ∀ (j : Nat) t v, Try.f11.params[j]? = some t → args[j]? = some v → Value.okWide Try.prog W .any base t v := hval0
  have hW' := hW
  obtain ⟨p, q, hA0, hV, rfl, hfz, hnd⟩ := hW
  have hA : DataW.TrodAll enc Try.prog W 0 (fun _ => true) true Try.f11.params.toList args.toList ds p := hA0
  rw [Try.params11] at hA hval
  obtain ⟨v0, vs0, d0, ds0, p0, q0, hargs, rfl, rfl, h0, r0⟩ := trodAll_cons hA
  obtain ⟨v1, vs1, d1, ds1, p1, q1, rfl, rfl, rfl, h1, r1⟩ := trodAll_cons r0
  obtain ⟨rfl, rfl, rfl⟩ := trodAll_nil r1
  obtain rfl : args = #[v0, v1] := by cases args; simp_all
  obtain ⟨rfl, rfl⟩ := trodVars_none hV
  have k0 := h0
  have lt0 : ∀ x ∈ p0, x.block < W.heap.size := by obtain ⟨m, hm⟩ := k0; exact DataW.trod_lt m _ _ _ hm
  obtain ⟨xs0, hl0, rfl, hx0⟩ := open_flat Try.underlying53 cz53 fl53 Try.underlying3 (hval 0 53 v0 rfl rfl)
  obtain ⟨a, b, c, rfl⟩ := len3 hl0
  have b_a := hx0 a (by simp)
  have b_b := hx0 b (by simp)
  have b_c := hx0 c (by simp)
  have k1 := h1
  have lt1 : ∀ x ∈ p1, x.block < W.heap.size := by obtain ⟨m, hm⟩ := k1; exact DataW.trod_lt m _ _ _ hm
  obtain ⟨xs1, hl1, rfl, hx1⟩ := open_flat Try.underlying57 cz57 fl57 Try.underlying3 (hval 1 57 v1 rfl rfl)
  obtain ⟨n, d, m, k, rfl⟩ := len4 hl1
  have b_n := hx1 n (by simp)
  have b_d := hx1 d (by simp)
  have b_m := hx1 m (by simp)
  have b_k := hx1 k (by simp)
  clear hA0 hval0
  refine (walk a b c n d m k W b_a b_b b_c b_n b_d b_m b_k).mono fun e W' ⟨he, bel⟩ => ?_
  subst he
  exact ⟨_, rfl, _, _, _, [], _, [], hW', trodAll_mk1 (shut_bool Try.underlying4 _), (trodAll_cons_mk (Below.trod laidOut (by kernel_rfl) (of_decide_eq_true (by kernel_rfl)) k0 bel lt0) (trodAll_cons_mk (Below.trod laidOut (by kernel_rfl) (of_decide_eq_true (by kernel_rfl)) k1 bel lt1) trodAll_mk0)), rfl, bel.frame _, fun h => by cases h⟩

theorem proved : Rows.FnExactSideOfRatSaid :=
  OpenClaim.holds_of_wide 11 Try.f11 rfl rfl rfl rfl rfl rfl rfl ⟨rfl, rfl, rfl, rfl, rfl⟩ rfl rfl rfl rfl rfl (by kernel_rfl) Try.func11 (by kernel_rfl)
    (of_decide_eq_true (by kernel_rfl)) (by unfold Func.isWrapper; first | (rw [if_pos (by decide +kernel)]; kernel_rfl) | (rw [if_neg (by decide +kernel)]; exact ⟨rfl, rfl⟩))
    (fun os started H enc _ => lifted os started H enc)

end FnExactSideOfRat

end Go.Proofs.Ytgnjmcfkehgdfaa
