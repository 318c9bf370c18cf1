/- FnExactDualPoint returns true for every argument, and leaves its arguments as they were. No conditions. -/
import Derived.Test.YtckaikammpiliaaFrame
import Derived.Test.YtckaikammpiliaaFns8
namespace Go.Proofs.Ytckaikammpiliaa
open Go.RowKit
set_option linter.unusedVariables false

open Go.ChangeShapes Go.WideShapes Go.ChangeAt
namespace FnExactDualPoint

theorem fl24 : Try.prog.cellTypes Try.prog.depth 24 = some (List.replicate 2 3) := by kernel_rfl
theorem cz24 : Try.prog.cellsOf 24 = 2 := by kernel_rfl

theorem walk (x : Int) (y : Int) (w : World) (b_x : -9223372036854775808 ≤ x ∧ x ≤ 9223372036854775807) (b_y : -9223372036854775808 ≤ y ∧ y ≤ 9223372036854775807) :
    Calls Try.prog 8 #[.agg #[.int .i64 x, .int .i64 y]] w fun e w' => e = .returned (.bool true) ∧ Below w.heap.size w w' := by
  clear b_x
  clear b_y
  go_enter Try.func8, Try.ntmps8
  go_wp2_with fail
  refine (laws_toGraph _ _ _).mono ?_
  rintro e w1 ⟨rfl, hb1⟩
  obtain ⟨hc1, hf1⟩ := bcell hb1
  have s1 := hb1.size
  try simp at s1
  have z1_0 : w.heap.size < w1.heap.size := by omega
  go_wp2_with fail
  refine (spec_DualPoint _ _ _).mono ?_
  rintro e w2 ⟨rfl, hb2⟩
  obtain ⟨hc2, hf2⟩ := bcell hb2
  have s2 := hb2.size
  try simp at s2
  have z2_0 : w.heap.size < w2.heap.size := by omega
  go_wp2_with fail
  refine (laws_toGraph _ _ _).mono ?_
  rintro e w3 ⟨rfl, hb3⟩
  obtain ⟨hc3, hf3⟩ := bcell hb3
  have s3 := hb3.size
  try simp at s3
  have z3_0 : w.heap.size < w3.heap.size := by omega
  have z3_1 : w2.heap.size < w3.heap.size := by omega
  go_wp2_with fail
  refine (impl_DualPoint _ _ _).mono ?_
  rintro e w4 ⟨rfl, hb4⟩
  obtain ⟨hc4, hf4⟩ := bcell hb4
  have s4 := hb4.size
  try simp at s4
  have z4_0 : w.heap.size < w4.heap.size := by omega
  have z4_1 : w2.heap.size < w4.heap.size := by omega
  go_wp2_with fail
  refine (laws_eqPoint _ _ _).mono ?_
  rintro e w5 ⟨rfl, hb5⟩
  obtain ⟨hc5, hf5⟩ := bcell hb5
  have s5 := hb5.size
  try simp at s5
  have z5_0 : w.heap.size < w5.heap.size := by omega
  have z5_1 : w2.heap.size < w5.heap.size := by omega
  have z5_2 : w4.heap.size < w5.heap.size := by omega
  go_wp2
  go_ret
  exact ⟨rfl, (by (repeat (first | with_reducible exact Below.refl _ _ | with_reducible refine bl_alloc ?_ _ | with_reducible refine bl_drew ?_ | with_reducible refine bl_set ?_ (by first | (simp; done) | (simp; omega)) _ | with_reducible refine bl_call (by assumption) ?_)))⟩

set_option maxRecDepth 100000 in
theorem lifted (os : Os) (started : os.Started) (H : Type) (enc : TypeId × Value → H) :
    ReturnsInHanded {} Try.checked os 8 .any (Rows.fnExactDualPointSpec.pre6 enc Try.prog Try.f8 Rows.fnExactDualPointRow.domain false) (Rows.fnExactDualPointSpec.post enc Try.prog Try.f8 false true false false) := by
  refine returnsInHanded_of_change (C := Try.checked) own started (by kernel_rfl) Try.func8
    (ChangeSpec.witness6 (enc := enc) (C := Try.checked) false ⟨#[], #[.agg #[.int .i64 0, .int .i64 0]], []⟩ 8 (by kernel_rfl) (by kernel_rfl) (by kernel_rfl) (by kernel_rfl)) ?_
  intro W base args ds gs before hval0 hW hcnd _
  have hval : ∀ (j : Nat) t v, Try.f8.params[j]? = some t → args[j]? = some v → Value.okWide Try.prog W .any base t v := hval0
  have hW' := hW
  obtain ⟨p, q, hA0, hV, rfl, hfz, hnd⟩ := hW
  have hA : DataW.TrodAll enc Try.prog W 0 (fun _ => true) true Try.f8.params.toList args.toList ds p := hA0
  rw [Try.params8] at hA hval
  obtain ⟨v0, vs0, d0, ds0, p0, q0, hargs, rfl, rfl, h0, r0⟩ := trodAll_cons hA
  obtain ⟨rfl, rfl, rfl⟩ := trodAll_nil r0
  obtain rfl : args = #[v0] := by cases args; simp_all
  obtain ⟨rfl, rfl⟩ := trodVars_none hV
  have k0 := h0
  have lt0 : ∀ x ∈ p0, x.block < W.heap.size := by obtain ⟨m, hm⟩ := k0; exact DataW.trod_lt m _ _ _ hm
  obtain ⟨xs0, hl0, rfl, hx0⟩ := open_flat Try.underlying24 cz24 fl24 Try.underlying3 (hval 0 24 v0 rfl rfl)
  obtain ⟨x, y, rfl⟩ := len2 hl0
  have b_x := hx0 x (by simp)
  have b_y := hx0 y (by simp)
  clear hA0 hval0
  refine (walk x y W b_x b_y).mono fun e W' ⟨he, bel⟩ => ?_
  subst he
  exact ⟨_, rfl, _, _, _, [], _, [], hW', trodAll_mk1 (shut_bool Try.underlying4 _), (trodAll_cons_mk (Below.trod laidOut (by kernel_rfl) (of_decide_eq_true (by kernel_rfl)) k0 bel lt0) trodAll_mk0), rfl, bel.frame _, fun h => by cases h⟩

theorem proved : Rows.FnExactDualPointSaid :=
  OpenClaim.holds_of_wide 8 Try.f8 rfl rfl rfl rfl rfl rfl rfl ⟨rfl, rfl, rfl, rfl, rfl⟩ rfl rfl rfl rfl rfl (by kernel_rfl) Try.func8 (by kernel_rfl)
    (of_decide_eq_true (by kernel_rfl)) (by unfold Func.isWrapper; first | (rw [if_pos (by decide +kernel)]; kernel_rfl) | (rw [if_neg (by decide +kernel)]; exact ⟨rfl, rfl⟩))
    (fun os started H enc _ => lifted os started H enc)

end FnExactDualPoint

end Go.Proofs.Ytckaikammpiliaa
