/- FnExactInvertMatrix returns true for every argument, and leaves its arguments as they were. No conditions. -/
import Derived.Test.YtgbociejgnifiaaFrame
import Derived.Test.YtgbociejgnifiaaB8
namespace Go.Proofs.Ytgbociejgnifiaa
open Go.RowKit
set_option linter.unusedVariables false

open Go.ChangeShapes Go.WideShapes Go.ChangeAt
namespace FnExactInvertMatrix

theorem fl23 : Try.prog.cellTypes Try.prog.depth 23 = some (List.replicate 4 3) := by kernel_rfl
theorem cz23 : Try.prog.cellsOf 23 = 4 := by kernel_rfl

open Go.Sort

set_option maxHeartbeats 2000000 in
theorem walk (a : Int) (b : Int) (c : Int) (d : Int) (w : World) (b_a : -9223372036854775808 ≤ a ∧ a ≤ 9223372036854775807) (b_b : -9223372036854775808 ≤ b ∧ b ≤ 9223372036854775807) (b_c : -9223372036854775808 ≤ c ∧ c ≤ 9223372036854775807) (b_d : -9223372036854775808 ≤ d ∧ d ≤ 9223372036854775807) :
    Calls Try.prog 6 #[.agg #[.int .i64 a, .int .i64 b, .int .i64 c, .int .i64 d]] w fun e w' => e = .returned (.bool true) ∧ Below w.heap.size w w' := by
  clear b_a b_b b_c b_d
  go_enter Try.func6, Try.ntmps6
  go_wp2_with fail
  refine (laws_toMatrix _ _ _ _ _).mono ?_
  rintro e w1 ⟨rfl, hb1⟩
  obtain ⟨hc1, hf1⟩ := bcell hb1
  have s1 := hb1.size
  try simp at s1
  have z1_0 : w.heap.size < w1.heap.size := by omega
  go_wp2_with fail
  refine (spec_InvertMatrix _ _ _ _ _).mono ?_
  rintro e w2 ⟨rfl, hb2⟩
  obtain ⟨hc2, hf2⟩ := bcell hb2
  have s2 := hb2.size
  try simp at s2
  have z2_0 : w.heap.size < w2.heap.size := by omega
  go_wp2_with fail
  refine (laws_toMatrix _ _ _ _ _).mono ?_
  rintro e w3 ⟨rfl, hb3⟩
  obtain ⟨hc3, hf3⟩ := bcell hb3
  have s3 := hb3.size
  try simp at s3
  have z3_0 : w.heap.size < w3.heap.size := by omega
  have z3_1 : w2.heap.size < w3.heap.size := by omega
  go_wp2_with fail
  refine (impl_InvertMatrix _ _ _ _ _).mono ?_
  rintro e w4 ⟨rfl, hb4⟩
  obtain ⟨hc4, hf4⟩ := bcell hb4
  have s4 := hb4.size
  try simp at s4
  have z4_0 : w.heap.size < w4.heap.size := by omega
  have z4_1 : w2.heap.size < w4.heap.size := by omega
  go_wp2_with fail
  refine (laws_eqMatrix _ _ _ _ _).mono ?_
  rintro e w5 ⟨rfl, hb5⟩
  obtain ⟨hc5, hf5⟩ := bcell hb5
  have s5 := hb5.size
  try simp at s5
  have z5_0 : w.heap.size < w5.heap.size := by omega
  have z5_1 : w2.heap.size < w5.heap.size := by omega
  have z5_2 : w4.heap.size < w5.heap.size := by omega
  go_wp2
  go_ret
  exact ⟨rfl, (by (repeat (first | with_reducible exact Below.refl _ _ | with_reducible refine bl_alloc ?_ _ | with_reducible refine bl_drew ?_ | with_reducible refine bl_set ?_ (by first | (simp; done) | (simp; omega)) _ | with_reducible refine bl_call (by assumption) ?_)))⟩

set_option maxRecDepth 100000 in
theorem lifted (os : Os) (started : os.Started) (H : Type) (enc : TypeId × Value → H) :
    ReturnsInHanded {} Try.checked os 6 .any (Rows.fnExactInvertMatrixSpec.pre6 enc Try.prog Try.f6 Rows.fnExactInvertMatrixRow.domain false) (Rows.fnExactInvertMatrixSpec.post enc Try.prog Try.f6 false true false false) := by
  refine returnsInHanded_of_change (C := Try.checked) own started (by kernel_rfl) Try.func6
    (ChangeSpec.witness6 (enc := enc) (C := Try.checked) false ⟨#[], #[.agg #[.int .i64 0, .int .i64 0, .int .i64 0, .int .i64 0]], []⟩ 8 (by kernel_rfl) (by kernel_rfl) (by kernel_rfl) (by kernel_rfl)) ?_
  intro W base args ds gs before hval0 hW hcnd _
  have hval : ∀ (j : Nat) t v, Try.f6.params[j]? = some t → args[j]? = some v → Value.okWide Try.prog W .any base t v := hval0
  have hW' := hW
  obtain ⟨p, q, hA0, hV, rfl, hfz, hnd⟩ := hW
  have hA : DataW.TrodAll enc Try.prog W 0 (fun _ => true) true Try.f6.params.toList args.toList ds p := hA0
  rw [Try.params6] at hA hval
  obtain ⟨v0, vs0, d0, ds0, p0, q0, hargs, rfl, rfl, h0, r0⟩ := trodAll_cons hA
  obtain ⟨rfl, rfl, rfl⟩ := trodAll_nil r0
  obtain rfl : args = #[v0] := by cases args; simp_all
  obtain ⟨rfl, rfl⟩ := trodVars_none hV
  have k0 := h0
  have lt0 : ∀ x ∈ p0, x.block < W.heap.size := by obtain ⟨m, hm⟩ := k0; exact DataW.trod_lt m _ _ _ hm
  obtain ⟨xs0, hl0, rfl, hx0⟩ := open_flat Try.underlying23 cz23 fl23 Try.underlying3 (hval 0 23 v0 rfl rfl)
  obtain ⟨a, b, c, d, rfl⟩ := len4 hl0
  have b_a := hx0 a (by simp)
  have b_b := hx0 b (by simp)
  have b_c := hx0 c (by simp)
  have b_d := hx0 d (by simp)
  clear hA0 hval0
  refine (walk a b c d W b_a b_b b_c b_d).mono fun e W' ⟨he, bel⟩ => ?_
  subst he
  exact ⟨_, rfl, _, _, _, [], _, [], hW', trodAll_mk1 (shut_bool Try.underlying4 _), (trodAll_cons_mk (Below.trod laidOut (by kernel_rfl) (of_decide_eq_true (by kernel_rfl)) k0 bel lt0) trodAll_mk0), rfl, bel.frame _, fun h => by cases h⟩

theorem proved : Rows.FnExactInvertMatrixSaid :=
  OpenClaim.holds_of_wide 6 Try.f6 rfl rfl rfl rfl rfl rfl rfl ⟨rfl, rfl, rfl, rfl, rfl⟩ rfl rfl rfl rfl rfl (by kernel_rfl) Try.func6 (by kernel_rfl)
    (of_decide_eq_true (by kernel_rfl)) (by unfold Func.isWrapper; first | (rw [if_pos (by decide +kernel)]; kernel_rfl) | (rw [if_neg (by decide +kernel)]; exact ⟨rfl, rfl⟩))
    (fun os started H enc _ => lifted os started H enc)

end FnExactInvertMatrix

end Go.Proofs.Ytgbociejgnifiaa
