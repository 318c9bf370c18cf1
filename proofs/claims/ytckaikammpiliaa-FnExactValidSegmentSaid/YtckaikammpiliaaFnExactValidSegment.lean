/- FnExactValidSegment returns true for every argument, and leaves its arguments as they were. No conditions. -/
import Derived.Test.YtckaikammpiliaaFrame
import Derived.Test.YtckaikammpiliaaFns8
namespace Go.Proofs.Ytckaikammpiliaa
open Go.RowKit
set_option linter.unusedVariables false

open Go.ChangeShapes Go.WideShapes Go.ChangeAt
namespace FnExactValidSegment

theorem fl52 : Try.prog.cellTypes Try.prog.depth 52 = some (List.replicate 4 3) := by kernel_rfl
theorem cz52 : Try.prog.cellsOf 52 = 4 := by kernel_rfl

theorem walk (a1 : Int) (a2 : Int) (b1 : Int) (b2 : Int) (w : World) (b_a1 : -9223372036854775808 ≤ a1 ∧ a1 ≤ 9223372036854775807) (b_a2 : -9223372036854775808 ≤ a2 ∧ a2 ≤ 9223372036854775807) (b_b1 : -9223372036854775808 ≤ b1 ∧ b1 ≤ 9223372036854775807) (b_b2 : -9223372036854775808 ≤ b2 ∧ b2 ≤ 9223372036854775807) :
    Calls Try.prog 10 #[.agg #[.int .i64 a1, .int .i64 a2, .int .i64 b1, .int .i64 b2]] w fun e w' => e = .returned (.bool true) ∧ Below w.heap.size w w' := by
  clear b_a1
  clear b_a2
  clear b_b1
  clear b_b2
  go_enter Try.func10, Try.ntmps10
  go_wp2_with (first | (go_at_call 34; refine (laws_toSegment _ _ _ _ _).mono ?_; rintro e w' ⟨rfl, hb⟩; obtain ⟨hc, hf⟩ := bcell hb; have hz0 : w.heap.size < w'.heap.size := (by ((have := hb.size; try simp at this); omega))) | (go_at_call 33; refine (spec_ValidSegment _ _ _ _ _).mono ?_; rintro e w' ⟨rfl, hb⟩; obtain ⟨hc, hf⟩ := bcell hb; have hz0 : w.heap.size < w'.heap.size := (by ((have := hb.size; try simp at this); omega))) | (go_at_call 35; refine (impl_ValidSegment _ _ _ _ _).mono ?_; rintro e w' ⟨rfl, hb⟩; obtain ⟨hc, hf⟩ := bcell hb; have hz0 : w.heap.size < w'.heap.size := (by ((have := hb.size; try simp at this); omega))))
  go_ret
  exact ⟨rfl, (by (repeat (first | with_reducible exact Below.refl _ _ | with_reducible refine bl_alloc ?_ _ | with_reducible refine bl_drew ?_ | with_reducible refine bl_set ?_ (by first | (simp; done) | (simp; omega)) _ | with_reducible refine bl_call (by assumption) ?_)))⟩

set_option maxRecDepth 100000 in
theorem lifted (os : Os) (started : os.Started) (H : Type) (enc : TypeId × Value → H) :
    ReturnsInHanded {} Try.checked os 10 .any (Rows.fnExactValidSegmentSpec.pre6 enc Try.prog Try.f10 Rows.fnExactValidSegmentRow.domain false) (Rows.fnExactValidSegmentSpec.post enc Try.prog Try.f10 false true false false) := by
  refine returnsInHanded_of_change (C := Try.checked) own started (by kernel_rfl) Try.func10
    (ChangeSpec.witness6 (enc := enc) (C := Try.checked) false ⟨#[], #[.agg #[.int .i64 0, .int .i64 0, .int .i64 0, .int .i64 0]], []⟩ 8 (by kernel_rfl) (by kernel_rfl) (by kernel_rfl) (by kernel_rfl)) ?_
  intro W base args ds gs before hval0 hW hcnd _
  have hval : ∀ (j : Nat) t v, Try.f10.params[j]? = some t → args[j]? = some v → Value.okWide Try.prog W .any base t v := hval0
  have hW' := hW
  obtain ⟨p, q, hA0, hV, rfl, hfz, hnd⟩ := hW
  have hA : DataW.TrodAll enc Try.prog W 0 (fun _ => true) true Try.f10.params.toList args.toList ds p := hA0
  rw [Try.params10] at hA hval
  obtain ⟨v0, vs0, d0, ds0, p0, q0, hargs, rfl, rfl, h0, r0⟩ := trodAll_cons hA
  obtain ⟨rfl, rfl, rfl⟩ := trodAll_nil r0
  obtain rfl : args = #[v0] := by cases args; simp_all
  obtain ⟨rfl, rfl⟩ := trodVars_none hV
  have k0 := h0
  have lt0 : ∀ x ∈ p0, x.block < W.heap.size := by obtain ⟨m, hm⟩ := k0; exact DataW.trod_lt m _ _ _ hm
  obtain ⟨xs0, hl0, rfl, hx0⟩ := open_flat Try.underlying52 cz52 fl52 Try.underlying3 (hval 0 52 v0 rfl rfl)
  obtain ⟨a1, a2, b1, b2, rfl⟩ := len4 hl0
  have b_a1 := hx0 a1 (by simp)
  have b_a2 := hx0 a2 (by simp)
  have b_b1 := hx0 b1 (by simp)
  have b_b2 := hx0 b2 (by simp)
  clear hA0 hval0
  refine (walk a1 a2 b1 b2 W b_a1 b_a2 b_b1 b_b2).mono fun e W' ⟨he, bel⟩ => ?_
  subst he
  exact ⟨_, rfl, _, _, _, [], _, [], hW', trodAll_mk1 (shut_bool Try.underlying4 _), (trodAll_cons_mk (Below.trod laidOut (by kernel_rfl) (of_decide_eq_true (by kernel_rfl)) k0 bel lt0) trodAll_mk0), rfl, bel.frame _, fun h => by cases h⟩

theorem proved : Rows.FnExactValidSegmentSaid :=
  OpenClaim.holds_of_wide 10 Try.f10 rfl rfl rfl rfl rfl rfl rfl ⟨rfl, rfl, rfl, rfl, rfl⟩ rfl rfl rfl rfl rfl (by kernel_rfl) Try.func10 (by kernel_rfl)
    (of_decide_eq_true (by kernel_rfl)) (by unfold Func.isWrapper; first | (rw [if_pos (by decide +kernel)]; kernel_rfl) | (rw [if_neg (by decide +kernel)]; exact ⟨rfl, rfl⟩))
    (fun os started H enc _ => lifted os started H enc)

end FnExactValidSegment

end Go.Proofs.Ytckaikammpiliaa
