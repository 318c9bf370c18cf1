/- FnExactDiameter returns true for every argument, and leaves its arguments as they were. No conditions. -/
import Derived.Test.YtgnjmcfkehgdfaaFrame
import Derived.Test.YtgnjmcfkehgdfaaLiX
import Derived.Test.YtgnjmcfkehgdfaaFrameP
import Derived.Test.YtgnjmcfkehgdfaaCut
namespace Go.Proofs.Ytgnjmcfkehgdfaa
open Go.RowKit
set_option linter.unusedVariables false

open Go.ChangeShapes Go.WideShapes Go.ChangeAt
namespace FnExactDiameter

open Go.Sort

set_option maxHeartbeats 4000000 in
theorem walk (a : Option Addr) (n c : Nat) (zs : List (Int × Int)) (w : World) (hn2 : n ≤ 9223372036854775807) (hs : SlOfPoint w a n zs) :
    Calls Try.prog 10 #[.slice a n c] w fun e w' => e = .returned (.bool true) ∧ Below w.heap.size w w' := by
  have HZ := Lib.hid hs.1
  have HS := Lib.hid hs
  clear hs
  by_cases hn : n ≤ 1048576
  · have hnz : ¬ (1048576 : Int) - (n : Int) < 0 := by omega
    go_enter Try.func10, Try.ntmps10
    go_wp2_with fail
    refine (szPoint_ok a n c 1048576 _ (by omega) (by omega)).mono ?_
    rintro e w1 ⟨rfl, rfl⟩
    go_wp2_with fail
    refine (laws_toPointS a n c zs _ hn HS.out).mono ?_
    rintro e w1 ⟨b1, rfl, g1, l1, r1, B1⟩
    have S1 := Lib.hid (sl_belowPoint HS.out B1)
    go_wp2_with fail
    refine (spec_Diameter b1 0 n n zs _ hn HZ.out l1 r1).mono ?_
    rintro e w2 ⟨rfl, B2⟩
    have S2 := Lib.hid (sl_belowPoint S1.out B2)
    go_wp2_with fail
    refine (laws_toPointS a n c zs _ hn S2.out).mono ?_
    rintro e w3 ⟨b3, rfl, g3, l3, r3, B3⟩
    have S3 := Lib.hid (sl_belowPoint S2.out B3)
    go_wp2_with fail
    refine (impl_Diameter b3 0 n n zs _ hn HZ.out l3 r3).mono ?_
    rintro e w4 ⟨rfl, B4⟩
    have S4 := Lib.hid (sl_belowPoint S3.out B4)
    have r4 := row_belowPoint r3 l3 B4
    have l4 := Nat.lt_of_lt_of_le l3 B4.size
    go_wp2_with fail
    refine (laws_toPointS a n c zs _ hn S4.out).mono ?_
    rintro e w5 ⟨b5, rfl, g5, l5, r5, B5⟩
    have r6 := row_belowPoint r4 l4 B5
    have l6 := Nat.lt_of_lt_of_le l4 B5.size
    go_wp2_with fail
    refine (laws_eqPointS b3 b5 n n n zs _ hn HZ.out l6 r6 l5 r5).mono ?_
    rintro e w6 ⟨rfl, B6⟩
    go_wp2
    go_ret
    exact ⟨rfl, bl_call B6 (bl_call B5 (bl_call B4 (bl_call B3 (bl_call B2 B1))))⟩
  · have hnz : (-1 : Int) < 0 := by omega
    go_enter Try.func10, Try.ntmps10
    go_wp2_with fail
    refine (szPoint_no a n c 1048576 _ (by omega) (by omega) (by omega) hn2).mono ?_
    rintro e w1 ⟨rfl, rfl⟩
    go_wp2
    go_ret
    exact ⟨rfl, (by (repeat (first | with_reducible exact Below.refl _ _ | with_reducible refine bl_alloc ?_ _ | with_reducible refine bl_drew ?_ | with_reducible refine bl_set ?_ (by first | (simp; done) | (simp; omega)) _ | with_reducible refine bl_call (by assumption) ?_)))⟩

set_option maxRecDepth 100000 in
theorem lifted (os : Os) (started : os.Started) (H : Type) (enc : TypeId × Value → H) :
    ReturnsInHanded {} Try.checked os 10 .any (Rows.fnExactDiameterSpec.pre6 enc Try.prog Try.f10 Rows.fnExactDiameterRow.domain false) (Rows.fnExactDiameterSpec.post enc Try.prog Try.f10 false true false false) := by
  refine returnsInHanded_of_change (C := Try.checked) own started (by kernel_rfl) Try.func10
    (ChangeSpec.witness6 (enc := enc) (C := Try.checked) false ⟨#[], #[.slice none 0 0], []⟩ 8 (by kernel_rfl) (by kernel_rfl) (by kernel_rfl) (by kernel_rfl)) ?_
  intro W base args ds gs before hval0 hW hcnd _
  have hval : ∀ (j : Nat) t v, Try.f10.params[j]? = some t → args[j]? = some v → Value.okWide Try.prog W .any base t v := hval0
  have hW' := hW
  obtain ⟨p, q, hA0, hV, rfl, hfz, hnd⟩ := hW
  have hA : DataW.TrodAll enc Try.prog W 0 (fun _ => true) true Try.f10.params.toList args.toList ds p := hA0
  rw [Try.params10] at hA hval
  obtain ⟨v0, vs0, d0, ds0, p0, q0, hargs, rfl, rfl, h0, r0⟩ := trodAll_cons hA
  obtain ⟨rfl, rfl, rfl⟩ := trodAll_nil r0
  obtain rfl : args = #[v0] := by cases args; simp_all
  obtain ⟨rfl, rfl⟩ := trodVars_none hV
  have k0 := h0
  have lt0 : ∀ x ∈ p0, x.block < W.heap.size := by obtain ⟨m, hm⟩ := k0; exact DataW.trod_lt m _ _ _ hm
  obtain ⟨a0, n0, c0, rfl, _⟩ := okWide_slice Try.underlying32 (hval 0 32 v0 rfl rfl)
  obtain ⟨zs0, hs0, hm0⟩ := open_slPoint Try.underlying32 h0
  clear hA0 hval0
  refine (walk a0 n0 c0 zs0 W hm0 hs0).mono fun e W' ⟨he, bel⟩ => ?_
  subst he
  exact ⟨_, rfl, _, _, _, [], _, [], hW', trodAll_mk1 (shut_bool Try.underlying4 _), (trodAll_cons_mk (Below.trod laidOut (by kernel_rfl) (of_decide_eq_true (by kernel_rfl)) k0 bel lt0) trodAll_mk0), rfl, bel.frame _, fun h => by cases h⟩

theorem proved : Rows.FnExactDiameterSaid :=
  OpenClaim.holds_of_wide 10 Try.f10 rfl rfl rfl rfl rfl rfl rfl ⟨rfl, rfl, rfl, rfl, rfl⟩ rfl rfl rfl rfl rfl (by kernel_rfl) Try.func10 (by kernel_rfl)
    (of_decide_eq_true (by kernel_rfl)) (by unfold Func.isWrapper; first | (rw [if_pos (by decide +kernel)]; kernel_rfl) | (rw [if_neg (by decide +kernel)]; exact ⟨rfl, rfl⟩))
    (fun os started H enc _ => lifted os started H enc)

end FnExactDiameter

end Go.Proofs.Ytgnjmcfkehgdfaa
