/- FnExactInRegion returns true for every argument, and leaves its arguments as they were. No conditions. -/
import Derived.Test.YtgnjmcfkehgdfaaFrame
import Derived.Test.YtgnjmcfkehgdfaaLiR
import Derived.Test.YtgnjmcfkehgdfaaFrameH
import Derived.Test.YtgnjmcfkehgdfaaCut
namespace Go.Proofs.Ytgnjmcfkehgdfaa
open Go.RowKit
set_option linter.unusedVariables false

open Go.ChangeShapes Go.WideShapes Go.ChangeAt
namespace FnExactInRegion

theorem fl23 : Try.prog.cellTypes Try.prog.depth 23 = some (List.replicate 2 3) := by kernel_rfl
theorem cz23 : Try.prog.cellsOf 23 = 2 := by kernel_rfl

open Go.Sort

set_option maxHeartbeats 4000000 in
theorem walk (a : Option Addr) (n c : Nat) (zs : List (Int × Int × Int)) (x : Int) (y : Int) (w : World) (hn2 : n ≤ 9223372036854775807) (hs : SlOfHalfPlane w a n zs) (b_x : -9223372036854775808 ≤ x ∧ x ≤ 9223372036854775807) (b_y : -9223372036854775808 ≤ y ∧ y ≤ 9223372036854775807) :
    Calls Try.prog 7 #[.slice a n c, .agg #[.int .i64 x, .int .i64 y]] w fun e w' => e = .returned (.bool true) ∧ Below w.heap.size w w' := by
  clear b_x
  clear b_y
  have HS : ∀ w', Hld (w.alloc (Obj.cells #[.int .i64 x, .int .i64 y] 23)) w' → SlOfHalfPlane w' a n zs := fun w' h => sl_belowHalfPlane hs (bl_call h (show Below w.heap.size w (w.alloc (Obj.cells #[.int .i64 x, .int .i64 y] 23)) from by (repeat (first | with_reducible exact Below.refl _ _ | with_reducible refine bl_alloc ?_ _ | with_reducible refine bl_drew ?_ | with_reducible refine bl_set ?_ (by first | (simp; done) | (simp; omega)) _ | with_reducible refine bl_call (by assumption) ?_))))
  have Ax_0 : ∀ w', Hld (w.alloc (Obj.cells #[.int .i64 x, .int .i64 y] 23)) w' → w'.cell? ⟨w.heap.size, 0, none⟩ = some (.int .i64 x) := fun w' h => (Below.cell h (p := ⟨w.heap.size, 0, none⟩) (by simp)).trans (by simp [go_sem])
  have Ay_1 : ∀ w', Hld (w.alloc (Obj.cells #[.int .i64 x, .int .i64 y] 23)) w' → w'.cell? ⟨w.heap.size, 1, none⟩ = some (.int .i64 y) := fun w' h => (Below.cell h (p := ⟨w.heap.size, 1, none⟩) (by simp)).trans (by simp [go_sem])
  have HZ := Lib.hid hs.1
  have HSS := Lib.hid HS
  clear hs HS
  by_cases hn : n ≤ 1048576
  · have hnz : ¬ (1048576 : Int) - (n : Int) < 0 := by omega
    go_enter Try.func7, Try.ntmps7
    go_wp2_with fail
    refine (szHalfPlane_ok a n c 1048576 _ (by omega) (by omega)).mono ?_
    rintro e w1 ⟨rfl, rfl⟩
    go_wp2
    go_region_held3 (fun w' => Hld (w.alloc (Obj.cells #[.int .i64 x, .int .i64 y] 23)) w') ((repeat (first | with_reducible assumption | with_reducible exact Hld.start _ | with_reducible exact Hld.refl _ | with_reducible refine Hld.drew ?_))) (first | (go_at_call 27; refine (laws_toHalfPlaneS a n c zs _ hn (HSS.out _ (by first | with_reducible assumption | with_reducible exact Hld.refl _ | with_reducible exact Hld.start _))).mono ?_; rintro e w1 ⟨b1, rfl, g1, l1, r1, B1⟩; have H1 : Hld (w.alloc (Obj.cells #[.int .i64 x, .int .i64 y] 23)) w1 := Hld.call (by first | with_reducible assumption | with_reducible exact Hld.refl _ | with_reducible exact Hld.start _) B1) | (go_at_call 13; refine (laws_toPoint _ _ _).mono ?_; rintro e w2 ⟨rfl, B2⟩; have H2 : Hld (w.alloc (Obj.cells #[.int .i64 x, .int .i64 y] 23)) w2 := Hld.call (by first | with_reducible assumption | with_reducible exact Hld.refl _ | with_reducible exact Hld.start _) B2; have l2 := Nat.lt_of_lt_of_le l1 B2.size; have r2 := row_belowHalfPlane r1 l1 B2) | (go_at_call 26; refine (spec_InRegion b1 0 n n zs x y _ hn HZ.out l2 r2).mono ?_; rintro e w3 ⟨rfl, B3⟩; have H3 : Hld (w.alloc (Obj.cells #[.int .i64 x, .int .i64 y] 23)) w3 := Hld.call (by first | with_reducible assumption | with_reducible exact Hld.refl _ | with_reducible exact Hld.start _) B3))
    all_goals (
      go_wp2_with fail
      refine (laws_toHalfPlaneS a n c zs _ hn (HSS.out _ H3)).mono ?_
      rintro e w4 ⟨b4, rfl, g4, l4, r4, B4⟩
      have H4 := Hld.call H3 B4
      have c4_x := Ax_0 w4 H4
      have c4_y := Ay_1 w4 H4
      go_wp2_with fail
      refine (laws_toPoint _ _ _).mono ?_
      rintro e w5 ⟨rfl, B5⟩
      have H5 := Hld.call H4 B5
      have l5 := Nat.lt_of_lt_of_le l4 B5.size
      have r5 := row_belowHalfPlane r4 l4 B5
      have c5_x := Ax_0 w5 H5
      have c5_y := Ay_1 w5 H5
      go_wp2_with fail
      refine (impl_InRegion b4 0 n n zs x y _ hn HZ.out l5 r5).mono ?_
      rintro e w6 ⟨rfl, B6⟩
      have H6 := Hld.call H5 B6
      have l6 := Nat.lt_of_lt_of_le l5 B6.size
      have r6 := row_belowHalfPlane r5 l5 B6
      go_wp2_with fail
      refine (laws_toHalfPlaneS a n c zs _ hn (HSS.out _ H6)).mono ?_
      rintro e w7 ⟨b9, rfl, g9, l9, r9, B7⟩
      have H7 := Hld.call H6 B7
      have l7 := Nat.lt_of_lt_of_le l6 B7.size
      have r7 := row_belowHalfPlane r6 l6 B7
      go_wp2_with fail
      refine (laws_eqHalfPlaneS b4 b9 n n n zs _ hn HZ.out l7 r7 l9 r9).mono ?_
      rintro e wz ⟨rfl, Bz⟩
      go_wp2
      go_ret
      exact ⟨rfl, bl_call (Hld.call H7 Bz) (show Below w.heap.size w (w.alloc (Obj.cells #[.int .i64 x, .int .i64 y] 23)) from by (repeat (first | with_reducible exact Below.refl _ _ | with_reducible refine bl_alloc ?_ _ | with_reducible refine bl_drew ?_ | with_reducible refine bl_set ?_ (by first | (simp; done) | (simp; omega)) _ | with_reducible refine bl_call (by assumption) ?_)))⟩)
  · have hnz : (-1 : Int) < 0 := by omega
    go_enter Try.func7, Try.ntmps7
    go_wp2_with fail
    refine (szHalfPlane_no a n c 1048576 _ (by omega) (by omega) (by omega) hn2).mono ?_
    rintro e w1 ⟨rfl, rfl⟩
    go_wp2
    go_ret
    exact ⟨rfl, (by (repeat (first | with_reducible exact Below.refl _ _ | with_reducible refine bl_alloc ?_ _ | with_reducible refine bl_drew ?_ | with_reducible refine bl_set ?_ (by first | (simp; done) | (simp; omega)) _ | with_reducible refine bl_call (by assumption) ?_)))⟩

set_option maxRecDepth 100000 in
theorem lifted (os : Os) (started : os.Started) (H : Type) (enc : TypeId × Value → H) :
    ReturnsInHanded {} Try.checked os 7 .any (Rows.fnExactInRegionSpec.pre6 enc Try.prog Try.f7 Rows.fnExactInRegionRow.domain false) (Rows.fnExactInRegionSpec.post enc Try.prog Try.f7 false true false false) := by
  refine returnsInHanded_of_change (C := Try.checked) own started (by kernel_rfl) Try.func7
    (ChangeSpec.witness6 (enc := enc) (C := Try.checked) false ⟨#[], #[.slice none 0 0, .agg #[.int .i64 0, .int .i64 0]], []⟩ 8 (by kernel_rfl) (by kernel_rfl) (by kernel_rfl) (by kernel_rfl)) ?_
  intro W base args ds gs before hval0 hW hcnd _
  have hval : ∀ (j : Nat) t v, Try.f7.params[j]? = some t → args[j]? = some v → Value.okWide Try.prog W .any base t v := hval0
  have hW' := hW
  obtain ⟨p, q, hA0, hV, rfl, hfz, hnd⟩ := hW
  have hA : DataW.TrodAll enc Try.prog W 0 (fun _ => true) true Try.f7.params.toList args.toList ds p := hA0
  rw [Try.params7] at hA hval
  obtain ⟨v0, vs0, d0, ds0, p0, q0, hargs, rfl, rfl, h0, r0⟩ := trodAll_cons hA
  obtain ⟨v1, vs1, d1, ds1, p1, q1, rfl, rfl, rfl, h1, r1⟩ := trodAll_cons r0
  obtain ⟨rfl, rfl, rfl⟩ := trodAll_nil r1
  obtain rfl : args = #[v0, v1] := by cases args; simp_all
  obtain ⟨rfl, rfl⟩ := trodVars_none hV
  have k0 := h0
  have lt0 : ∀ x ∈ p0, x.block < W.heap.size := by obtain ⟨m, hm⟩ := k0; exact DataW.trod_lt m _ _ _ hm
  obtain ⟨a0, n0, c0, rfl, _⟩ := okWide_slice Try.underlying41 (hval 0 41 v0 rfl rfl)
  obtain ⟨zs0, hs0, hm0⟩ := open_slHalfPlane Try.underlying41 h0
  have k1 := h1
  have lt1 : ∀ x ∈ p1, x.block < W.heap.size := by obtain ⟨m, hm⟩ := k1; exact DataW.trod_lt m _ _ _ hm
  obtain ⟨xs1, hl1, rfl, hx1⟩ := open_flat Try.underlying23 cz23 fl23 Try.underlying3 (hval 1 23 v1 rfl rfl)
  obtain ⟨x, y, rfl⟩ := len2 hl1
  have b_x := hx1 x (by simp)
  have b_y := hx1 y (by simp)
  clear hA0 hval0
  refine (walk a0 n0 c0 zs0 x y W hm0 hs0 b_x b_y).mono fun e W' ⟨he, bel⟩ => ?_
  subst he
  exact ⟨_, rfl, _, _, _, [], _, [], hW', trodAll_mk1 (shut_bool Try.underlying4 _), (trodAll_cons_mk (Below.trod laidOut (by kernel_rfl) (of_decide_eq_true (by kernel_rfl)) k0 bel lt0) (trodAll_cons_mk (Below.trod laidOut (by kernel_rfl) (of_decide_eq_true (by kernel_rfl)) k1 bel lt1) trodAll_mk0)), rfl, bel.frame _, fun h => by cases h⟩

theorem proved : Rows.FnExactInRegionSaid :=
  OpenClaim.holds_of_wide 7 Try.f7 rfl rfl rfl rfl rfl rfl rfl ⟨rfl, rfl, rfl, rfl, rfl⟩ rfl rfl rfl rfl rfl (by kernel_rfl) Try.func7 (by kernel_rfl)
    (of_decide_eq_true (by kernel_rfl)) (by unfold Func.isWrapper; first | (rw [if_pos (by decide +kernel)]; kernel_rfl) | (rw [if_neg (by decide +kernel)]; exact ⟨rfl, rfl⟩))
    (fun os started H enc _ => lifted os started H enc)

end FnExactInRegion

end Go.Proofs.Ytgnjmcfkehgdfaa
