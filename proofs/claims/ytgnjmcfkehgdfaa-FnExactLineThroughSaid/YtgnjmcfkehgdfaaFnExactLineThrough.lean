/- FnExactLineThrough returns true for every argument, and leaves its arguments as they were. No conditions. -/
import Derived.Test.YtgnjmcfkehgdfaaFrame
import Derived.Test.YtgnjmcfkehgdfaaLt2
import Derived.Test.YtgnjmcfkehgdfaaLt3
import Derived.Test.YtgnjmcfkehgdfaaCut
namespace Go.Proofs.Ytgnjmcfkehgdfaa
open Go.RowKit
set_option linter.unusedVariables false

open Go.ChangeShapes Go.WideShapes Go.ChangeAt
namespace FnExactLineThrough

theorem fl23 : Try.prog.cellTypes Try.prog.depth 23 = some (List.replicate 2 3) := by kernel_rfl
theorem cz23 : Try.prog.cellsOf 23 = 2 := by kernel_rfl

open Go.Sort

set_option maxHeartbeats 4000000 in
theorem walk (a1 : Int) (a2 : Int) (b1 : Int) (b2 : Int) (w : World) (b_a1 : -9223372036854775808 ≤ a1 ∧ a1 ≤ 9223372036854775807) (b_a2 : -9223372036854775808 ≤ a2 ∧ a2 ≤ 9223372036854775807) (b_b1 : -9223372036854775808 ≤ b1 ∧ b1 ≤ 9223372036854775807) (b_b2 : -9223372036854775808 ≤ b2 ∧ b2 ≤ 9223372036854775807) :
    Calls Try.prog 3 #[.agg #[.int .i64 a1, .int .i64 a2], .agg #[.int .i64 b1, .int .i64 b2]] w fun e w' => e = .returned (.bool true) ∧ Below w.heap.size w w' := by
  clear b_a1 b_a2 b_b1 b_b2
  have A0 : ∀ w', Hld ((w.alloc (Obj.cells #[.int .i64 a1, .int .i64 a2] 23)).alloc (Obj.cells #[.int .i64 b1, .int .i64 b2] 23)) w' → w'.cell? ⟨w.heap.size, 0, none⟩ = some (.int .i64 a1) := fun w' h => (Below.cell h (p := ⟨w.heap.size, 0, none⟩) (by first | (simp; done) | (simp; omega))).trans (by simp [go_sem])
  have A1 : ∀ w', Hld ((w.alloc (Obj.cells #[.int .i64 a1, .int .i64 a2] 23)).alloc (Obj.cells #[.int .i64 b1, .int .i64 b2] 23)) w' → w'.cell? ⟨w.heap.size, 1, none⟩ = some (.int .i64 a2) := fun w' h => (Below.cell h (p := ⟨w.heap.size, 1, none⟩) (by first | (simp; done) | (simp; omega))).trans (by simp [go_sem])
  have A2 : ∀ w', Hld ((w.alloc (Obj.cells #[.int .i64 a1, .int .i64 a2] 23)).alloc (Obj.cells #[.int .i64 b1, .int .i64 b2] 23)) w' → w'.cell? ⟨w.heap.size + 1, 0, none⟩ = some (.int .i64 b1) := fun w' h => (Below.cell h (p := ⟨w.heap.size + 1, 0, none⟩) (by first | (simp; done) | (simp; omega))).trans (by simp [go_sem])
  have A3 : ∀ w', Hld ((w.alloc (Obj.cells #[.int .i64 a1, .int .i64 a2] 23)).alloc (Obj.cells #[.int .i64 b1, .int .i64 b2] 23)) w' → w'.cell? ⟨w.heap.size + 1, 1, none⟩ = some (.int .i64 b2) := fun w' h => (Below.cell h (p := ⟨w.heap.size + 1, 1, none⟩) (by first | (simp; done) | (simp; omega))).trans (by simp [go_sem])
  have hW0 : w.heap.size + 2 ≤ ((w.alloc (Obj.cells #[.int .i64 a1, .int .i64 a2] 23)).alloc (Obj.cells #[.int .i64 b1, .int .i64 b2] 23)).heap.size := by first | (simp; done) | (simp; omega)
  go_enter Try.func3, Try.ntmps3
  go_upto_region 1 with fail
  go_cut [5, 6] (fun s5 s6 wx => ∃ g : Nat, s5 = .pointer (some ⟨g, 0, none⟩) ∧ s6 = .bool (ltOk a1 a2 b1 b2) ∧ wx.cell? ⟨g, 0, none⟩ = some (.int .i64 (LtA a1 a2 b1 b2)) ∧ wx.cell? ⟨g, 1, none⟩ = some (.int .i64 (LtB a1 a2 b1 b2)) ∧ wx.cell? ⟨g, 2, none⟩ = some (.int .i64 (LtC a1 a2 b1 b2)) ∧ g < wx.heap.size ∧ w.heap.size ≤ g ∧ Hld ((w.alloc (Obj.cells #[.int .i64 a1, .int .i64 a2] 23)).alloc (Obj.cells #[.int .i64 b1, .int .i64 b2] 23)) wx)
  case first =>
    go_region_held3 (fun w' => Hld ((w.alloc (Obj.cells #[.int .i64 a1, .int .i64 a2] 23)).alloc (Obj.cells #[.int .i64 b1, .int .i64 b2] 23)) w') ((repeat (first | with_reducible assumption | with_reducible exact Hld.start _ | with_reducible exact Hld.refl _ | with_reducible refine Hld.drew ?_ | with_reducible refine Hld.alloc ?_ _ | with_reducible refine Hld.set ?_ (by first | exact Nat.le_refl _ | assumption | (simp; done) | (simp; omega)) _))) (first | (go_at_call 13; refine (laws_toPoint _ _ _).mono ?_; rintro e w' ⟨rfl, hb⟩; have HS : Hld ((w.alloc (Obj.cells #[.int .i64 a1, .int .i64 a2] 23)).alloc (Obj.cells #[.int .i64 b1, .int .i64 b2] 23)) w' := Hld.call (by first | with_reducible assumption | with_reducible exact Hld.alloc (by with_reducible assumption) _) hb; have hsz := HS.size; (try (first | have H2 := bl_call hb H1 | have H2 := bl_call hb (bl_alloc H1 _))); (try (first | have H1 := bl_call hb H0 | have H1 := bl_call hb (bl_alloc H0 _))); have H0 := hb; (try (have hc0 := (bcell H0).1; have hf0 := (bcell H0).2)); (try (first | have l0 := lt_al H0 | have l0 := lt_ald H0)); (try (have hc1 := (bcell H1).1; have hf1 := (bcell H1).2)); (try (first | have l1 := lt_al H1 | have l1 := lt_ald H1)); (try (have hc2 := (bcell H2).1; have hf2 := (bcell H2).2)); (try (first | have l2 := lt_al H2 | have l2 := lt_ald H2))) | (go_at_call 12; refine (spec_LineThrough _ _ _ _ _).mono ?_; rintro e w' ⟨rfl, hb⟩; have HS : Hld ((w.alloc (Obj.cells #[.int .i64 a1, .int .i64 a2] 23)).alloc (Obj.cells #[.int .i64 b1, .int .i64 b2] 23)) w' := Hld.call (by first | with_reducible assumption | with_reducible exact Hld.alloc (by with_reducible assumption) _) hb; have hsz := HS.size; (try (first | have H2 := bl_call hb H1 | have H2 := bl_call hb (bl_alloc H1 _))); (try (first | have H1 := bl_call hb H0 | have H1 := bl_call hb (bl_alloc H0 _))); have H0 := hb; (try (have hc0 := (bcell H0).1; have hf0 := (bcell H0).2)); (try (first | have l0 := lt_al H0 | have l0 := lt_ald H0)); (try (have hc1 := (bcell H1).1; have hf1 := (bcell H1).2)); (try (first | have l1 := lt_al H1 | have l1 := lt_ald H1)); (try (have hc2 := (bcell H2).1; have hf2 := (bcell H2).2)); (try (first | have l2 := lt_al H2 | have l2 := lt_ald H2))))
    all_goals (go_wp2_with fail; go_meet; exact ⟨_, rfl, rfl, by first | (simp [go_sem]; done) | (simp [go_sem, *]; done) | (simp (maxDischargeDepth := 8) [go_sem, *]; done), by first | (simp [go_sem]; done) | (simp [go_sem, *]; done) | (simp (maxDischargeDepth := 8) [go_sem, *]; done), by first | (simp [go_sem]; done) | (simp [go_sem, *]; done) | (simp (maxDischargeDepth := 8) [go_sem, *]; done), by first | (simp; done) | (simp; omega), by first | (simp; done) | omega | (simp; omega), by (repeat (first | with_reducible assumption | with_reducible exact Hld.start _ | with_reducible exact Hld.refl _ | with_reducible refine Hld.drew ?_ | with_reducible refine Hld.alloc ?_ _ | with_reducible refine Hld.set ?_ (by first | exact Nat.le_refl _ | assumption | (simp; done) | (simp; omega)) _))⟩)
  case rest =>
    obtain ⟨g1, rfl, rfl, e0, e1, e2, gz1, gw1, HW⟩ := hcut
    have B0 : ∀ w', Hld wc w' → w'.cell? ⟨w.heap.size, 0, none⟩ = some (.int .i64 a1) := fun w' h => (Below.cell h (p := ⟨w.heap.size, 0, none⟩) (by have h9 := HW.size; simp at h9; dsimp only; omega)).trans (A0 wc HW)
    have B1 : ∀ w', Hld wc w' → w'.cell? ⟨w.heap.size, 1, none⟩ = some (.int .i64 a2) := fun w' h => (Below.cell h (p := ⟨w.heap.size, 1, none⟩) (by have h9 := HW.size; simp at h9; dsimp only; omega)).trans (A1 wc HW)
    have B2 : ∀ w', Hld wc w' → w'.cell? ⟨w.heap.size + 1, 0, none⟩ = some (.int .i64 b1) := fun w' h => (Below.cell h (p := ⟨w.heap.size + 1, 0, none⟩) (by have h9 := HW.size; simp at h9; dsimp only; omega)).trans (A2 wc HW)
    have B3 : ∀ w', Hld wc w' → w'.cell? ⟨w.heap.size + 1, 1, none⟩ = some (.int .i64 b2) := fun w' h => (Below.cell h (p := ⟨w.heap.size + 1, 1, none⟩) (by have h9 := HW.size; simp at h9; dsimp only; omega)).trans (A3 wc HW)
    clear A0 A1 A2 A3
    have hw0 : w.heap.size ≤ wc.heap.size := by omega
    go_upto_region 2 with fail
    go_cut [7, 8] (fun s7 s8 wx => ∃ g : Nat, s7 = .pointer (some ⟨g, 0, none⟩) ∧ s8 = .bool (ltOk a1 a2 b1 b2) ∧ wx.cell? ⟨g, 0, none⟩ = some (.int .i64 (LtA a1 a2 b1 b2)) ∧ wx.cell? ⟨g, 1, none⟩ = some (.int .i64 (LtB a1 a2 b1 b2)) ∧ wx.cell? ⟨g, 2, none⟩ = some (.int .i64 (LtC a1 a2 b1 b2)) ∧ g < wx.heap.size ∧ w.heap.size ≤ g ∧ Hld wc wx)
    case first =>
      go_region_held3 (fun w' => Hld wc w') ((repeat (first | with_reducible assumption | with_reducible exact Hld.start _ | with_reducible exact Hld.refl _ | with_reducible refine Hld.drew ?_ | with_reducible refine Hld.alloc ?_ _ | with_reducible refine Hld.set ?_ (by first | exact Nat.le_refl _ | assumption | (simp; done) | (simp; omega)) _))) (first | (go_at_call 13; refine (laws_toPoint _ _ _).mono ?_; rintro e w' ⟨rfl, hb⟩; have HS : Hld wc w' := Hld.call (by first | with_reducible assumption | with_reducible exact Hld.alloc (by with_reducible assumption) _) hb; have hsz := HS.size; (try (first | have H2 := bl_call hb H1 | have H2 := bl_call hb (bl_alloc H1 _))); (try (first | have H1 := bl_call hb H0 | have H1 := bl_call hb (bl_alloc H0 _))); have H0 := hb; (try (have hc0 := (bcell H0).1; have hf0 := (bcell H0).2)); (try (first | have l0 := lt_al H0 | have l0 := lt_ald H0)); (try (have hc1 := (bcell H1).1; have hf1 := (bcell H1).2)); (try (first | have l1 := lt_al H1 | have l1 := lt_ald H1)); (try (have hc2 := (bcell H2).1; have hf2 := (bcell H2).2)); (try (first | have l2 := lt_al H2 | have l2 := lt_ald H2))) | (go_at_call 14; refine (impl_LineThrough _ _ _ _ _).mono ?_; rintro e w' ⟨rfl, hb⟩; have HS : Hld wc w' := Hld.call (by first | with_reducible assumption | with_reducible exact Hld.alloc (by with_reducible assumption) _) hb; have hsz := HS.size; (try (first | have H2 := bl_call hb H1 | have H2 := bl_call hb (bl_alloc H1 _))); (try (first | have H1 := bl_call hb H0 | have H1 := bl_call hb (bl_alloc H0 _))); have H0 := hb; (try (have hc0 := (bcell H0).1; have hf0 := (bcell H0).2)); (try (first | have l0 := lt_al H0 | have l0 := lt_ald H0)); (try (have hc1 := (bcell H1).1; have hf1 := (bcell H1).2)); (try (first | have l1 := lt_al H1 | have l1 := lt_ald H1)); (try (have hc2 := (bcell H2).1; have hf2 := (bcell H2).2)); (try (first | have l2 := lt_al H2 | have l2 := lt_ald H2))))
      all_goals (go_wp2_with fail; go_meet; exact ⟨_, rfl, rfl, by first | (simp [go_sem]; done) | (simp [go_sem, *]; done) | (simp (maxDischargeDepth := 8) [go_sem, *]; done), by first | (simp [go_sem]; done) | (simp [go_sem, *]; done) | (simp (maxDischargeDepth := 8) [go_sem, *]; done), by first | (simp [go_sem]; done) | (simp [go_sem, *]; done) | (simp (maxDischargeDepth := 8) [go_sem, *]; done), by first | (simp; done) | (simp; omega), by first | (simp; done) | omega | (simp; omega), by (repeat (first | with_reducible assumption | with_reducible exact Hld.start _ | with_reducible exact Hld.refl _ | with_reducible refine Hld.drew ?_ | with_reducible refine Hld.alloc ?_ _ | with_reducible refine Hld.set ?_ (by first | exact Nat.le_refl _ | assumption | (simp; done) | (simp; omega)) _))⟩)
    case rest =>
      obtain ⟨g2, rfl, rfl, d0, d1, d2, gz2, gw2, HW2⟩ := hcut
      have c0 := (Below.cell HW2 (p := ⟨g1, 0, none⟩) gz1).trans e0
      have c1 := (Below.cell HW2 (p := ⟨g1, 1, none⟩) gz1).trans e1
      have c2 := (Below.cell HW2 (p := ⟨g1, 2, none⟩) gz1).trans e2
      have bw := bl_call HW2 (bl_call HW (show Below w.heap.size w ((w.alloc (Obj.cells #[.int .i64 a1, .int .i64 a2] 23)).alloc (Obj.cells #[.int .i64 b1, .int .i64 b2] 23)) from by (repeat (first | with_reducible exact Below.refl _ _ | with_reducible refine bl_alloc ?_ _ | with_reducible refine bl_drew ?_ | with_reducible refine bl_set ?_ (by first | (simp; done) | (simp; omega)) _ | with_reducible refine bl_call (by assumption) ?_))))
      clear HW HW2 e0 e1 e2 B0 B1 B2 B3
      go_wp2_with (go_at_call 15; refine (laws_eqLine _ _ _ _).mono ?_; rintro e w' ⟨rfl, hb⟩)
      go_ret
      exact ⟨rfl, bl_call hb bw⟩

set_option maxRecDepth 100000 in
theorem lifted (os : Os) (started : os.Started) (H : Type) (enc : TypeId × Value → H) :
    ReturnsInHanded {} Try.checked os 3 .any (Rows.fnExactLineThroughSpec.pre6 enc Try.prog Try.f3 Rows.fnExactLineThroughRow.domain false) (Rows.fnExactLineThroughSpec.post enc Try.prog Try.f3 false true false false) := by
  refine returnsInHanded_of_change (C := Try.checked) own started (by kernel_rfl) Try.func3
    (ChangeSpec.witness6 (enc := enc) (C := Try.checked) false ⟨#[], #[.agg #[.int .i64 0, .int .i64 0], .agg #[.int .i64 0, .int .i64 0]], []⟩ 8 (by kernel_rfl) (by kernel_rfl) (by kernel_rfl) (by kernel_rfl)) ?_
  intro W base args ds gs before hval0 hW hcnd _
  have hval : ∀ (j : Nat) t v, Try.f3.params[j]? = some t → args[j]? = some v → Value.okWide Try.prog W .any base t v := hval0
  have hW' := hW
  obtain ⟨p, q, hA0, hV, rfl, hfz, hnd⟩ := hW
  have hA : DataW.TrodAll enc Try.prog W 0 (fun _ => true) true Try.f3.params.toList args.toList ds p := hA0
  rw [Try.params3] at hA hval
  obtain ⟨v0, vs0, d0, ds0, p0, q0, hargs, rfl, rfl, h0, r0⟩ := trodAll_cons hA
  obtain ⟨v1, vs1, d1, ds1, p1, q1, rfl, rfl, rfl, h1, r1⟩ := trodAll_cons r0
  obtain ⟨rfl, rfl, rfl⟩ := trodAll_nil r1
  obtain rfl : args = #[v0, v1] := by cases args; simp_all
  obtain ⟨rfl, rfl⟩ := trodVars_none hV
  have k0 := h0
  have lt0 : ∀ x ∈ p0, x.block < W.heap.size := by obtain ⟨m, hm⟩ := k0; exact DataW.trod_lt m _ _ _ hm
  obtain ⟨xs0, hl0, rfl, hx0⟩ := open_flat Try.underlying23 cz23 fl23 Try.underlying3 (hval 0 23 v0 rfl rfl)
  obtain ⟨a1, a2, rfl⟩ := len2 hl0
  have b_a1 := hx0 a1 (by simp)
  have b_a2 := hx0 a2 (by simp)
  have k1 := h1
  have lt1 : ∀ x ∈ p1, x.block < W.heap.size := by obtain ⟨m, hm⟩ := k1; exact DataW.trod_lt m _ _ _ hm
  obtain ⟨xs1, hl1, rfl, hx1⟩ := open_flat Try.underlying23 cz23 fl23 Try.underlying3 (hval 1 23 v1 rfl rfl)
  obtain ⟨b1, b2, rfl⟩ := len2 hl1
  have b_b1 := hx1 b1 (by simp)
  have b_b2 := hx1 b2 (by simp)
  clear hA0 hval0
  refine (walk a1 a2 b1 b2 W b_a1 b_a2 b_b1 b_b2).mono fun e W' ⟨he, bel⟩ => ?_
  subst he
  exact ⟨_, rfl, _, _, _, [], _, [], hW', trodAll_mk1 (shut_bool Try.underlying4 _), (trodAll_cons_mk (Below.trod laidOut (by kernel_rfl) (of_decide_eq_true (by kernel_rfl)) k0 bel lt0) (trodAll_cons_mk (Below.trod laidOut (by kernel_rfl) (of_decide_eq_true (by kernel_rfl)) k1 bel lt1) trodAll_mk0)), rfl, bel.frame _, fun h => by cases h⟩

theorem proved : Rows.FnExactLineThroughSaid :=
  OpenClaim.holds_of_wide 3 Try.f3 rfl rfl rfl rfl rfl rfl rfl ⟨rfl, rfl, rfl, rfl, rfl⟩ rfl rfl rfl rfl rfl (by kernel_rfl) Try.func3 (by kernel_rfl)
    (of_decide_eq_true (by kernel_rfl)) (by unfold Func.isWrapper; first | (rw [if_pos (by decide +kernel)]; kernel_rfl) | (rw [if_neg (by decide +kernel)]; exact ⟨rfl, rfl⟩))
    (fun os started H enc _ => lifted os started H enc)

end FnExactLineThrough

end Go.Proofs.Ytgnjmcfkehgdfaa
