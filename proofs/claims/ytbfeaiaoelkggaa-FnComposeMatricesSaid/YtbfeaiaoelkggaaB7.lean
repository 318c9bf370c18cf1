/- Contracts of functions that this seat's statements reach: each is shown to compute a plain Lean function, and to leave what was there as it was. No conditions but those in each theorem. -/
import Derived.Test.YtbfeaiaoelkggaaB5
import Derived.Test.YtbfeaiaoelkggaaCut
namespace Go.Proofs.Ytbfeaiaoelkggaa
open Go.RowKit
set_option linter.unusedVariables false

open Go.Sort

set_option maxHeartbeats 4000000 in
theorem impl_ComposeMatrices (a : Int) (b : Int) (c : Int) (d : Int) (p : Int) (q : Int) (r : Int) (s : Int) (w : World) :
    Calls Try.prog 8 #[.agg #[.int .i64 a, .int .i64 b, .int .i64 c, .int .i64 d], .agg #[.int .i64 p, .int .i64 q, .int .i64 r, .int .i64 s]] w fun e w' => e = .returned (.tuple #[.agg #[.int .i64 (CmA a b c d p q r s), .int .i64 (CmB a b c d p q r s), .int .i64 (CmC a b c d p q r s), .int .i64 (CmD a b c d p q r s)], .bool (cmB a b c d p q r s)]) ∧ Below w.heap.size w w' := by
  cases qa : matB a b c d with
  | false =>
    have hv : cmB a b c d p q r s = false := by simp [cmB, qa]
    have hr0 : CmA a b c d p q r s = 0 := by simp [CmA, hv]
    have hr1 : CmB a b c d p q r s = 0 := by simp [CmB, hv]
    have hr2 : CmC a b c d p q r s = 0 := by simp [CmC, hv]
    have hr3 : CmD a b c d p q r s = 0 := by simp [CmD, hv]
    rw [hr0, hr1, hr2, hr3, hv]
    clear hr0 hr1 hr2 hr3 hv
    go_enter Try.func8, Try.ntmps8
    go_wp2_with (first | (go_at_call 26; refine (impl_Matrix_valid _ _ _ _ _).mono ?_; rintro e w' ⟨rfl, hb⟩; obtain ⟨hc, hf⟩ := bcell hb; have hz0 : w.heap.size < w'.heap.size := (by ((have := hb.size; try simp at this); omega)); have hz1 : w.heap.size + 1 < w'.heap.size := (by ((have := hb.size; try simp at this); omega)); have hz2 : w.heap.size + 2 < w'.heap.size := (by ((have := hb.size; try simp at this); omega))))
    refine bodyPost_ret (v := .tuple #[.agg #[.int .i64 0, .int .i64 0, .int .i64 0, .int .i64 0], .bool (false)]) (by simp [results, Try.results8, go_sem, *]) rfl ⟨rfl, ?_⟩
    (repeat (first | with_reducible exact Below.refl _ _ | with_reducible refine bl_alloc ?_ _ | with_reducible refine bl_drew ?_ | with_reducible refine bl_set ?_ (by first | (simp; done) | (simp; omega)) _ | with_reducible refine bl_call (by assumption) ?_))
  | true =>
    cases qb : matB p q r s with
    | false =>
      have hv : cmB a b c d p q r s = false := by simp [cmB, qa, qb]
      have hr0 : CmA a b c d p q r s = 0 := by simp [CmA, hv]
      have hr1 : CmB a b c d p q r s = 0 := by simp [CmB, hv]
      have hr2 : CmC a b c d p q r s = 0 := by simp [CmC, hv]
      have hr3 : CmD a b c d p q r s = 0 := by simp [CmD, hv]
      rw [hr0, hr1, hr2, hr3, hv]
      clear hr0 hr1 hr2 hr3 hv
      go_enter Try.func8, Try.ntmps8
      go_wp2_with (first | (go_at_call 26; refine (impl_Matrix_valid _ _ _ _ _).mono ?_; rintro e w' ⟨rfl, hb⟩; obtain ⟨hc, hf⟩ := bcell hb; have hz0 : w.heap.size < w'.heap.size := (by ((have := hb.size; try simp at this); omega)); have hz1 : w.heap.size + 1 < w'.heap.size := (by ((have := hb.size; try simp at this); omega)); have hz2 : w.heap.size + 2 < w'.heap.size := (by ((have := hb.size; try simp at this); omega))))
      refine bodyPost_ret (v := .tuple #[.agg #[.int .i64 0, .int .i64 0, .int .i64 0, .int .i64 0], .bool (false)]) (by simp [results, Try.results8, go_sem, *]) rfl ⟨rfl, ?_⟩
      (repeat (first | with_reducible exact Below.refl _ _ | with_reducible refine bl_alloc ?_ _ | with_reducible refine bl_drew ?_ | with_reducible refine bl_set ?_ (by first | (simp; done) | (simp; omega)) _ | with_reducible refine bl_call (by assumption) ?_))
    | true =>
      obtain ⟨hr0, hr1, hr2, hr3, hr4⟩ := cm_eqs a b c d p q r s qa qb
      rw [hr0, hr1, hr2, hr3, hr4]
      clear hr0 hr1 hr2 hr3 hr4
      obtain ⟨⟨la, ua⟩, ⟨lb, ub⟩, ⟨lc, uc⟩, ⟨ld, ud⟩⟩ := matB_true qa
      obtain ⟨⟨lp, up⟩, ⟨lq, uq⟩, ⟨lr, ur⟩, ⟨ls, us⟩⟩ := matB_true qb
      go_enter Try.func8, Try.ntmps8
      go_wp2_with fail
      refine (impl_Matrix_valid _ _ _ _ _).mono ?_
      rintro e w1 ⟨rfl, hb1⟩
      obtain ⟨hc1, hf1⟩ := bcell hb1
      have s1 := hb1.size
      try simp at s1
      have z1_0 : w.heap.size < w1.heap.size := by omega
      have z1_1 : w.heap.size + 1 < w1.heap.size := by omega
      have z1_2 : w.heap.size + 1 + 1 < w1.heap.size := by omega
      go_wp2_with fail
      refine (impl_Matrix_valid _ _ _ _ _).mono ?_
      rintro e w2 ⟨rfl, hb2⟩
      obtain ⟨hc2, hf2⟩ := bcell hb2
      have s2 := hb2.size
      try simp at s2
      have z2_0 : w.heap.size < w2.heap.size := by omega
      have z2_1 : w.heap.size + 1 < w2.heap.size := by omega
      have z2_2 : w.heap.size + 1 + 1 < w2.heap.size := by omega
      have A0 : ∀ w', Hld w2 w' → w'.cell? ⟨w.heap.size, 0, none⟩ = some (.int .i64 a) := fun w' h => (Below.cell h (p := ⟨w.heap.size, 0, none⟩) z2_0).trans (by simp [go_sem, hc2, hc1, z1_0])
      have A1 : ∀ w', Hld w2 w' → w'.cell? ⟨w.heap.size, 1, none⟩ = some (.int .i64 b) := fun w' h => (Below.cell h (p := ⟨w.heap.size, 1, none⟩) z2_0).trans (by simp [go_sem, hc2, hc1, z1_0])
      have A2 : ∀ w', Hld w2 w' → w'.cell? ⟨w.heap.size, 2, none⟩ = some (.int .i64 c) := fun w' h => (Below.cell h (p := ⟨w.heap.size, 2, none⟩) z2_0).trans (by simp [go_sem, hc2, hc1, z1_0])
      have A3 : ∀ w', Hld w2 w' → w'.cell? ⟨w.heap.size, 3, none⟩ = some (.int .i64 d) := fun w' h => (Below.cell h (p := ⟨w.heap.size, 3, none⟩) z2_0).trans (by simp [go_sem, hc2, hc1, z1_0])
      have A4 : ∀ w', Hld w2 w' → w'.cell? ⟨w.heap.size + 1, 0, none⟩ = some (.int .i64 p) := fun w' h => (Below.cell h (p := ⟨w.heap.size + 1, 0, none⟩) z2_1).trans (by simp [go_sem, hc2, hc1, z1_1])
      have A5 : ∀ w', Hld w2 w' → w'.cell? ⟨w.heap.size + 1, 1, none⟩ = some (.int .i64 q) := fun w' h => (Below.cell h (p := ⟨w.heap.size + 1, 1, none⟩) z2_1).trans (by simp [go_sem, hc2, hc1, z1_1])
      have A6 : ∀ w', Hld w2 w' → w'.cell? ⟨w.heap.size + 1, 2, none⟩ = some (.int .i64 r) := fun w' h => (Below.cell h (p := ⟨w.heap.size + 1, 2, none⟩) z2_1).trans (by simp [go_sem, hc2, hc1, z1_1])
      have A7 : ∀ w', Hld w2 w' → w'.cell? ⟨w.heap.size + 1, 3, none⟩ = some (.int .i64 s) := fun w' h => (Below.cell h (p := ⟨w.heap.size + 1, 3, none⟩) z2_1).trans (by simp [go_sem, hc2, hc1, z1_1])
      have rc0 : w2.cell? ⟨w.heap.size + 1 + 1, 0, none⟩ = some (.int .i64 0) := by simp [go_sem, hc2, hc1, z1_2]
      have rf0 : w2.frozen? ⟨w.heap.size + 1 + 1, 0, none⟩ = false := by simp [go_sem, hf2, hf1, z1_2]
      have rc1 : w2.cell? ⟨w.heap.size + 1 + 1, 1, none⟩ = some (.int .i64 0) := by simp [go_sem, hc2, hc1, z1_2]
      have rf1 : w2.frozen? ⟨w.heap.size + 1 + 1, 1, none⟩ = false := by simp [go_sem, hf2, hf1, z1_2]
      have rc2 : w2.cell? ⟨w.heap.size + 1 + 1, 2, none⟩ = some (.int .i64 0) := by simp [go_sem, hc2, hc1, z1_2]
      have rf2 : w2.frozen? ⟨w.heap.size + 1 + 1, 2, none⟩ = false := by simp [go_sem, hf2, hf1, z1_2]
      have rc3 : w2.cell? ⟨w.heap.size + 1 + 1, 3, none⟩ = some (.int .i64 0) := by simp [go_sem, hc2, hc1, z1_2]
      have rf3 : w2.frozen? ⟨w.heap.size + 1 + 1, 3, none⟩ = false := by simp [go_sem, hf2, hf1, z1_2]
      clear hc1 hf1 hc2 hf2
      go_upto_region 3 with fail
      go_cut [6, 7] (fun s6 s7 wx => ∃ g1 g2 : Nat, s6 = .pointer (some ⟨g1, 0, none⟩) ∧ s7 = .pointer (some ⟨g2, 0, none⟩) ∧ wx.cell? ⟨g1, 0, none⟩ = some (.int .i64 (mm a b p r)) ∧ wx.cell? ⟨g1, 1, none⟩ = some (.int .i64 (mm c d p r)) ∧ wx.cell? ⟨g2, 0, none⟩ = some (.int .i64 (mm a b q s)) ∧ wx.cell? ⟨g2, 1, none⟩ = some (.int .i64 (mm c d q s)) ∧ g1 < wx.heap.size ∧ g2 < wx.heap.size ∧ Hld w2 wx)
      case first =>
        go_region_held3 (fun w' => Hld w2 w') ((repeat (first | with_reducible assumption | with_reducible exact Hld.start _ | with_reducible exact Hld.refl _ | with_reducible refine Hld.drew ?_ | with_reducible refine Hld.alloc ?_ _ | with_reducible refine Hld.set ?_ (by first | exact Nat.le_refl _ | assumption | (simp; done) | (simp; omega)) _))) (first | (go_at_call 27; refine (impl_Matrix_times _ _ _ _ _ _ _ (by omega) (by omega) (by omega) (by omega) (by omega) (by omega)).mono ?_; rintro e w' ⟨rfl, hb⟩; have HS : Hld w2 w' := Hld.call (by first | with_reducible assumption | with_reducible exact Hld.alloc (by with_reducible assumption) _) hb; have hsz := HS.size; (try (first | have H2 := bl_call hb H1 | have H2 := bl_call hb (bl_alloc H1 _))); (try (first | have H1 := bl_call hb H0 | have H1 := bl_call hb (bl_alloc H0 _))); have H0 := hb; (try (have hc0 := (bcell H0).1; have hf0 := (bcell H0).2)); (try (first | have l0 := lt_al H0 | have l0 := lt_ald H0)); (try (have hc1 := (bcell H1).1; have hf1 := (bcell H1).2)); (try (first | have l1 := lt_al H1 | have l1 := lt_ald H1)); (try (have hc2 := (bcell H2).1; have hf2 := (bcell H2).2)); (try (first | have l2 := lt_al H2 | have l2 := lt_ald H2)); (try (first | have m0 := lt_al2 H0 | have m0 := lt_al2d H0)); (try (have n0 := m0.1; have o0 := m0.2; clear m0)); (try (first | have m1 := lt_al2 H1 | have m1 := lt_al2d H1)); (try (have n1 := m1.1; have o1 := m1.2; clear m1)); (try (first | have m2 := lt_al2 H2 | have m2 := lt_al2d H2)); (try (have n2 := m2.1; have o2 := m2.2; clear m2))))
        all_goals (go_wp2_with fail; go_meet; exact ⟨_, _, rfl, rfl, by first | (simp [go_sem]; done) | (simp [go_sem, *]; done) | (simp (maxDischargeDepth := 8) [go_sem, *]; done), by first | (simp [go_sem]; done) | (simp [go_sem, *]; done) | (simp (maxDischargeDepth := 8) [go_sem, *]; done), by first | (simp [go_sem]; done) | (simp [go_sem, *]; done) | (simp (maxDischargeDepth := 8) [go_sem, *]; done), by first | (simp [go_sem]; done) | (simp [go_sem, *]; done) | (simp (maxDischargeDepth := 8) [go_sem, *]; done), by first | (simp; done) | (simp; omega), by first | (simp; done) | (simp; omega), by (repeat (first | with_reducible assumption | with_reducible exact Hld.start _ | with_reducible exact Hld.refl _ | with_reducible refine Hld.drew ?_ | with_reducible refine Hld.alloc ?_ _ | with_reducible refine Hld.set ?_ (by first | exact Nat.le_refl _ | assumption | (simp; done) | (simp; omega)) _))⟩)
      case rest =>
        obtain ⟨g1, g2, rfl, rfl, e0, e1, e2, e3, gz1, gz2, HW⟩ := hcut
        have rd0 : wc.cell? ⟨w.heap.size + 1 + 1, 0, none⟩ = some (.int .i64 0) := (Below.cell HW (p := ⟨w.heap.size + 1 + 1, 0, none⟩) z2_2).trans rc0
        have rg0 : wc.frozen? ⟨w.heap.size + 1 + 1, 0, none⟩ = false := (Below.frozen HW (p := ⟨w.heap.size + 1 + 1, 0, none⟩) z2_2).trans rf0
        have rd1 : wc.cell? ⟨w.heap.size + 1 + 1, 1, none⟩ = some (.int .i64 0) := (Below.cell HW (p := ⟨w.heap.size + 1 + 1, 1, none⟩) z2_2).trans rc1
        have rg1 : wc.frozen? ⟨w.heap.size + 1 + 1, 1, none⟩ = false := (Below.frozen HW (p := ⟨w.heap.size + 1 + 1, 1, none⟩) z2_2).trans rf1
        have rd2 : wc.cell? ⟨w.heap.size + 1 + 1, 2, none⟩ = some (.int .i64 0) := (Below.cell HW (p := ⟨w.heap.size + 1 + 1, 2, none⟩) z2_2).trans rc2
        have rg2 : wc.frozen? ⟨w.heap.size + 1 + 1, 2, none⟩ = false := (Below.frozen HW (p := ⟨w.heap.size + 1 + 1, 2, none⟩) z2_2).trans rf2
        have rd3 : wc.cell? ⟨w.heap.size + 1 + 1, 3, none⟩ = some (.int .i64 0) := (Below.cell HW (p := ⟨w.heap.size + 1 + 1, 3, none⟩) z2_2).trans rc3
        have rg3 : wc.frozen? ⟨w.heap.size + 1 + 1, 3, none⟩ = false := (Below.frozen HW (p := ⟨w.heap.size + 1 + 1, 3, none⟩) z2_2).trans rf3
        have zc : w.heap.size + 1 + 1 < wc.heap.size := Nat.lt_of_lt_of_le z2_2 HW.size
        have bw := bl_call HW (show Below w.heap.size w w2 from by (repeat (first | with_reducible exact Below.refl _ _ | with_reducible refine bl_alloc ?_ _ | with_reducible refine bl_drew ?_ | with_reducible refine bl_set ?_ (by first | (simp; done) | (simp; omega)) _ | with_reducible refine bl_call (by assumption) ?_)))
        clear HW A0 A1 A2 A3 A4 A5 A6 A7 rc0 rf0 rc1 rf1 rc2 rf2 rc3 rf3 hb1 hb2 s1 s2
        go_wp2_with (go_at_call 28; refine (impl_Matrix_made _ _ _ _ _).mono ?_; rintro e w3 ⟨rfl, hb⟩; obtain ⟨hc, hf⟩ := bcell hb; have z3 : w.heap.size + 1 + 1 < w3.heap.size := Nat.lt_of_lt_of_le zc hb.size)
        refine bodyPost_ret (v := .tuple #[.agg #[.int .i64 (okm (mm a b p r) (mm a b q s) (mm c d p r) (mm c d q s) (mm a b p r)), .int .i64 (okm (mm a b p r) (mm a b q s) (mm c d p r) (mm c d q s) (mm a b q s)), .int .i64 (okm (mm a b p r) (mm a b q s) (mm c d p r) (mm c d q s) (mm c d p r)), .int .i64 (okm (mm a b p r) (mm a b q s) (mm c d p r) (mm c d q s) (mm c d q s))], .bool (matB (mm a b p r) (mm a b q s) (mm c d p r) (mm c d q s))]) (by simp [results, Try.results8, go_sem, *]) rfl ⟨rfl, ?_⟩
        have bw2 := bl_call hb bw
        (repeat (first | assumption | with_reducible refine bl_set ?_ (by first | (simp; done) | (simp; omega)) _))

end Go.Proofs.Ytbfeaiaoelkggaa
