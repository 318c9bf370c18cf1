/- Contracts of functions that this seat's statements reach: each is shown to compute a plain Lean function, and to leave what was there as it was. No conditions but those in each theorem. -/
import Derived.Test.YtbhcodmpcknllaaRat
namespace Go.Proofs.Ytbhcodmpcknllaa
open Go.RowKit
set_option linter.unusedVariables false

open Go.Sort

theorem impl_reduced (num : Int) (den : Int) (w : World) (h0 : -9000000000000000000 ≤ num) (h1 : num ≤ 9000000000000000000) (h2 : -9000000000000000000 ≤ den) (h3 : den ≤ 9000000000000000000) (h4 : den ≠ 0) :
    Calls Try.prog 58 #[.int .i64 num, .int .i64 den] w fun e w' => e = .returned (.agg #[.int .i64 (redN num den), .int .i64 (redD num den)]) ∧ Below w.heap.size w w' := by
  have gp := gcdI_pos num den h4
  have gn : gcdI num den ≤ 9000000000000000000 := gcdI_le num den _ ⟨h0, h1⟩ ⟨h2, h3⟩
  obtain ⟨g, hg⟩ : ∃ g, gcdI num den = g := ⟨_, rfl⟩
  rw [hg] at gp gn
  obtain ⟨t1, t2⟩ := tdiv_bd num g 9000000000000000000 ⟨h0, h1⟩
  obtain ⟨t3, t4⟩ := tdiv_bd den g 9000000000000000000 ⟨h2, h3⟩
  by_cases hd : den < 0
  · have E1 : Hid (-num.tdiv g = redN num den) := Lib.hid (by rw [← hg, ← redN_neg num den hd, Int.tdiv_neg])
    have E2 : Hid (-den.tdiv g = redD num den) := Lib.hid (by rw [← hg, ← redD_neg num den hd, Int.tdiv_neg])
    have HG := Lib.hid hg
    clear hg
    go_enter Try.func58, Try.ntmps58
    go_wp2_with (go_at_call 105; refine (impl_divisor _ _ _ (by omega) (by omega) (by omega) (by omega)).mono ?_; rintro e w1 ⟨rfl, hb⟩; rw [HG.out]; obtain ⟨hc, hf⟩ := bcell hb; have hz0 : w.heap.size < w1.heap.size := (by ((have := hb.size; try simp at this); omega)))
    go_region
    all_goals go_wp2
    all_goals (refine bodyPost_ret (v := .agg #[.int .i64 (-num.tdiv g), .int .i64 (-den.tdiv g)]) (by simp [results, Try.results58, go_sem, *]) rfl ⟨by rw [E1.out, E2.out], ?_⟩)
    all_goals (repeat (first | with_reducible exact Below.refl _ _ | with_reducible refine bl_alloc ?_ _ | with_reducible refine bl_drew ?_ | with_reducible refine bl_set ?_ (by first | (simp; done) | (simp; omega)) _ | with_reducible refine bl_call (by assumption) ?_))
  · have E1 : Hid (num.tdiv g = redN num den) := Lib.hid (by rw [← hg, redN_pos num den hd])
    have E2 : Hid (den.tdiv g = redD num den) := Lib.hid (by rw [← hg, redD_pos num den hd])
    have HG := Lib.hid hg
    clear hg
    go_enter Try.func58, Try.ntmps58
    go_wp2_with (go_at_call 105; refine (impl_divisor _ _ _ (by omega) (by omega) (by omega) (by omega)).mono ?_; rintro e w1 ⟨rfl, hb⟩; rw [HG.out]; obtain ⟨hc, hf⟩ := bcell hb; have hz0 : w.heap.size < w1.heap.size := (by ((have := hb.size; try simp at this); omega)))
    go_region
    all_goals go_wp2
    all_goals (refine bodyPost_ret (v := .agg #[.int .i64 (num.tdiv g), .int .i64 (den.tdiv g)]) (by simp [results, Try.results58, go_sem, *]) rfl ⟨by rw [E1.out, E2.out], ?_⟩)
    all_goals (repeat (first | with_reducible exact Below.refl _ _ | with_reducible refine bl_alloc ?_ _ | with_reducible refine bl_drew ?_ | with_reducible refine bl_set ?_ (by first | (simp; done) | (simp; omega)) _ | with_reducible refine bl_call (by assumption) ?_))

theorem spec_ratio (num : Int) (den : Int) (w : World) (h0 : -9000000000000000000 ≤ num) (h1 : num ≤ 9000000000000000000) (h2 : -9000000000000000000 ≤ den) (h3 : den ≤ 9000000000000000000) (h4 : den ≠ 0) :
    Calls Try.prog 54 #[.int .i64 num, .int .i64 den] w fun e w' => e = .returned (.agg #[.int .i64 (redN num den), .int .i64 (redD num den)]) ∧ Below w.heap.size w w' := by
  have gp := gcdI_pos num den h4
  have gn : gcdI num den ≤ 9000000000000000000 := gcdI_le num den _ ⟨h0, h1⟩ ⟨h2, h3⟩
  obtain ⟨g, hg⟩ : ∃ g, gcdI num den = g := ⟨_, rfl⟩
  rw [hg] at gp gn
  obtain ⟨t1, t2⟩ := tdiv_bd num g 9000000000000000000 ⟨h0, h1⟩
  obtain ⟨t3, t4⟩ := tdiv_bd den g 9000000000000000000 ⟨h2, h3⟩
  by_cases hd : den < 0
  · have E1 : Hid (-num.tdiv g = redN num den) := Lib.hid (by rw [← hg, ← redN_neg num den hd, Int.tdiv_neg])
    have E2 : Hid (-den.tdiv g = redD num den) := Lib.hid (by rw [← hg, ← redD_neg num den hd, Int.tdiv_neg])
    have i1 : 0 ≤ iabs (-num) := by unfold iabs; omega
    have i2 : iabs (-num) ≤ 9000000000000000000 := by unfold iabs; omega
    have HA := Lib.hid (gcd_iabs' num den hd)
    have HG := Lib.hid hg
    clear hg
    go_enter Try.func54, Try.ntmps54
    go_wp2_with (first | (go_at_call 55; refine (spec_abs _ _ (by omega) (by omega)).mono ?_; rintro e w1 ⟨rfl, rfl⟩) | (go_at_call 103; refine (spec_gcd _ _ _ (by omega) (by omega) (by omega) (by omega)).mono ?_; rintro e w1 ⟨rfl, rfl⟩; rw [HA.out, HG.out]))
    go_region
    all_goals go_wp2
    all_goals (refine bodyPost_ret (v := .agg #[.int .i64 (-num.tdiv g), .int .i64 (-den.tdiv g)]) (by simp [results, Try.results54, go_sem]) rfl ⟨by rw [E1.out, E2.out], ?_⟩)
    all_goals (repeat (first | with_reducible exact Below.refl _ _ | with_reducible refine bl_alloc ?_ _ | with_reducible refine bl_drew ?_ | with_reducible refine bl_set ?_ (by first | (simp; done) | (simp; omega)) _ | with_reducible refine bl_call (by assumption) ?_))
  · have E1 : Hid (num.tdiv g = redN num den) := Lib.hid (by rw [← hg, redN_pos num den hd])
    have E2 : Hid (den.tdiv g = redD num den) := Lib.hid (by rw [← hg, redD_pos num den hd])
    have i1 : 0 ≤ iabs (num) := by unfold iabs; omega
    have i2 : iabs (num) ≤ 9000000000000000000 := by unfold iabs; omega
    have HA := Lib.hid (gcd_iabs num den hd)
    have HG := Lib.hid hg
    clear hg
    go_enter Try.func54, Try.ntmps54
    go_wp2_with (first | (go_at_call 55; refine (spec_abs _ _ (by omega) (by omega)).mono ?_; rintro e w1 ⟨rfl, rfl⟩) | (go_at_call 103; refine (spec_gcd _ _ _ (by omega) (by omega) (by omega) (by omega)).mono ?_; rintro e w1 ⟨rfl, rfl⟩; rw [HA.out, HG.out]))
    go_region
    all_goals go_wp2
    all_goals (refine bodyPost_ret (v := .agg #[.int .i64 (num.tdiv g), .int .i64 (den.tdiv g)]) (by simp [results, Try.results54, go_sem]) rfl ⟨by rw [E1.out, E2.out], ?_⟩)
    all_goals (repeat (first | with_reducible exact Below.refl _ _ | with_reducible refine bl_alloc ?_ _ | with_reducible refine bl_drew ?_ | with_reducible refine bl_set ?_ (by first | (simp; done) | (simp; omega)) _ | with_reducible refine bl_call (by assumption) ?_))

end Go.Proofs.Ytbhcodmpcknllaa
