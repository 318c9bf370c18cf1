/- Contracts of functions that this seat's statements reach: each is shown to compute a plain Lean function, and to leave what was there as it was. No conditions but those in each theorem. -/
import Derived.Test.YtgnjmcfkehgdfaaRowsP5
import Derived.Test.YtgnjmcfkehgdfaaPlainL
import Derived.Test.YtgnjmcfkehgdfaaGeo
import Derived.Test.YtgnjmcfkehgdfaaGn
namespace Go.Proofs.Ytgnjmcfkehgdfaa
open Go.RowKit
set_option linter.unusedVariables false

set_option maxHeartbeats 4000000 in
theorem spec_extreme (b off n c : Nat) (zs : List (Int × Int)) (x y : Int) (w : World) (hn : n ≤ 1048576) (hz : zs.length = n) (hb : b < w.heap.size) (hr : rowOfPoint w b off zs) (hv : listB zs = true) (hn0 : 0 < n) (hx : (-1000 ≤ x ∧ x ≤ 1000) ∧ (-1000 ≤ y ∧ y ≤ 1000)) :
    Calls Try.prog 51 #[.slice (some ⟨b, off, none⟩) n c, .agg #[.int .i64 x, .int .i64 y]] w fun e w' => e = .returned (.int .i64 ((bestK (extF zs x y) zs.length : Nat) : Int)) ∧ Below w.heap.size w w' := by
  have HZ := Lib.hid hz
  have HR := Lib.hid hr
  have hB := Lib.hid hb
  clear hz hr hb
  have HA := Lib.hid hv
  clear hv
  go_enter Try.func51, Try.ntmps51
  go_wp2
  have HN0 := Lib.hid hn0
  go_loopg [5, 6] n (fun gg s5 s8 wr => ∃ kk kb : Nat, kk ≤ n ∧ n - kk ≤ gg ∧ kb < n ∧ Aside (kb = bestK (extF zs x y) kk) ∧ s5 = .int .i64 kb ∧ s8 = .int .i64 kk ∧ Aside (Below w.heap.size w wr) ∧ wr.cell? ⟨w.heap.size, 0, none⟩ = some (.int .i64 x) ∧ wr.cell? ⟨w.heap.size, 1, none⟩ = some (.int .i64 y) ∧ w.heap.size < wr.heap.size)
  case atStart => exact ⟨0, 0, Nat.zero_le _, by omega, HN0.out, rfl, rfl, rfl, (show Below w.heap.size w _ from bl_alloc (Below.refl _ _) _), by simp [go_sem], by simp [go_sem], by simp⟩
  case round =>
    obtain ⟨kk, kb, hkk, hg, hkb, KB, rfl, rfl, BW, X0, X1, XS⟩ := hrel
    by_cases hlt : kk < n
    · have hltz : (kk : Int) < (n : Int) := by omega
      have hkbz : (kb : Int) < (n : Int) := by omega
      have hlz : kk < zs.length := by rw [HZ.out]; exact hlt
      have hlb : kb < zs.length := by rw [HZ.out]; exact hkb
      have l0 := (BW.out.cell (p := ⟨b, off + kk * 2, none⟩) hB.out).trans (HR.out kk hlz).1
      have l1 := (BW.out.cell (p := ⟨b, off + kk * 2 + 1, none⟩) hB.out).trans (HR.out kk hlz).2
      have l2 := (BW.out.cell (p := ⟨b, off + kb * 2, none⟩) hB.out).trans (HR.out kb hlb).1
      have l3 := (BW.out.cell (p := ⟨b, off + kb * 2 + 1, none⟩) hB.out).trans (HR.out kb hlb).2
      have hp := listB_at HA.out hlz
      have hq := listB_at HA.out hlb
      have hn20 := listB_len HA.out
      rw [HZ.out] at hn20
      have HY : Hid (zs[kb]!.1 * x + zs[kb]!.2 * y < zs[kk]!.1 * x + zs[kk]!.2 * y → bestK (extF zs x y) (kk + 1) = kk) := Lib.hid fun h => bestK_yes (by rw [← KB.out]; exact decide_eq_true h)
      have HNN : Hid (¬ (zs[kb]!.1 * x + zs[kb]!.2 * y < zs[kk]!.1 * x + zs[kk]!.2 * y) → bestK (extF zs x y) (kk + 1) = kb) := Lib.hid fun h => (bestK_no (by rw [← KB.out]; exact decide_eq_false h)).trans KB.out.symm
      clear hlz hlb
      generalize zs[kk]! = p at l0 l1 hp HY HNN
      generalize zs[kb]! = q at l2 l3 hq HY HNN
      obtain ⟨m0, u0⟩ := mul_bd p.1 x 1000 1000 hp.1 hx.1 (by omega) (by omega)
      obtain ⟨m1, u1⟩ := mul_bd p.2 y 1000 1000 hp.2 hx.2 (by omega) (by omega)
      obtain ⟨m2, u2⟩ := mul_bd q.1 x 1000 1000 hq.1 hx.1 (by omega) (by omega)
      obtain ⟨m3, u3⟩ := mul_bd q.2 y 1000 1000 hq.2 hx.2 (by omega) (by omega)
      have wr0 : IntKind.i64.wrap (p.1 * x) = p.1 * x := IntWalk.i64_in _ (by omega)
      have wr1 : IntKind.i64.wrap (p.2 * y) = p.2 * y := IntWalk.i64_in _ (by omega)
      have wr2 : IntKind.i64.wrap (p.1 * x + p.2 * y) = p.1 * x + p.2 * y := IntWalk.i64_in _ (by omega)
      have wr3 : IntKind.i64.wrap (q.1 * x) = q.1 * x := IntWalk.i64_in _ (by omega)
      have wr4 : IntKind.i64.wrap (q.2 * y) = q.2 * y := IntWalk.i64_in _ (by omega)
      have wr5 : IntKind.i64.wrap (q.1 * x + q.2 * y) = q.1 * x + q.2 * y := IntWalk.i64_in _ (by omega)
      have k0 := cell_regrown l0
      have k1 := cell_regrown l1
      have k2 := cell_regrown X0
      have k3 := cell_regrown X1
      have k4 := cell_regrown l2
      have k5 := cell_regrown l3
      clear l0 l1 l2 l3 X0 X1
      go_wp2
      refine wp_region_quiet_below (by kernel_rfl) (by kernel_rfl) ?_
      repeat (go_big_quiet_step (fail))
      refine wpQuiet_nil ?_
      intro _ hw'
      obtain ⟨⟨dq, osq⟩, hw''⟩ := hw'
      subst hw''
      have l2 := k2 dq osq
      have l3 := k3 dq osq
      have HB := below_regrown wr dq osq
      have B3 := Lib.hid (bl_call HB BW.out)
      have S3 := Nat.lt_of_lt_of_le XS (Nat.le_trans (show wr.heap.size ≤ wr.heap.size by simp) HB.size)
      clear k0 k1 k2 k3 k4 k5 HB
      by_cases hle : q.1 * x + q.2 * y < p.1 * x + p.2 * y
      · go_wp2
        go_roundg (n - (kk + 1))
        case measure => omega
        case rel => exact ⟨kk + 1, kk, by omega, by omega, by omega, (show kk = bestK (extF zs x y) (kk + 1) from (HY.out hle).symm), rfl, by go_num, B3.out, l2, l3, S3⟩

      · go_wp2
        go_roundg (n - (kk + 1))
        case measure => omega
        case rel => exact ⟨kk + 1, kb, by omega, by omega, by omega, (show kb = bestK (extF zs x y) (kk + 1) from (HNN.out hle).symm), rfl, by go_num, B3.out, l2, l3, S3⟩

    · have hltz : ¬ (kk : Int) < (n : Int) := by omega
      have : kk = n := by omega
      subst this
      go_wp2
      go_ret
      exact ⟨ret_int (by rw [KB.out, HZ.out]), BW.out⟩

set_option maxHeartbeats 4000000 in
theorem impl_extreme (b off n c : Nat) (zs : List (Int × Int)) (x y : Int) (w : World) (hn : n ≤ 1048576) (hz : zs.length = n) (hb : b < w.heap.size) (hr : rowOfPoint w b off zs) (hv : listB zs = true) (hn0 : 0 < n) (hx : (-1000 ≤ x ∧ x ≤ 1000) ∧ (-1000 ≤ y ∧ y ≤ 1000)) :
    Calls Try.prog 52 #[.slice (some ⟨b, off, none⟩) n c, .agg #[.int .i64 x, .int .i64 y]] w fun e w' => e = .returned (.int .i64 ((bestK (extF zs x y) zs.length : Nat) : Int)) ∧ Below w.heap.size w w' := by
  have HZ := Lib.hid hz
  have HR := Lib.hid hr
  have hB := Lib.hid hb
  clear hz hr hb
  have HA := Lib.hid hv
  clear hv
  go_enter Try.func52, Try.ntmps52
  go_wp2
  have HN0 := Lib.hid hn0
  go_loopg [5, 6, 7, 10] n (fun gg s5 _ _ s8 wr => ∃ kk kb : Nat, kk ≤ n ∧ n - kk ≤ gg ∧ kb < n ∧ Aside (kb = bestK (extF zs x y) kk) ∧ s5 = .int .i64 kb ∧ s8 = .int .i64 kk ∧ Aside (Below w.heap.size w wr) ∧ wr.cell? ⟨w.heap.size, 0, none⟩ = some (.int .i64 x) ∧ wr.cell? ⟨w.heap.size, 1, none⟩ = some (.int .i64 y) ∧ w.heap.size < wr.heap.size)
  case atStart => exact ⟨0, 0, Nat.zero_le _, by omega, HN0.out, rfl, rfl, rfl, (show Below w.heap.size w _ from bl_alloc (Below.refl _ _) _), by simp [go_sem], by simp [go_sem], by simp⟩
  case round =>
    obtain ⟨kk, kb, hkk, hg, hkb, KB, rfl, rfl, BW, X0, X1, XS⟩ := hrel
    by_cases hlt : kk < n
    · have hltz : (kk : Int) < (n : Int) := by omega
      have hkbz : (kb : Int) < (n : Int) := by omega
      have hlz : kk < zs.length := by rw [HZ.out]; exact hlt
      have hlb : kb < zs.length := by rw [HZ.out]; exact hkb
      have l0 := (BW.out.cell (p := ⟨b, off + kk * 2, none⟩) hB.out).trans (HR.out kk hlz).1
      have l1 := (BW.out.cell (p := ⟨b, off + kk * 2 + 1, none⟩) hB.out).trans (HR.out kk hlz).2
      have l2 := (BW.out.cell (p := ⟨b, off + kb * 2, none⟩) hB.out).trans (HR.out kb hlb).1
      have l3 := (BW.out.cell (p := ⟨b, off + kb * 2 + 1, none⟩) hB.out).trans (HR.out kb hlb).2
      have hp := listB_at HA.out hlz
      have hq := listB_at HA.out hlb
      have hn20 := listB_len HA.out
      rw [HZ.out] at hn20
      have HY : Hid (zs[kb]!.1 * x + zs[kb]!.2 * y < zs[kk]!.1 * x + zs[kk]!.2 * y → bestK (extF zs x y) (kk + 1) = kk) := Lib.hid fun h => bestK_yes (by rw [← KB.out]; exact decide_eq_true h)
      have HNN : Hid (¬ (zs[kb]!.1 * x + zs[kb]!.2 * y < zs[kk]!.1 * x + zs[kk]!.2 * y) → bestK (extF zs x y) (kk + 1) = kb) := Lib.hid fun h => (bestK_no (by rw [← KB.out]; exact decide_eq_false h)).trans KB.out.symm
      clear hlz hlb
      generalize zs[kk]! = p at l0 l1 hp HY HNN
      generalize zs[kb]! = q at l2 l3 hq HY HNN
      obtain ⟨m0, u0⟩ := mul_bd p.1 x 1000 1000 hp.1 hx.1 (by omega) (by omega)
      obtain ⟨m1, u1⟩ := mul_bd p.2 y 1000 1000 hp.2 hx.2 (by omega) (by omega)
      obtain ⟨m2, u2⟩ := mul_bd q.1 x 1000 1000 hq.1 hx.1 (by omega) (by omega)
      obtain ⟨m3, u3⟩ := mul_bd q.2 y 1000 1000 hq.2 hx.2 (by omega) (by omega)
      go_wp2
      have k0 := cell_regrown (show (wr.alloc (Obj.cells #[.int .i64 p.1, .int .i64 p.2] 28)).cell? ⟨wr.heap.size, 0, none⟩ = some (.int .i64 p.1) by simp [go_sem])
      have k1 := cell_regrown (show (wr.alloc (Obj.cells #[.int .i64 p.1, .int .i64 p.2] 28)).cell? ⟨wr.heap.size, 1, none⟩ = some (.int .i64 p.2) by simp [go_sem])
      have k2 := cell_regrown (calloc X0 (Obj.cells #[.int .i64 p.1, .int .i64 p.2] 28))
      have k3 := cell_regrown (calloc X1 (Obj.cells #[.int .i64 p.1, .int .i64 p.2] 28))
      have k4 := cell_regrown (calloc l2 (Obj.cells #[.int .i64 p.1, .int .i64 p.2] 28))
      have k5 := cell_regrown (calloc l3 (Obj.cells #[.int .i64 p.1, .int .i64 p.2] 28))
      clear l0 l1 l2 l3 X0 X1
      refine wp_region_quiet_below (by kernel_rfl) (by kernel_rfl) ?_
      repeat (go_big_quiet_step ((first | (go_at_call 85; with_reducible exact Calls.regrown_of (impl_Point_dot p.1 p.2 x y _ (by omega) (by omega) (by omega) (by omega))) | (go_at_call 85; with_reducible exact Calls.regrown_of (impl_Point_dot q.1 q.2 x y _ (by omega) (by omega) (by omega) (by omega))))))
      refine wpQuiet_nil ?_
      intro _ hw'
      obtain ⟨⟨dq, osq⟩, hw''⟩ := hw'
      subst hw''
      have l2 := k2 dq osq
      have l3 := k3 dq osq
      have HB := below_regrown (wr.alloc (Obj.cells #[.int .i64 p.1, .int .i64 p.2] 28)) dq osq
      have B3 := Lib.hid (bl_call HB (bl_alloc BW.out _))
      have S3 := Nat.lt_of_lt_of_le XS (Nat.le_trans (show wr.heap.size ≤ (wr.alloc (Obj.cells #[.int .i64 p.1, .int .i64 p.2] 28)).heap.size by simp) HB.size)
      clear k0 k1 k2 k3 k4 k5 HB
      by_cases hle : q.1 * x + q.2 * y < p.1 * x + p.2 * y
      · go_wp2
        go_roundg (n - (kk + 1))
        case measure => omega
        case rel => exact ⟨kk + 1, kk, by omega, by omega, by omega, (show kk = bestK (extF zs x y) (kk + 1) from (HY.out hle).symm), rfl, by go_num, B3.out, l2, l3, S3⟩

      · go_wp2
        go_roundg (n - (kk + 1))
        case measure => omega
        case rel => exact ⟨kk + 1, kb, by omega, by omega, by omega, (show kb = bestK (extF zs x y) (kk + 1) from (HNN.out hle).symm), rfl, by go_num, B3.out, l2, l3, S3⟩

    · have hltz : ¬ (kk : Int) < (n : Int) := by omega
      have : kk = n := by omega
      subst this
      go_wp2
      go_ret
      exact ⟨ret_int (by rw [KB.out, HZ.out]), BW.out⟩

set_option maxHeartbeats 2000000 in
theorem spec_Extreme (b off n c : Nat) (zs : List (Int × Int)) (x y : Int) (w : World) (hn : n ≤ 1048576) (hz : zs.length = n) (hb : b < w.heap.size) (hr : rowOfPoint w b off zs) :
    Calls Try.prog 23 #[.slice (some ⟨b, off, none⟩) n c, .agg #[.int .i64 x, .int .i64 y]] w fun e w' => e = .returned (.int .i64 (ExtV zs x y)) ∧ Below w.heap.size w w' := by
  have HV := Lib.hid (fun W (B : Below w.heap.size w W) => spec_validPoints b off n c zs W hn hz (Nat.lt_of_lt_of_le hb B.size) (row_belowPoint hr hb B))
  have HZ := Lib.hid hz
  have HR := Lib.hid hr
  have hB := Lib.hid hb
  clear hz hr hb
  change Hid (∀ W, Below w.heap.size w W → Calls Try.prog 45 #[.slice (some ⟨b, off, none⟩) n c] W fun e w' => e = .returned (.bool (listB zs)) ∧ Below W.heap.size W w') at HV
  cases h0 : listB zs with
  | false =>
    have hv0 : ExtV zs x y = -1 := by simp [ExtV, h0]
    rw [hv0]
    clear hv0
    rw [h0] at HV
    go_enter Try.func23, Try.ntmps23
    go_wp2_with (first | (go_at_call 45; refine (HV.out _ (by (repeat (first | with_reducible exact Below.refl _ _ | with_reducible refine bl_alloc ?_ _ | with_reducible refine bl_drew ?_ | with_reducible refine bl_set ?_ (by first | (simp; done) | (simp; omega)) _ | with_reducible refine bl_call (by assumption) ?_)))).mono ?_; rintro e w1 ⟨rfl, hb1⟩; obtain ⟨hc1, hf1⟩ := bcell hb1; have s1 := hb1.size; (try simp at s1); (try have z1 : w.heap.size < w1.heap.size := by omega)) | (go_at_call 40; refine (spec_validPoint _ _ _).mono ?_; rintro e w2 ⟨rfl, hb2⟩; obtain ⟨hc2, hf2⟩ := bcell hb2; have s2 := hb2.size; try simp at s2))
    go_ret
    exact ⟨rfl, (by (repeat (first | with_reducible exact Below.refl _ _ | with_reducible refine bl_alloc ?_ _ | with_reducible refine bl_drew ?_ | with_reducible refine bl_set ?_ (by first | (simp; done) | (simp; omega)) _ | with_reducible refine bl_call (by assumption) ?_)))⟩

  | true =>
    rw [h0] at HV
    by_cases h1 : 0 < zs.length
    · have hn0 : 0 < n := by have := HZ.out; omega
      have hnz : ¬ (n : Int) = 0 := by omega
      have hnb : ((n : Int) == 0) = false := by simp; omega
      cases h2 : ptB x y with
      | false =>
        have hv0 : ExtV zs x y = -1 := by simp [ExtV, h0, h1, h2]
        rw [hv0]
        clear hv0
        clear h0 h1
        go_enter Try.func23, Try.ntmps23
        go_wp2_with (first | (go_at_call 45; refine (HV.out _ (by (repeat (first | with_reducible exact Below.refl _ _ | with_reducible refine bl_alloc ?_ _ | with_reducible refine bl_drew ?_ | with_reducible refine bl_set ?_ (by first | (simp; done) | (simp; omega)) _ | with_reducible refine bl_call (by assumption) ?_)))).mono ?_; rintro e w1 ⟨rfl, hb1⟩; obtain ⟨hc1, hf1⟩ := bcell hb1; have s1 := hb1.size; (try simp at s1); (try have z1 : w.heap.size < w1.heap.size := by omega)) | (go_at_call 40; refine (spec_validPoint _ _ _).mono ?_; rintro e w2 ⟨rfl, hb2⟩; obtain ⟨hc2, hf2⟩ := bcell hb2; have s2 := hb2.size; try simp at s2))
        go_ret
        exact ⟨rfl, (by (repeat (first | with_reducible exact Below.refl _ _ | with_reducible refine bl_alloc ?_ _ | with_reducible refine bl_drew ?_ | with_reducible refine bl_set ?_ (by first | (simp; done) | (simp; omega)) _ | with_reducible refine bl_call (by assumption) ?_)))⟩

      | true =>
        have hv0 : ExtV zs x y = (bestK (extF zs x y) zs.length : Nat) := by simp [ExtV, h0, h1, h2]
        rw [hv0]
        clear hv0
        have HE := Lib.hid (fun W (B : Below w.heap.size w W) => spec_extreme b off n c zs x y W hn HZ.out (Nat.lt_of_lt_of_le hB.out B.size) (row_belowPoint HR.out hB.out B) h0 hn0 (ptB_true h2))
        have H2 := Lib.hid h2
        clear h0 h1
        generalize bestK (extF zs x y) zs.length = r at HE ⊢
        go_enter Try.func23, Try.ntmps23
        go_wp2_with (first | (go_at_call 45; refine (HV.out _ (by (repeat (first | with_reducible exact Below.refl _ _ | with_reducible refine bl_alloc ?_ _ | with_reducible refine bl_drew ?_ | with_reducible refine bl_set ?_ (by first | (simp; done) | (simp; omega)) _ | with_reducible refine bl_call (by assumption) ?_)))).mono ?_; rintro e w1 ⟨rfl, hb1⟩; obtain ⟨hc1, hf1⟩ := bcell hb1; have s1 := hb1.size; (try simp at s1); (try have z1 : w.heap.size < w1.heap.size := by omega)) | (go_at_call 40; refine (spec_validPoint _ _ _).mono ?_; rintro e w2 ⟨rfl, hb2⟩; obtain ⟨hc2, hf2⟩ := bcell hb2; have s2 := hb2.size; try simp at s2) | (go_at_call 51; refine (HE.out _ (by (repeat (first | with_reducible exact Below.refl _ _ | with_reducible refine bl_alloc ?_ _ | with_reducible refine bl_drew ?_ | with_reducible refine bl_set ?_ (by first | (simp; done) | (simp; omega)) _ | with_reducible refine bl_call (by assumption) ?_)))).mono ?_; rintro e w3 ⟨rfl, hb3⟩))
        go_ret
        exact ⟨rfl, (by (repeat (first | with_reducible exact Below.refl _ _ | with_reducible refine bl_alloc ?_ _ | with_reducible refine bl_drew ?_ | with_reducible refine bl_set ?_ (by first | (simp; done) | (simp; omega)) _ | with_reducible refine bl_call (by assumption) ?_)))⟩
    · have hv0 : ExtV zs x y = -1 := by simp [ExtV, h0, h1]
      rw [hv0]
      clear hv0
      have hn0 : n = 0 := by have := HZ.out; omega
      subst hn0
      clear h0 h1
      go_enter Try.func23, Try.ntmps23
      go_wp2_with (first | (go_at_call 45; refine (HV.out _ (by (repeat (first | with_reducible exact Below.refl _ _ | with_reducible refine bl_alloc ?_ _ | with_reducible refine bl_drew ?_ | with_reducible refine bl_set ?_ (by first | (simp; done) | (simp; omega)) _ | with_reducible refine bl_call (by assumption) ?_)))).mono ?_; rintro e w1 ⟨rfl, hb1⟩; obtain ⟨hc1, hf1⟩ := bcell hb1; have s1 := hb1.size; (try simp at s1); (try have z1 : w.heap.size < w1.heap.size := by omega)) | (go_at_call 40; refine (spec_validPoint _ _ _).mono ?_; rintro e w2 ⟨rfl, hb2⟩; obtain ⟨hc2, hf2⟩ := bcell hb2; have s2 := hb2.size; try simp at s2))
      go_ret
      exact ⟨rfl, (by (repeat (first | with_reducible exact Below.refl _ _ | with_reducible refine bl_alloc ?_ _ | with_reducible refine bl_drew ?_ | with_reducible refine bl_set ?_ (by first | (simp; done) | (simp; omega)) _ | with_reducible refine bl_call (by assumption) ?_)))⟩

set_option maxHeartbeats 2000000 in
theorem impl_Extreme (b off n c : Nat) (zs : List (Int × Int)) (x y : Int) (w : World) (hn : n ≤ 1048576) (hz : zs.length = n) (hb : b < w.heap.size) (hr : rowOfPoint w b off zs) :
    Calls Try.prog 24 #[.slice (some ⟨b, off, none⟩) n c, .agg #[.int .i64 x, .int .i64 y]] w fun e w' => e = .returned (.int .i64 (ExtV zs x y)) ∧ Below w.heap.size w w' := by
  have HV := Lib.hid (fun W (B : Below w.heap.size w W) => impl_listOk b off n c zs W hn hz (Nat.lt_of_lt_of_le hb B.size) (row_belowPoint hr hb B))
  have HZ := Lib.hid hz
  have HR := Lib.hid hr
  have hB := Lib.hid hb
  clear hz hr hb
  change Hid (∀ W, Below w.heap.size w W → Calls Try.prog 47 #[.slice (some ⟨b, off, none⟩) n c] W fun e w' => e = .returned (.bool (listB zs)) ∧ Below W.heap.size W w') at HV
  cases h0 : listB zs with
  | false =>
    have hv0 : ExtV zs x y = -1 := by simp [ExtV, h0]
    rw [hv0]
    clear hv0
    rw [h0] at HV
    go_enter Try.func24, Try.ntmps24
    go_wp2_with (first | (go_at_call 47; refine (HV.out _ (by (repeat (first | with_reducible exact Below.refl _ _ | with_reducible refine bl_alloc ?_ _ | with_reducible refine bl_drew ?_ | with_reducible refine bl_set ?_ (by first | (simp; done) | (simp; omega)) _ | with_reducible refine bl_call (by assumption) ?_)))).mono ?_; rintro e w1 ⟨rfl, hb1⟩; obtain ⟨hc1, hf1⟩ := bcell hb1; have s1 := hb1.size; (try simp at s1); (try have z1 : w.heap.size < w1.heap.size := by omega)) | (go_at_call 48; refine (impl_Point_valid _ _ _).mono ?_; rintro e w2 ⟨rfl, hb2⟩; obtain ⟨hc2, hf2⟩ := bcell hb2; have s2 := hb2.size; try simp at s2))
    go_ret
    exact ⟨rfl, (by (repeat (first | with_reducible exact Below.refl _ _ | with_reducible refine bl_alloc ?_ _ | with_reducible refine bl_drew ?_ | with_reducible refine bl_set ?_ (by first | (simp; done) | (simp; omega)) _ | with_reducible refine bl_call (by assumption) ?_)))⟩

  | true =>
    rw [h0] at HV
    by_cases h1 : 0 < zs.length
    · have hn0 : 0 < n := by have := HZ.out; omega
      have hnz : ¬ (n : Int) = 0 := by omega
      have hnb : ((n : Int) == 0) = false := by simp; omega
      cases h2 : ptB x y with
      | false =>
        have hv0 : ExtV zs x y = -1 := by simp [ExtV, h0, h1, h2]
        rw [hv0]
        clear hv0
        clear h0 h1
        go_enter Try.func24, Try.ntmps24
        go_wp2_with (first | (go_at_call 47; refine (HV.out _ (by (repeat (first | with_reducible exact Below.refl _ _ | with_reducible refine bl_alloc ?_ _ | with_reducible refine bl_drew ?_ | with_reducible refine bl_set ?_ (by first | (simp; done) | (simp; omega)) _ | with_reducible refine bl_call (by assumption) ?_)))).mono ?_; rintro e w1 ⟨rfl, hb1⟩; obtain ⟨hc1, hf1⟩ := bcell hb1; have s1 := hb1.size; (try simp at s1); (try have z1 : w.heap.size < w1.heap.size := by omega)) | (go_at_call 48; refine (impl_Point_valid _ _ _).mono ?_; rintro e w2 ⟨rfl, hb2⟩; obtain ⟨hc2, hf2⟩ := bcell hb2; have s2 := hb2.size; try simp at s2))
        go_ret
        exact ⟨rfl, (by (repeat (first | with_reducible exact Below.refl _ _ | with_reducible refine bl_alloc ?_ _ | with_reducible refine bl_drew ?_ | with_reducible refine bl_set ?_ (by first | (simp; done) | (simp; omega)) _ | with_reducible refine bl_call (by assumption) ?_)))⟩

      | true =>
        have hv0 : ExtV zs x y = (bestK (extF zs x y) zs.length : Nat) := by simp [ExtV, h0, h1, h2]
        rw [hv0]
        clear hv0
        have HE := Lib.hid (fun W (B : Below w.heap.size w W) => impl_extreme b off n c zs x y W hn HZ.out (Nat.lt_of_lt_of_le hB.out B.size) (row_belowPoint HR.out hB.out B) h0 hn0 (ptB_true h2))
        have H2 := Lib.hid h2
        clear h0 h1
        generalize bestK (extF zs x y) zs.length = r at HE ⊢
        go_enter Try.func24, Try.ntmps24
        go_wp2_with (first | (go_at_call 47; refine (HV.out _ (by (repeat (first | with_reducible exact Below.refl _ _ | with_reducible refine bl_alloc ?_ _ | with_reducible refine bl_drew ?_ | with_reducible refine bl_set ?_ (by first | (simp; done) | (simp; omega)) _ | with_reducible refine bl_call (by assumption) ?_)))).mono ?_; rintro e w1 ⟨rfl, hb1⟩; obtain ⟨hc1, hf1⟩ := bcell hb1; have s1 := hb1.size; (try simp at s1); (try have z1 : w.heap.size < w1.heap.size := by omega)) | (go_at_call 48; refine (impl_Point_valid _ _ _).mono ?_; rintro e w2 ⟨rfl, hb2⟩; obtain ⟨hc2, hf2⟩ := bcell hb2; have s2 := hb2.size; try simp at s2) | (go_at_call 52; refine (HE.out _ (by (repeat (first | with_reducible exact Below.refl _ _ | with_reducible refine bl_alloc ?_ _ | with_reducible refine bl_drew ?_ | with_reducible refine bl_set ?_ (by first | (simp; done) | (simp; omega)) _ | with_reducible refine bl_call (by assumption) ?_)))).mono ?_; rintro e w3 ⟨rfl, hb3⟩))
        go_ret
        exact ⟨rfl, (by (repeat (first | with_reducible exact Below.refl _ _ | with_reducible refine bl_alloc ?_ _ | with_reducible refine bl_drew ?_ | with_reducible refine bl_set ?_ (by first | (simp; done) | (simp; omega)) _ | with_reducible refine bl_call (by assumption) ?_)))⟩
    · have hv0 : ExtV zs x y = -1 := by simp [ExtV, h0, h1]
      rw [hv0]
      clear hv0
      have hn0 : n = 0 := by have := HZ.out; omega
      subst hn0
      clear h0 h1
      go_enter Try.func24, Try.ntmps24
      go_wp2_with (first | (go_at_call 47; refine (HV.out _ (by (repeat (first | with_reducible exact Below.refl _ _ | with_reducible refine bl_alloc ?_ _ | with_reducible refine bl_drew ?_ | with_reducible refine bl_set ?_ (by first | (simp; done) | (simp; omega)) _ | with_reducible refine bl_call (by assumption) ?_)))).mono ?_; rintro e w1 ⟨rfl, hb1⟩; obtain ⟨hc1, hf1⟩ := bcell hb1; have s1 := hb1.size; (try simp at s1); (try have z1 : w.heap.size < w1.heap.size := by omega)) | (go_at_call 48; refine (impl_Point_valid _ _ _).mono ?_; rintro e w2 ⟨rfl, hb2⟩; obtain ⟨hc2, hf2⟩ := bcell hb2; have s2 := hb2.size; try simp at s2))
      go_ret
      exact ⟨rfl, (by (repeat (first | with_reducible exact Below.refl _ _ | with_reducible refine bl_alloc ?_ _ | with_reducible refine bl_drew ?_ | with_reducible refine bl_set ?_ (by first | (simp; done) | (simp; omega)) _ | with_reducible refine bl_call (by assumption) ?_)))⟩

end Go.Proofs.Ytgnjmcfkehgdfaa
