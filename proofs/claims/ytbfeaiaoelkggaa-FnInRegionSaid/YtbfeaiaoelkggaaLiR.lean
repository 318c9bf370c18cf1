/- Contracts of functions that this seat's statements reach: each is shown to compute a plain Lean function, and to leave what was there as it was. No conditions but those in each theorem. -/
import Derived.Test.YtbfeaiaoelkggaaRowsH5
import Derived.Test.YtbfeaiaoelkggaaGeo
import Derived.Test.YtbfeaiaoelkggaaGn
import Derived.Test.YtbfeaiaoelkggaaPlainR7
namespace Go.Proofs.Ytbfeaiaoelkggaa
open Go.RowKit
set_option linter.unusedVariables false

set_option maxHeartbeats 2000000 in
theorem spec_inRegion (b off n c : Nat) (zs : List (Int × Int × Int)) (x y : Int) (w : World) (hn : n ≤ 1048576) (hz : zs.length = n) (hb : b < w.heap.size) (hr : rowOfHalfPlane w b off zs) (hv : halvesB zs = true) (hx : (-1000 ≤ x ∧ x ≤ 1000) ∧ (-1000 ≤ y ∧ y ≤ 1000)) :
    Calls Try.prog 49 #[.slice (some ⟨b, off, none⟩) n c, .agg #[.int .i64 x, .int .i64 y]] w fun e w' => e = .returned (.bool (inrB zs x y)) ∧ Below w.heap.size w w' := by
  have HZ := Lib.hid hz
  have HR := Lib.hid hr
  have hB := Lib.hid hb
  clear hz hr hb
  have HA := Lib.hid hv
  clear hv
  obtain ⟨res, hres⟩ : ∃ r, r = inrB zs x y := ⟨_, rfl⟩
  rw [← hres]
  have HRes := Lib.hid hres
  clear hres
  go_enter Try.func49, Try.ntmps49
  go_wp2
  go_loopg [5] n (fun gg s5 wr => ∃ kk : Nat, kk ≤ n ∧ n - kk ≤ gg ∧ s5 = .int .i64 kk ∧ Aside (Below w.heap.size w wr) ∧ Aside (∀ j, j < kk → inrP x y zs[j]! = true) ∧ wr.cell? ⟨w.heap.size, 0, none⟩ = some (.int .i64 x) ∧ wr.cell? ⟨w.heap.size, 1, none⟩ = some (.int .i64 y) ∧ w.heap.size < wr.heap.size)
  case atStart => exact ⟨0, Nat.zero_le _, by omega, rfl, (show Below w.heap.size w _ from bl_alloc (Below.refl _ _) _), (fun j hj => absurd hj (Nat.not_lt_zero _)), by simp [go_sem], by simp [go_sem], by simp⟩
  case round =>
    obtain ⟨kk, hkk, hg, rfl, BW, AL, X0, X1, XS⟩ := hrel
    by_cases hlt : kk < n
    · have hltz : (kk : Int) < (n : Int) := by omega
      have hn8 := halvesB_len HA.out
      rw [HZ.out] at hn8
      have hlz : kk < zs.length := by rw [HZ.out]; exact hlt
      have hm := halvesB_at HA.out (show zs[kk]! ∈ zs by rw [getElem!_pos zs kk hlz]; exact List.getElem_mem _)
      have l0 := (BW.out.cell (p := ⟨b, off + kk * 3, none⟩) hB.out).trans (HR.out kk hlz).1
      have l1 := (BW.out.cell (p := ⟨b, off + kk * 3 + 1, none⟩) hB.out).trans (HR.out kk hlz).2.1
      have l2 := (BW.out.cell (p := ⟨b, off + kk * 3 + 2, none⟩) hB.out).trans (HR.out kk hlz).2.2
      have HNO : Hid (inrP x y zs[kk]! = false → inrB zs x y = false) := Lib.hid fun h => not_all_at (inrP x y) zs kk hlz h
      clear hlz
      generalize hy : zs[kk]! = y0 at l0 l1 l2 hm HNO
      have B : Aside (zs[kk]! = y0) := hy
      clear hy
      obtain ⟨⟨la, ua⟩, ⟨lb, ub⟩, ⟨lc, uc⟩⟩ := hm
      obtain ⟨m1, m2⟩ := mul_bd y0.1 x 2000 1000 (by omega) hx.1 (by omega) (by omega)
      obtain ⟨m3, m4⟩ := mul_bd y0.2.1 y 2000 1000 (by omega) hx.2 (by omega) (by omega)
      have wr0 : IntKind.i64.wrap (y0.1 * x) = y0.1 * x := IntWalk.i64_in _ (by omega)
      have wr1 : IntKind.i64.wrap (y0.2.1 * y) = y0.2.1 * y := IntWalk.i64_in _ (by omega)
      have wr2 : IntKind.i64.wrap (y0.1 * x + y0.2.1 * y) = y0.1 * x + y0.2.1 * y := IntWalk.i64_in _ (by omega)
      have k0 := cell_regrown l0
      have k1 := cell_regrown l1
      have k2 := cell_regrown l2
      have k3 := cell_regrown X0
      have k4 := cell_regrown X1
      clear l0 l1 l2 X0 X1
      go_wp2
      refine wp_region_quiet_below (by kernel_rfl) (by kernel_rfl) ?_
      repeat (go_big_quiet_step (fail))
      refine wpQuiet_nil ?_
      intro _ hw'
      obtain ⟨⟨dq, osq⟩, hw''⟩ := hw'
      subst hw''
      have l3 := k3 dq osq
      have l4 := k4 dq osq
      have HB := below_regrown wr dq osq
      have B3 := Lib.hid (bl_call HB BW.out)
      have S3 := Nat.lt_of_lt_of_le XS HB.size
      clear k0 k1 k2 k3 k4 HB
      by_cases hle : y0.1 * x + y0.2.1 * y ≤ y0.2.2
      · go_wp2
        go_roundg (n - (kk + 1))
        case measure => omega
        case rel =>
          refine ⟨kk + 1, by omega, by omega, by go_num, B3.out, (show Aside _ from fun j hj => ?_), l3, l4, S3⟩
          by_cases e : j = kk
          · subst e; rw [B.out]; exact decide_eq_true hle
          · exact AL.out j (by omega)
      · go_wp2
        go_ret
        refine ⟨ret_bool ?_, B3.out⟩
        rw [HRes.out, HNO.out (decide_eq_false (by omega))]

    · have hltz : ¬ (kk : Int) < (n : Int) := by omega
      have : kk = n := by omega
      subst this
      have HT : Hid (res = true) := Lib.hid (by rw [HRes.out]; exact all_of_pre _ zs fun j hj => AL.out j (by rw [← HZ.out]; exact hj))
      go_wp2
      go_ret
      exact ⟨ret_bool HT.out.symm, BW.out⟩

theorem impl_has (a b c x y : Int) (w : World) (ha : -2000 ≤ a ∧ a ≤ 2000) (hb : -2000 ≤ b ∧ b ≤ 2000) (hc : -4000000 ≤ c ∧ c ≤ 4000000) (hx : -1000 ≤ x ∧ x ≤ 1000) (hy : -1000 ≤ y ∧ y ≤ 1000) :
    Calls Try.prog 47 #[.agg #[.int .i64 a, .int .i64 b, .int .i64 c], .int .i64 x, .int .i64 y, .int .i64 1] w fun e w' => e = .returned (.bool (inrP x y (a, b, c))) ∧ Below w.heap.size w w' := by
  unfold inrP
  dsimp only
  obtain ⟨la, ua⟩ := ha
  obtain ⟨lb, ub⟩ := hb
  obtain ⟨lc, uc⟩ := hc
  obtain ⟨m1, m2⟩ := mul_bd a x 2000 1000 (by omega) hx (by omega) (by omega)
  obtain ⟨m3, m4⟩ := mul_bd b y 2000 1000 (by omega) hy (by omega) (by omega)
  go_enter Try.func47, Try.ntmps47
  go_wp2
  all_goals go_ret
  all_goals exact ⟨ret_bool (by simp), (by (repeat (first | with_reducible exact Below.refl _ _ | with_reducible refine bl_alloc ?_ _ | with_reducible refine bl_drew ?_ | with_reducible refine bl_set ?_ (by first | (simp; done) | (simp; omega)) _ | with_reducible refine bl_call (by assumption) ?_)))⟩

theorem impl_InRegion_1 (a b c x y : Int) (P : Nat) (w : World) (ha : -2000 ≤ a ∧ a ≤ 2000) (hb : -2000 ≤ b ∧ b ≤ 2000) (hc : -4000000 ≤ c ∧ c ≤ 4000000) (hx : -1000 ≤ x ∧ x ≤ 1000) (hy : -1000 ≤ y ∧ y ≤ 1000) (hP : P < w.heap.size) (h0 : w.cell? ⟨P, 0, none⟩ = some (.int .i64 x)) (h1 : w.cell? ⟨P, 1, none⟩ = some (.int .i64 y)) :
    Calls Try.prog 46 #[.agg #[.int .i64 a, .int .i64 b, .int .i64 c], .pointer (some ⟨P, 0, none⟩)] w fun e w' => e = .returned (.bool (!inrP x y (a, b, c))) ∧ Below w.heap.size w w' := by
  have e0 := calloc h0 (Obj.cells #[.int .i64 a, .int .i64 b, .int .i64 c] 67)
  have e1 := calloc h1 (Obj.cells #[.int .i64 a, .int .i64 b, .int .i64 c] 67)
  have HH := Lib.hid (fun W => impl_has a b c x y W ha hb hc hx hy)
  go_enter Try.func46, Try.ntmps46
  go_wp2_with (go_at_call 47; refine (HH.out _).mono ?_; rintro e w' ⟨rfl, hb'⟩)
  go_ret
  exact ⟨rfl, (by (repeat (first | with_reducible exact Below.refl _ _ | with_reducible refine bl_alloc ?_ _ | with_reducible refine bl_drew ?_ | with_reducible refine bl_set ?_ (by first | (simp; done) | (simp; omega)) _ | with_reducible refine bl_call (by assumption) ?_)))⟩

set_option maxHeartbeats 2000000 in
theorem spec_InRegion (b off n c : Nat) (zs : List (Int × Int × Int)) (x y : Int) (w : World) (hn : n ≤ 1048576) (hz : zs.length = n) (hb : b < w.heap.size) (hr : rowOfHalfPlane w b off zs) :
    Calls Try.prog 21 #[.slice (some ⟨b, off, none⟩) n c, .agg #[.int .i64 x, .int .i64 y]] w fun e w' => e = .returned (.bool (InrV zs x y)) ∧ Below w.heap.size w w' := by
  have HV := Lib.hid (fun W (B : Below w.heap.size w W) => spec_validHalves b off n c zs W hn hz (Nat.lt_of_lt_of_le hb B.size) (row_belowHalfPlane hr hb B))
  have HZ := Lib.hid hz
  have HR := Lib.hid hr
  have hB := Lib.hid hb
  clear hz hr hb
  change Hid (∀ W, Below w.heap.size w W → Calls Try.prog 48 #[.slice (some ⟨b, off, none⟩) n c] W fun e w' => e = .returned (.bool (halvesB zs)) ∧ Below W.heap.size W w') at HV
  cases h0 : halvesB zs with
  | false =>
    have hv : InrV zs x y = false := by simp [InrV, h0]
    rw [hv]
    clear hv
    rw [h0] at HV
    clear h0
    go_enter Try.func21, Try.ntmps21
    go_wp2_with (first | (go_at_call 48; refine (HV.out _ (by (repeat (first | with_reducible exact Below.refl _ _ | with_reducible refine bl_alloc ?_ _ | with_reducible refine bl_drew ?_ | with_reducible refine bl_set ?_ (by first | (simp; done) | (simp; omega)) _ | with_reducible refine bl_call (by assumption) ?_)))).mono ?_; rintro e w1 ⟨rfl, hb1⟩; obtain ⟨hc1, hf1⟩ := bcell hb1; have s1 := hb1.size; (try simp at s1); (try have z1 : w.heap.size < w1.heap.size := by omega)) | (go_at_call 42; refine (spec_validPoint _ _ _).mono ?_; rintro e w2 ⟨rfl, hb2⟩; obtain ⟨hc2, hf2⟩ := bcell hb2; have s2 := hb2.size; (try simp at s2); (try have z2 : w.heap.size < w2.heap.size := by omega)))
    go_ret
    exact ⟨rfl, (by (repeat (first | with_reducible exact Below.refl _ _ | with_reducible refine bl_alloc ?_ _ | with_reducible refine bl_drew ?_ | with_reducible refine bl_set ?_ (by first | (simp; done) | (simp; omega)) _ | with_reducible refine bl_call (by assumption) ?_)))⟩

  | true =>
    rw [h0] at HV
    cases h1 : ptB x y with
    | false =>
      have hv : InrV zs x y = false := by simp [InrV, h0, h1]
      rw [hv]
      clear hv
      clear h0
      go_enter Try.func21, Try.ntmps21
      go_wp2_with (first | (go_at_call 48; refine (HV.out _ (by (repeat (first | with_reducible exact Below.refl _ _ | with_reducible refine bl_alloc ?_ _ | with_reducible refine bl_drew ?_ | with_reducible refine bl_set ?_ (by first | (simp; done) | (simp; omega)) _ | with_reducible refine bl_call (by assumption) ?_)))).mono ?_; rintro e w1 ⟨rfl, hb1⟩; obtain ⟨hc1, hf1⟩ := bcell hb1; have s1 := hb1.size; (try simp at s1); (try have z1 : w.heap.size < w1.heap.size := by omega)) | (go_at_call 42; refine (spec_validPoint _ _ _).mono ?_; rintro e w2 ⟨rfl, hb2⟩; obtain ⟨hc2, hf2⟩ := bcell hb2; have s2 := hb2.size; (try simp at s2); (try have z2 : w.heap.size < w2.heap.size := by omega)))
      go_ret
      exact ⟨rfl, (by (repeat (first | with_reducible exact Below.refl _ _ | with_reducible refine bl_alloc ?_ _ | with_reducible refine bl_drew ?_ | with_reducible refine bl_set ?_ (by first | (simp; done) | (simp; omega)) _ | with_reducible refine bl_call (by assumption) ?_)))⟩

    | true =>
      have hv : InrV zs x y = inrB zs x y := by simp [InrV, h0, h1]
      rw [hv]
      clear hv
      have hx := ptB_true h1
      have HA := Lib.hid h0
      clear h0
      have HE := Lib.hid (fun W (B : Below w.heap.size w W) => spec_inRegion b off n c zs x y W hn HZ.out (Nat.lt_of_lt_of_le hB.out B.size) (row_belowHalfPlane HR.out hB.out B) HA.out hx)
      generalize inrB zs x y = r at HE ⊢
      go_enter Try.func21, Try.ntmps21
      go_wp2_with (first | (go_at_call 48; refine (HV.out _ (by (repeat (first | with_reducible exact Below.refl _ _ | with_reducible refine bl_alloc ?_ _ | with_reducible refine bl_drew ?_ | with_reducible refine bl_set ?_ (by first | (simp; done) | (simp; omega)) _ | with_reducible refine bl_call (by assumption) ?_)))).mono ?_; rintro e w1 ⟨rfl, hb1⟩; obtain ⟨hc1, hf1⟩ := bcell hb1; have s1 := hb1.size; (try simp at s1); (try have z1 : w.heap.size < w1.heap.size := by omega)) | (go_at_call 42; refine (spec_validPoint _ _ _).mono ?_; rintro e w2 ⟨rfl, hb2⟩; obtain ⟨hc2, hf2⟩ := bcell hb2; have s2 := hb2.size; (try simp at s2); (try have z2 : w.heap.size < w2.heap.size := by omega)) | (go_at_call 49; refine (HE.out _ (by (repeat (first | with_reducible exact Below.refl _ _ | with_reducible refine bl_alloc ?_ _ | with_reducible refine bl_drew ?_ | with_reducible refine bl_set ?_ (by first | (simp; done) | (simp; omega)) _ | with_reducible refine bl_call (by assumption) ?_)))).mono ?_; rintro e w3 ⟨rfl, hb3⟩))
      go_ret
      exact ⟨rfl, (by (repeat (first | with_reducible exact Below.refl _ _ | with_reducible refine bl_alloc ?_ _ | with_reducible refine bl_drew ?_ | with_reducible refine bl_set ?_ (by first | (simp; done) | (simp; omega)) _ | with_reducible refine bl_call (by assumption) ?_)))⟩

set_option maxHeartbeats 2000000 in
theorem impl_InRegion (b off n c : Nat) (zs : List (Int × Int × Int)) (x y : Int) (w : World) (hn : n ≤ 1048576) (hz : zs.length = n) (hb : b < w.heap.size) (hr : rowOfHalfPlane w b off zs) :
    Calls Try.prog 20 #[.slice (some ⟨b, off, none⟩) n c, .agg #[.int .i64 x, .int .i64 y]] w fun e w' => e = .returned (.bool (InrV zs x y)) ∧ Below w.heap.size w w' := by
  have HV := Lib.hid (fun W (B : Below w.heap.size w W) => impl_ValidHalves b off n c zs W hn hz (Nat.lt_of_lt_of_le hb B.size) (row_belowHalfPlane hr hb B))
  have HZ := Lib.hid hz
  have HR := Lib.hid hr
  have hB := Lib.hid hb
  clear hz hr hb
  change Hid (∀ W, Below w.heap.size w W → Calls Try.prog 22 #[.slice (some ⟨b, off, none⟩) n c] W fun e w' => e = .returned (.bool (halvesB zs)) ∧ Below W.heap.size W w') at HV
  cases h0 : halvesB zs with
  | false =>
    have hv : InrV zs x y = false := by simp [InrV, h0]
    rw [hv]
    clear hv
    rw [h0] at HV
    clear h0
    go_enter Try.func20, Try.ntmps20
    go_wp2_with (first | (go_at_call 22; refine (HV.out _ (by (repeat (first | with_reducible exact Below.refl _ _ | with_reducible refine bl_alloc ?_ _ | with_reducible refine bl_drew ?_ | with_reducible refine bl_set ?_ (by first | (simp; done) | (simp; omega)) _ | with_reducible refine bl_call (by assumption) ?_)))).mono ?_; rintro e w1 ⟨rfl, hb1⟩; obtain ⟨hc1, hf1⟩ := bcell hb1; have s1 := hb1.size; (try simp at s1); (try have z1 : w.heap.size < w1.heap.size := by omega)) | (go_at_call 40; refine (impl_Point_valid _ _ _).mono ?_; rintro e w2 ⟨rfl, hb2⟩; obtain ⟨hc2, hf2⟩ := bcell hb2; have s2 := hb2.size; (try simp at s2); (try have z2 : w.heap.size < w2.heap.size := by omega)))
    go_ret
    exact ⟨rfl, (by (repeat (first | with_reducible exact Below.refl _ _ | with_reducible refine bl_alloc ?_ _ | with_reducible refine bl_drew ?_ | with_reducible refine bl_set ?_ (by first | (simp; done) | (simp; omega)) _ | with_reducible refine bl_call (by assumption) ?_)))⟩

  | true =>
    rw [h0] at HV
    cases h1 : ptB x y with
    | false =>
      have hv : InrV zs x y = false := by simp [InrV, h0, h1]
      rw [hv]
      clear hv
      clear h0
      go_enter Try.func20, Try.ntmps20
      go_wp2_with (first | (go_at_call 22; refine (HV.out _ (by (repeat (first | with_reducible exact Below.refl _ _ | with_reducible refine bl_alloc ?_ _ | with_reducible refine bl_drew ?_ | with_reducible refine bl_set ?_ (by first | (simp; done) | (simp; omega)) _ | with_reducible refine bl_call (by assumption) ?_)))).mono ?_; rintro e w1 ⟨rfl, hb1⟩; obtain ⟨hc1, hf1⟩ := bcell hb1; have s1 := hb1.size; (try simp at s1); (try have z1 : w.heap.size < w1.heap.size := by omega)) | (go_at_call 40; refine (impl_Point_valid _ _ _).mono ?_; rintro e w2 ⟨rfl, hb2⟩; obtain ⟨hc2, hf2⟩ := bcell hb2; have s2 := hb2.size; (try simp at s2); (try have z2 : w.heap.size < w2.heap.size := by omega)))
      go_ret
      exact ⟨rfl, (by (repeat (first | with_reducible exact Below.refl _ _ | with_reducible refine bl_alloc ?_ _ | with_reducible refine bl_drew ?_ | with_reducible refine bl_set ?_ (by first | (simp; done) | (simp; omega)) _ | with_reducible refine bl_call (by assumption) ?_)))⟩

    | true =>
      have hv : InrV zs x y = inrB zs x y := by simp [InrV, h0, h1]
      rw [hv]
      clear hv
      have hx := ptB_true h1
      have HA := Lib.hid h0
      clear h0
      rw [inrB_any]
      have eg : ∀ args w, (callFunc 46 args).run Try.prog w = .ok (.enter 46 args) w := enters_of Try.func46 (by kernel_rfl) rfl
      have HE := Lib.hid (fun W (B : Below w.heap.size w W) (hP : w.heap.size < W.heap.size) (e0 : W.cell? ⟨w.heap.size, 0, none⟩ = some (.int .i64 x)) (e1 : W.cell? ⟨w.heap.size, 1, none⟩ = some (.int .i64 y)) => containsFunc_HalfPlane (fun z => !inrP x y z) 46 #[.pointer (some ⟨w.heap.size, 0, none⟩)] eg b off n c zs W (fun W2 z hz hW => (impl_InRegion_1 z.1 z.2.1 z.2.2 x y w.heap.size W2 (halvesB_at HA.out hz).1 (halvesB_at HA.out hz).2.1 (halvesB_at HA.out hz).2.2 hx.1 hx.2 (Nat.lt_of_lt_of_le hP hW.size) ((hW.cell (p := ⟨w.heap.size, 0, none⟩) hP).trans e0) ((hW.cell (p := ⟨w.heap.size, 1, none⟩) hP).trans e1)).mono fun _ _ ⟨he, hw⟩ => ⟨he, bl_call hw hW⟩) HZ.out (by omega) (Nat.lt_of_lt_of_le hB.out B.size) (row_belowHalfPlane HR.out hB.out B))
      clear eg
      generalize (zs.any fun z => !inrP x y z) = r at HE ⊢
      go_enter Try.func20, Try.ntmps20
      go_wp2_with (first | (go_at_call 22; refine (HV.out _ (by (repeat (first | with_reducible exact Below.refl _ _ | with_reducible refine bl_alloc ?_ _ | with_reducible refine bl_drew ?_ | with_reducible refine bl_set ?_ (by first | (simp; done) | (simp; omega)) _ | with_reducible refine bl_call (by assumption) ?_)))).mono ?_; rintro e w1 ⟨rfl, hb1⟩; obtain ⟨hc1, hf1⟩ := bcell hb1; have s1 := hb1.size; (try simp at s1); (try have z1 : w.heap.size < w1.heap.size := by omega)) | (go_at_call 40; refine (impl_Point_valid _ _ _).mono ?_; rintro e w2 ⟨rfl, hb2⟩; obtain ⟨hc2, hf2⟩ := bcell hb2; have s2 := hb2.size; (try simp at s2); (try have z2 : w.heap.size < w2.heap.size := by omega)) | (go_at_call 45; refine (HE.out _ (by (repeat (first | with_reducible exact Below.refl _ _ | with_reducible refine bl_alloc ?_ _ | with_reducible refine bl_drew ?_ | with_reducible refine bl_set ?_ (by first | (simp; done) | (simp; omega)) _ | with_reducible refine bl_call (by assumption) ?_))) (by omega) ((hc2 _ _ (by omega)).trans ((hc1 _ _ (by simp)).trans (by simp [go_sem]))) ((hc2 _ _ (by omega)).trans ((hc1 _ _ (by simp)).trans (by simp [go_sem])))).mono ?_; rintro e w3 ⟨rfl, hb3⟩))
      go_ret
      exact ⟨rfl, (by (repeat (first | with_reducible exact Below.refl _ _ | with_reducible refine bl_alloc ?_ _ | with_reducible refine bl_drew ?_ | with_reducible refine bl_set ?_ (by first | (simp; done) | (simp; omega)) _ | with_reducible refine bl_call (by assumption) ?_)))⟩

end Go.Proofs.Ytbfeaiaoelkggaa
