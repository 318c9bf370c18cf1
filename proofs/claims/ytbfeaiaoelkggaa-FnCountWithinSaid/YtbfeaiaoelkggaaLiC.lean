/- Contracts of functions that this seat's statements reach: each is shown to compute a plain Lean function, and to leave what was there as it was. No conditions but those in each theorem. -/
import Derived.Test.YtbfeaiaoelkggaaRowsP5
import Derived.Test.YtbfeaiaoelkggaaPlainL
import Derived.Test.YtbfeaiaoelkggaaGeo
import Derived.Test.YtbfeaiaoelkggaaGn
namespace Go.Proofs.Ytbfeaiaoelkggaa
open Go.RowKit
set_option linter.unusedVariables false

set_option maxHeartbeats 1000000 in
theorem spec_CountWithin (b off n c : Nat) (zs : List (Int × Int)) (x y m : Int) (w : World) (hn : n ≤ 1048576) (hz : zs.length = n) (hb : b < w.heap.size) (hr : rowOfPoint w b off zs) :
    Calls Try.prog 18 #[.slice (some ⟨b, off, none⟩) n c, .agg #[.int .i64 x, .int .i64 y], .int .i64 m] w fun e w' => e = .returned (.int .i64 (CwV zs x y m)) ∧ Below w.heap.size w w' := by
  have HV := Lib.hid (fun W (B : Below w.heap.size w W) => spec_validPoints b off n c zs W hn hz (Nat.lt_of_lt_of_le hb B.size) (row_belowPoint hr hb B))
  have HZ := Lib.hid hz
  have HR := Lib.hid hr
  have hB := Lib.hid hb
  clear hz hr hb
  change Hid (∀ W, Below w.heap.size w W → Calls Try.prog 37 #[.slice (some ⟨b, off, none⟩) n c] W fun e w' => e = .returned (.bool (listB zs)) ∧ Below W.heap.size W w') at HV
  cases h0 : listB zs with
  | false =>
    have hv0 : CwV zs x y m = -1 := by simp [CwV, h0]
    rw [hv0]
    clear hv0
    rw [h0] at HV
    go_enter Try.func18, Try.ntmps18
    go_wp2_with (first | (go_at_call 37; refine (HV.out _ (by (repeat (first | with_reducible exact Below.refl _ _ | with_reducible refine bl_alloc ?_ _ | with_reducible refine bl_drew ?_ | with_reducible refine bl_set ?_ (by first | (simp; done) | (simp; omega)) _ | with_reducible refine bl_call (by assumption) ?_)))).mono ?_; rintro e w1 ⟨rfl, hb1⟩; obtain ⟨hc1, hf1⟩ := bcell hb1; have s1 := hb1.size; (try simp at s1); (try have z1 : w.heap.size < w1.heap.size := by omega)) | (go_at_call 42; refine (spec_validPoint _ _ _).mono ?_; rintro e w2 ⟨rfl, hb2⟩; obtain ⟨hc2, hf2⟩ := bcell hb2; have s2 := hb2.size; try simp at s2))
    go_ret
    exact ⟨rfl, (by (repeat (first | with_reducible exact Below.refl _ _ | with_reducible refine bl_alloc ?_ _ | with_reducible refine bl_drew ?_ | with_reducible refine bl_set ?_ (by first | (simp; done) | (simp; omega)) _ | with_reducible refine bl_call (by assumption) ?_)))⟩

  | true =>
    rw [h0] at HV
    cases h1 : ptB x y with
    | false =>
      have hv0 : CwV zs x y m = -1 := by simp [CwV, h0, h1]
      rw [hv0]
      clear hv0
      clear h0
      go_enter Try.func18, Try.ntmps18
      go_wp2_with (first | (go_at_call 37; refine (HV.out _ (by (repeat (first | with_reducible exact Below.refl _ _ | with_reducible refine bl_alloc ?_ _ | with_reducible refine bl_drew ?_ | with_reducible refine bl_set ?_ (by first | (simp; done) | (simp; omega)) _ | with_reducible refine bl_call (by assumption) ?_)))).mono ?_; rintro e w1 ⟨rfl, hb1⟩; obtain ⟨hc1, hf1⟩ := bcell hb1; have s1 := hb1.size; (try simp at s1); (try have z1 : w.heap.size < w1.heap.size := by omega)) | (go_at_call 42; refine (spec_validPoint _ _ _).mono ?_; rintro e w2 ⟨rfl, hb2⟩; obtain ⟨hc2, hf2⟩ := bcell hb2; have s2 := hb2.size; try simp at s2))
      go_ret
      exact ⟨rfl, (by (repeat (first | with_reducible exact Below.refl _ _ | with_reducible refine bl_alloc ?_ _ | with_reducible refine bl_drew ?_ | with_reducible refine bl_set ?_ (by first | (simp; done) | (simp; omega)) _ | with_reducible refine bl_call (by assumption) ?_)))⟩

    | true =>
      have hv0 : CwV zs x y m = cwK zs x y m zs.length := by simp [CwV, h0, h1]
      rw [hv0]
      clear hv0
      have HA := Lib.hid h0
      have hx := ptB_true h1
      have H1 := Lib.hid h1
      clear h0
      go_enter Try.func18, Try.ntmps18
      go_wp2_with (first | (go_at_call 37; refine (HV.out _ (by (repeat (first | with_reducible exact Below.refl _ _ | with_reducible refine bl_alloc ?_ _ | with_reducible refine bl_drew ?_ | with_reducible refine bl_set ?_ (by first | (simp; done) | (simp; omega)) _ | with_reducible refine bl_call (by assumption) ?_)))).mono ?_; rintro e w1 ⟨rfl, hb1⟩; obtain ⟨hc1, hf1⟩ := bcell hb1; have s1 := hb1.size; (try simp at s1); (try have z1 : w.heap.size < w1.heap.size := by omega)) | (go_at_call 42; refine (spec_validPoint _ _ _).mono ?_; rintro e w2 ⟨rfl, hb2⟩; obtain ⟨hc2, hf2⟩ := bcell hb2; have s2 := hb2.size; try simp at s2))
      go_loopg [7, 8] n (fun gg s7 s8 wr => ∃ kk : Nat, ∃ u : Int, kk ≤ n ∧ n - kk ≤ gg ∧ (0 ≤ u ∧ u ≤ kk) ∧ Aside (u = cwK zs x y m kk) ∧ s7 = .int .i64 u ∧ s8 = .int .i64 kk ∧ Aside (Below w.heap.size w wr) ∧ wr.cell? ⟨w.heap.size, 0, none⟩ = some (.int .i64 x) ∧ wr.cell? ⟨w.heap.size, 1, none⟩ = some (.int .i64 y) ∧ w.heap.size < wr.heap.size)
      case atStart => exact ⟨0, 0, Nat.zero_le _, by omega, ⟨by omega, by omega⟩, (cwK_zero zs x y m).symm, rfl, rfl, (show Below w.heap.size w _ from bl_call hb2 (bl_call hb1 (bl_alloc (Below.refl _ _) _))), (hc2 _ _ (by omega)).trans ((hc1 _ _ (by simp)).trans (by simp [go_sem])), (hc2 _ _ (by omega)).trans ((hc1 _ _ (by simp)).trans (by simp [go_sem])), by omega⟩
      case round =>
        obtain ⟨kk, u, hkk, hg, hu, U, rfl, rfl, BW, X0, X1, XS⟩ := hrel
        by_cases hlt : kk < n
        · have hltz : (kk : Int) < (n : Int) := by omega
          have hlz : kk < zs.length := by rw [HZ.out]; exact hlt
          have l0 := (BW.out.cell (p := ⟨b, off + kk * 2, none⟩) hB.out).trans (HR.out kk hlz).1
          have l1 := (BW.out.cell (p := ⟨b, off + kk * 2 + 1, none⟩) hB.out).trans (HR.out kk hlz).2
          have hp := listB_at HA.out hlz
          have hn20 := listB_len HA.out
          rw [HZ.out] at hn20
          have HU := Lib.hid (cwK_succ zs x y m kk hlz)
          clear hlz
          generalize zs[kk]! = p at l0 l1 hp HU
          have k0 := cell_regrown l0
          have k1 := cell_regrown l1
          have k2 := cell_regrown X0
          have k3 := cell_regrown X1
          clear l0 l1 X0 X1
          go_wp2
          refine wp_region_quiet_below (by kernel_rfl) (by kernel_rfl) ?_
          repeat (go_big_quiet_step ((first | (go_at_call 43; with_reducible exact Calls.regrown_of (spec_square p.1 p.2 x y _ hp.1 hp.2 hx.1 hx.2)))))
          refine wpQuiet_nil ?_
          intro _ hw'
          obtain ⟨⟨dq, osq⟩, hw''⟩ := hw'
          subst hw''
          have l2 := k2 dq osq
          have l3 := k3 dq osq
          have HB := below_regrown wr dq osq
          have B3 := Lib.hid (bl_call HB BW.out)
          have S3 := HB.size
          clear k0 k1 k2 k3 HB
          by_cases hle : farV p.1 p.2 x y ≤ m
          · go_wp2
            go_roundg (n - (kk + 1))
            case measure => omega
            case rel => exact ⟨kk + 1, u + 1, by omega, by omega, ⟨by omega, by omega⟩, (show u + 1 = cwK zs x y m (kk + 1) from by rw [HU.out, if_pos hle, ← U.out]), by go_num, by go_num, B3.out, l2, l3, by omega⟩
          · go_wp2
            go_roundg (n - (kk + 1))
            case measure => omega
            case rel => exact ⟨kk + 1, u, by omega, by omega, ⟨by omega, by omega⟩, (show u = cwK zs x y m (kk + 1) from by rw [HU.out, if_neg (by omega), ← U.out, Int.add_zero]), rfl, by go_num, B3.out, l2, l3, by omega⟩

        · have hltz : ¬ (kk : Int) < (n : Int) := by omega
          have : kk = n := by omega
          subst this
          go_wp2
          go_ret
          exact ⟨ret_int (by rw [U.out, HZ.out]), BW.out⟩

set_option maxHeartbeats 1000000 in
theorem impl_CountWithin (b off n c : Nat) (zs : List (Int × Int)) (x y m : Int) (w : World) (hn : n ≤ 1048576) (hz : zs.length = n) (hb : b < w.heap.size) (hr : rowOfPoint w b off zs) :
    Calls Try.prog 17 #[.slice (some ⟨b, off, none⟩) n c, .agg #[.int .i64 x, .int .i64 y], .int .i64 m] w fun e w' => e = .returned (.int .i64 (CwV zs x y m)) ∧ Below w.heap.size w w' := by
  have HV := Lib.hid (fun W (B : Below w.heap.size w W) => impl_listOk b off n c zs W hn hz (Nat.lt_of_lt_of_le hb B.size) (row_belowPoint hr hb B))
  have HZ := Lib.hid hz
  have HR := Lib.hid hr
  have hB := Lib.hid hb
  clear hz hr hb
  change Hid (∀ W, Below w.heap.size w W → Calls Try.prog 30 #[.slice (some ⟨b, off, none⟩) n c] W fun e w' => e = .returned (.bool (listB zs)) ∧ Below W.heap.size W w') at HV
  cases h0 : listB zs with
  | false =>
    have hv0 : CwV zs x y m = -1 := by simp [CwV, h0]
    rw [hv0]
    clear hv0
    rw [h0] at HV
    go_enter Try.func17, Try.ntmps17
    go_wp2_with (first | (go_at_call 30; refine (HV.out _ (by (repeat (first | with_reducible exact Below.refl _ _ | with_reducible refine bl_alloc ?_ _ | with_reducible refine bl_drew ?_ | with_reducible refine bl_set ?_ (by first | (simp; done) | (simp; omega)) _ | with_reducible refine bl_call (by assumption) ?_)))).mono ?_; rintro e w1 ⟨rfl, hb1⟩; obtain ⟨hc1, hf1⟩ := bcell hb1; have s1 := hb1.size; (try simp at s1); (try have z1 : w.heap.size < w1.heap.size := by omega)) | (go_at_call 40; refine (impl_Point_valid _ _ _).mono ?_; rintro e w2 ⟨rfl, hb2⟩; obtain ⟨hc2, hf2⟩ := bcell hb2; have s2 := hb2.size; try simp at s2))
    go_ret
    exact ⟨rfl, (by (repeat (first | with_reducible exact Below.refl _ _ | with_reducible refine bl_alloc ?_ _ | with_reducible refine bl_drew ?_ | with_reducible refine bl_set ?_ (by first | (simp; done) | (simp; omega)) _ | with_reducible refine bl_call (by assumption) ?_)))⟩

  | true =>
    rw [h0] at HV
    cases h1 : ptB x y with
    | false =>
      have hv0 : CwV zs x y m = -1 := by simp [CwV, h0, h1]
      rw [hv0]
      clear hv0
      clear h0
      go_enter Try.func17, Try.ntmps17
      go_wp2_with (first | (go_at_call 30; refine (HV.out _ (by (repeat (first | with_reducible exact Below.refl _ _ | with_reducible refine bl_alloc ?_ _ | with_reducible refine bl_drew ?_ | with_reducible refine bl_set ?_ (by first | (simp; done) | (simp; omega)) _ | with_reducible refine bl_call (by assumption) ?_)))).mono ?_; rintro e w1 ⟨rfl, hb1⟩; obtain ⟨hc1, hf1⟩ := bcell hb1; have s1 := hb1.size; (try simp at s1); (try have z1 : w.heap.size < w1.heap.size := by omega)) | (go_at_call 40; refine (impl_Point_valid _ _ _).mono ?_; rintro e w2 ⟨rfl, hb2⟩; obtain ⟨hc2, hf2⟩ := bcell hb2; have s2 := hb2.size; try simp at s2))
      go_ret
      exact ⟨rfl, (by (repeat (first | with_reducible exact Below.refl _ _ | with_reducible refine bl_alloc ?_ _ | with_reducible refine bl_drew ?_ | with_reducible refine bl_set ?_ (by first | (simp; done) | (simp; omega)) _ | with_reducible refine bl_call (by assumption) ?_)))⟩

    | true =>
      have hv0 : CwV zs x y m = cwK zs x y m zs.length := by simp [CwV, h0, h1]
      rw [hv0]
      clear hv0
      have HA := Lib.hid h0
      have hx := ptB_true h1
      have H1 := Lib.hid h1
      clear h0
      go_enter Try.func17, Try.ntmps17
      go_wp2_with (first | (go_at_call 30; refine (HV.out _ (by (repeat (first | with_reducible exact Below.refl _ _ | with_reducible refine bl_alloc ?_ _ | with_reducible refine bl_drew ?_ | with_reducible refine bl_set ?_ (by first | (simp; done) | (simp; omega)) _ | with_reducible refine bl_call (by assumption) ?_)))).mono ?_; rintro e w1 ⟨rfl, hb1⟩; obtain ⟨hc1, hf1⟩ := bcell hb1; have s1 := hb1.size; (try simp at s1); (try have z1 : w.heap.size < w1.heap.size := by omega)) | (go_at_call 40; refine (impl_Point_valid _ _ _).mono ?_; rintro e w2 ⟨rfl, hb2⟩; obtain ⟨hc2, hf2⟩ := bcell hb2; have s2 := hb2.size; try simp at s2))
      go_loopg [7, 9, 20] n (fun gg s7 s9 s8 wr => ∃ kk : Nat, ∃ u : Int, kk ≤ n ∧ n - kk ≤ gg ∧ (0 ≤ u ∧ u ≤ kk) ∧ Aside (u = cwK zs x y m kk) ∧ s7 = .int .i64 u ∧ s8 = .int .i64 kk ∧ Aside (Below w.heap.size w wr) ∧ wr.cell? ⟨w.heap.size, 0, none⟩ = some (.int .i64 x) ∧ wr.cell? ⟨w.heap.size, 1, none⟩ = some (.int .i64 y) ∧ w.heap.size < wr.heap.size)
      case atStart => exact ⟨0, 0, Nat.zero_le _, by omega, ⟨by omega, by omega⟩, (cwK_zero zs x y m).symm, rfl, rfl, (show Below w.heap.size w _ from bl_call hb2 (bl_call hb1 (bl_alloc (Below.refl _ _) _))), (hc2 _ _ (by omega)).trans ((hc1 _ _ (by simp)).trans (by simp [go_sem])), (hc2 _ _ (by omega)).trans ((hc1 _ _ (by simp)).trans (by simp [go_sem])), by omega⟩
      case round =>
        obtain ⟨kk, u, hkk, hg, hu, U, rfl, rfl, BW, X0, X1, XS⟩ := hrel
        by_cases hlt : kk < n
        · have hltz : (kk : Int) < (n : Int) := by omega
          have hlz : kk < zs.length := by rw [HZ.out]; exact hlt
          have l0 := (BW.out.cell (p := ⟨b, off + kk * 2, none⟩) hB.out).trans (HR.out kk hlz).1
          have l1 := (BW.out.cell (p := ⟨b, off + kk * 2 + 1, none⟩) hB.out).trans (HR.out kk hlz).2
          have hp := listB_at HA.out hlz
          have hn20 := listB_len HA.out
          rw [HZ.out] at hn20
          have HU := Lib.hid (cwK_succ zs x y m kk hlz)
          clear hlz
          generalize zs[kk]! = p at l0 l1 hp HU
          by_cases hle : farV p.1 p.2 x y ≤ m
          · go_wp2_with (go_at_call 41; refine (impl_far p.1 p.2 x y _ hp.1 hp.2 hx.1 hx.2).mono ?_; rintro e w3 ⟨rfl, hb3⟩; obtain ⟨hc3, hf3⟩ := bcell hb3; have s3 := hb3.size; try simp at s3)
            go_roundg (n - (kk + 1))
            case measure => omega
            case rel => exact ⟨kk + 1, u + 1, by omega, by omega, ⟨by omega, by omega⟩, (show u + 1 = cwK zs x y m (kk + 1) from by rw [HU.out, if_pos hle, ← U.out]), by go_num, by go_num, bl_call hb3 (bl_alloc BW.out _), (hc3 _ _ (by first | omega | (simp; omega))).trans (calloc X0 _), (hc3 _ _ (by first | omega | (simp; omega))).trans (calloc X1 _), by omega⟩
          · go_wp2_with (go_at_call 41; refine (impl_far p.1 p.2 x y _ hp.1 hp.2 hx.1 hx.2).mono ?_; rintro e w3 ⟨rfl, hb3⟩; obtain ⟨hc3, hf3⟩ := bcell hb3; have s3 := hb3.size; try simp at s3)
            go_roundg (n - (kk + 1))
            case measure => omega
            case rel => exact ⟨kk + 1, u, by omega, by omega, ⟨by omega, by omega⟩, (show u = cwK zs x y m (kk + 1) from by rw [HU.out, if_neg (by omega), ← U.out, Int.add_zero]), rfl, by go_num, bl_call hb3 (bl_alloc BW.out _), (hc3 _ _ (by first | omega | (simp; omega))).trans (calloc X0 _), (hc3 _ _ (by first | omega | (simp; omega))).trans (calloc X1 _), by omega⟩

        · have hltz : ¬ (kk : Int) < (n : Int) := by omega
          have : kk = n := by omega
          subst this
          go_wp2
          go_ret
          exact ⟨ret_int (by rw [U.out, HZ.out]), BW.out⟩

end Go.Proofs.Ytbfeaiaoelkggaa
