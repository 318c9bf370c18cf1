/- Contracts of functions that this seat's statements reach: each is shown to compute a plain Lean function, and to leave what was there as it was. No conditions but those in each theorem. -/
import Derived.Test.YtgnjmcfkehgdfaaRowsP5
import Derived.Test.YtgnjmcfkehgdfaaPlainL
import Derived.Test.YtgnjmcfkehgdfaaGeo
import Derived.Test.YtgnjmcfkehgdfaaGn
namespace Go.Proofs.Ytgnjmcfkehgdfaa
open Go.RowKit
set_option linter.unusedVariables false

set_option maxHeartbeats 4000000 in
theorem spec_nearest (b off n c : Nat) (zs : List (Int × Int)) (w : World) (hn : n ≤ 1048576) (hz : zs.length = n) (hb : b < w.heap.size) (hr : rowOfPoint w b off zs) (hv : listB zs = true) (hn0 : 2 ≤ n) :
    Calls Try.prog 65 #[.slice (some ⟨b, off, none⟩) n c] w fun e w' => e = .returned (.tuple #[.int .i64 ((cpS zs n).1 : Nat), .int .i64 ((cpS zs n).2 : Nat)]) ∧ Below w.heap.size w w' := by
  have HZ := Lib.hid hz
  have HR := Lib.hid hr
  have hB := Lib.hid hb
  clear hz hr hb
  have HA := Lib.hid hv
  have HN0 := Lib.hid hn0
  clear hv
  obtain ⟨R1, hR1⟩ : ∃ r, r = ((cpS zs n).1 : Nat) := ⟨_, rfl⟩
  obtain ⟨R2, hR2⟩ : ∃ r, r = ((cpS zs n).2 : Nat) := ⟨_, rfl⟩
  rw [← hR1, ← hR2]
  have HR1 := Lib.hid hR1
  have HR2 := Lib.hid hR2
  clear hR1 hR2
  go_enter Try.func65, Try.ntmps65
  go_wp2
  go_loopg [4, 5, 6, 7] n (fun gg s4 s5 s6 _ wr => ∃ ii aa bb : Nat, ii ≤ n ∧ n - ii ≤ gg ∧ aa < n ∧ bb < n ∧ Aside (fOut (spStep closB zs) n (0, 1) ii = (aa, bb)) ∧ s4 = .int .i64 aa ∧ s5 = .int .i64 bb ∧ s6 = .int .i64 ii ∧ Aside (Below w.heap.size w wr))
  case atStart => exact ⟨0, 0, 1, Nat.zero_le _, by omega, by have := HN0.out; omega, by have := HN0.out; omega, rfl, rfl, rfl, rfl, (show Below w.heap.size w w from Below.refl _ _)⟩
  case round =>
    obtain ⟨ii, aa, bb, hii, hg, haa, hbb, ST, rfl, rfl, rfl, BW⟩ := hrel
    by_cases hlt : ii < n
    · have hltz : (ii : Int) < (n : Int) := by omega
      have hn20 := listB_len HA.out
      rw [HZ.out] at hn20
      go_wp2
      go_loopg [4, 5, 7] n (fun gg2 s4 s5 s7 wr2 => ∃ kk cc dd : Nat, ii + 1 ≤ kk ∧ kk ≤ n ∧ n - kk ≤ gg2 ∧ cc < n ∧ dd < n ∧ Aside (fIn (spStep closB zs) ii (aa, bb) (kk - (ii + 1)) = (cc, dd)) ∧ s4 = .int .i64 cc ∧ s5 = .int .i64 dd ∧ s7 = .int .i64 kk ∧ Aside (Below w.heap.size w wr2))
      case atStart => exact ⟨ii + 1, aa, bb, Nat.le_refl _, by omega, by omega, haa, hbb, fIn_start _ _ _, rfl, rfl, by go_num, BW⟩
      case round =>
        obtain ⟨kk, cc, dd, hik, hkk, hg2, hcc, hdd, SI, rfl, rfl, rfl, BW2⟩ := hrel
        by_cases hlk : kk < n
        · have hlkz : (kk : Int) < (n : Int) := by omega
          have hccz : (cc : Int) < (n : Int) := by omega
          have hddz : (dd : Int) < (n : Int) := by omega
          have hl_ii : ii < zs.length := by rw [HZ.out]; omega
          have hl_kk : kk < zs.length := by rw [HZ.out]; omega
          have hl_cc : cc < zs.length := by rw [HZ.out]; omega
          have hl_dd : dd < zs.length := by rw [HZ.out]; omega
          have l0 := (BW2.out.cell (p := ⟨b, off + ii * 2, none⟩) hB.out).trans (HR.out ii hl_ii).1
          have l1 := (BW2.out.cell (p := ⟨b, off + ii * 2 + 1, none⟩) hB.out).trans (HR.out ii hl_ii).2
          have hp_ii := listB_at HA.out hl_ii
          have l2 := (BW2.out.cell (p := ⟨b, off + kk * 2, none⟩) hB.out).trans (HR.out kk hl_kk).1
          have l3 := (BW2.out.cell (p := ⟨b, off + kk * 2 + 1, none⟩) hB.out).trans (HR.out kk hl_kk).2
          have hp_kk := listB_at HA.out hl_kk
          have l4 := (BW2.out.cell (p := ⟨b, off + cc * 2, none⟩) hB.out).trans (HR.out cc hl_cc).1
          have l5 := (BW2.out.cell (p := ⟨b, off + cc * 2 + 1, none⟩) hB.out).trans (HR.out cc hl_cc).2
          have hp_cc := listB_at HA.out hl_cc
          have l6 := (BW2.out.cell (p := ⟨b, off + dd * 2, none⟩) hB.out).trans (HR.out dd hl_dd).1
          have l7 := (BW2.out.cell (p := ⟨b, off + dd * 2 + 1, none⟩) hB.out).trans (HR.out dd hl_dd).2
          have hp_dd := listB_at HA.out hl_dd
          have HY : Hid (farV zs[ii]!.1 zs[ii]!.2 zs[kk]!.1 zs[kk]!.2 < farV zs[cc]!.1 zs[cc]!.2 zs[dd]!.1 zs[dd]!.2 → fIn (spStep closB zs) ii (aa, bb) (kk + 1 - (ii + 1)) = (ii, kk)) := Lib.hid fun h => by rw [fIn_next _ _ _ _ (by omega), SI.out]; exact spStep_yes (decide_eq_true h)
          have HNN : Hid (¬ (farV zs[ii]!.1 zs[ii]!.2 zs[kk]!.1 zs[kk]!.2 < farV zs[cc]!.1 zs[cc]!.2 zs[dd]!.1 zs[dd]!.2) → fIn (spStep closB zs) ii (aa, bb) (kk + 1 - (ii + 1)) = (cc, dd)) := Lib.hid fun h => by rw [fIn_next _ _ _ _ (by omega), SI.out]; exact spStep_no (decide_eq_false h)
          clear hl_ii hl_kk hl_cc hl_dd
          generalize zs[ii]! = p at l0 l1 hp_ii HY HNN
          generalize zs[kk]! = q at l2 l3 hp_kk HY HNN
          generalize zs[cc]! = r at l4 l5 hp_cc HY HNN
          generalize zs[dd]! = s at l6 l7 hp_dd HY HNN
          have k0 := cell_regrown l0
          have k1 := cell_regrown l1
          have k2 := cell_regrown l2
          have k3 := cell_regrown l3
          have k4 := cell_regrown l4
          have k5 := cell_regrown l5
          have k6 := cell_regrown l6
          have k7 := cell_regrown l7
          clear l0 l1 l2 l3 l4 l5 l6 l7
          go_wp2
          refine wp_region_quiet_below (by kernel_rfl) (by kernel_rfl) ?_
          repeat (go_big_quiet_step ((first | (go_at_call 46; with_reducible exact Calls.regrown_of (spec_square p.1 p.2 q.1 q.2 _ hp_ii.1 hp_ii.2 hp_kk.1 hp_kk.2)) | (go_at_call 46; with_reducible exact Calls.regrown_of (spec_square r.1 r.2 s.1 s.2 _ hp_cc.1 hp_cc.2 hp_dd.1 hp_dd.2)))))
          refine wpQuiet_nil ?_
          intro _ hw'
          obtain ⟨⟨dq, osq⟩, hw''⟩ := hw'
          subst hw''
          have HB := below_regrown wr dq osq
          have B3 := Lib.hid (bl_call HB BW2.out)
          clear k0 k1 k2 k3 k4 k5 k6 k7 HB
          by_cases hle : farV p.1 p.2 q.1 q.2 < farV r.1 r.2 s.1 s.2
          · go_wp2
            go_roundg (n - (kk + 1))
            case measure => omega
            case rel => exact ⟨kk + 1, ii, kk, by omega, by omega, by omega, by omega, by omega, HY.out hle, rfl, rfl, by go_num, B3.out⟩

          · go_wp2
            go_roundg (n - (kk + 1))
            case measure => omega
            case rel => exact ⟨kk + 1, cc, dd, by omega, by omega, by omega, by omega, by omega, HNN.out hle, rfl, rfl, by go_num, B3.out⟩

        · have hlkz : ¬ (kk : Int) < (n : Int) := by omega
          have hkn : kk = n := by omega
          have SN : Aside (fOut (spStep closB zs) n (0, 1) (ii + 1) = (cc, dd)) := by
            show fIn (spStep closB zs) ii (fOut (spStep closB zs) n (0, 1) ii) (n - (ii + 1)) = (cc, dd)
            rw [ST.out, ← hkn]; exact SI.out
          clear hkn
          go_wp2
          go_roundg (n - (ii + 1))
          case measure => omega
          case rel => exact ⟨ii + 1, cc, dd, by omega, by omega, hcc, hdd, SN.out, rfl, rfl, by go_num, BW2.out⟩

    · have hltz : ¬ (ii : Int) < (n : Int) := by omega
      have hin : ii = n := by omega
      subst hin
      have e1 : R1 = aa := by rw [HR1.out]; unfold cpS; rw [ST.out]
      have e2 : R2 = bb := by rw [HR2.out]; unfold cpS; rw [ST.out]
      subst e1 e2
      go_wp2
      go_ret2
      exact ⟨rfl, BW.out⟩

set_option maxHeartbeats 4000000 in
theorem spec_farthest (b off n c : Nat) (zs : List (Int × Int)) (w : World) (hn : n ≤ 1048576) (hz : zs.length = n) (hb : b < w.heap.size) (hr : rowOfPoint w b off zs) (hv : listB zs = true) (hn0 : 1 ≤ n) :
    Calls Try.prog 68 #[.slice (some ⟨b, off, none⟩) n c] w fun e w' => e = .returned (.tuple #[.int .i64 ((diS zs n).1 : Nat), .int .i64 ((diS zs n).2 : Nat)]) ∧ Below w.heap.size w w' := by
  have HZ := Lib.hid hz
  have HR := Lib.hid hr
  have hB := Lib.hid hb
  clear hz hr hb
  have HA := Lib.hid hv
  have HN0 := Lib.hid hn0
  clear hv
  obtain ⟨R1, hR1⟩ : ∃ r, r = ((diS zs n).1 : Nat) := ⟨_, rfl⟩
  obtain ⟨R2, hR2⟩ : ∃ r, r = ((diS zs n).2 : Nat) := ⟨_, rfl⟩
  rw [← hR1, ← hR2]
  have HR1 := Lib.hid hR1
  have HR2 := Lib.hid hR2
  clear hR1 hR2
  go_enter Try.func68, Try.ntmps68
  go_wp2
  go_loopg [4, 5, 6, 7] n (fun gg s4 s5 s6 _ wr => ∃ ii aa bb : Nat, ii ≤ n ∧ n - ii ≤ gg ∧ aa < n ∧ bb < n ∧ Aside (fOut (spStep diaB zs) n (0, 0) ii = (aa, bb)) ∧ s4 = .int .i64 aa ∧ s5 = .int .i64 bb ∧ s6 = .int .i64 ii ∧ Aside (Below w.heap.size w wr))
  case atStart => exact ⟨0, 0, 0, Nat.zero_le _, by omega, by have := HN0.out; omega, by have := HN0.out; omega, rfl, rfl, rfl, rfl, (show Below w.heap.size w w from Below.refl _ _)⟩
  case round =>
    obtain ⟨ii, aa, bb, hii, hg, haa, hbb, ST, rfl, rfl, rfl, BW⟩ := hrel
    by_cases hlt : ii < n
    · have hltz : (ii : Int) < (n : Int) := by omega
      have hn20 := listB_len HA.out
      rw [HZ.out] at hn20
      go_wp2
      go_loopg [4, 5, 7] n (fun gg2 s4 s5 s7 wr2 => ∃ kk cc dd : Nat, ii + 1 ≤ kk ∧ kk ≤ n ∧ n - kk ≤ gg2 ∧ cc < n ∧ dd < n ∧ Aside (fIn (spStep diaB zs) ii (aa, bb) (kk - (ii + 1)) = (cc, dd)) ∧ s4 = .int .i64 cc ∧ s5 = .int .i64 dd ∧ s7 = .int .i64 kk ∧ Aside (Below w.heap.size w wr2))
      case atStart => exact ⟨ii + 1, aa, bb, Nat.le_refl _, by omega, by omega, haa, hbb, fIn_start _ _ _, rfl, rfl, by go_num, BW⟩
      case round =>
        obtain ⟨kk, cc, dd, hik, hkk, hg2, hcc, hdd, SI, rfl, rfl, rfl, BW2⟩ := hrel
        by_cases hlk : kk < n
        · have hlkz : (kk : Int) < (n : Int) := by omega
          have hccz : (cc : Int) < (n : Int) := by omega
          have hddz : (dd : Int) < (n : Int) := by omega
          have hl_ii : ii < zs.length := by rw [HZ.out]; omega
          have hl_kk : kk < zs.length := by rw [HZ.out]; omega
          have hl_cc : cc < zs.length := by rw [HZ.out]; omega
          have hl_dd : dd < zs.length := by rw [HZ.out]; omega
          have l0 := (BW2.out.cell (p := ⟨b, off + ii * 2, none⟩) hB.out).trans (HR.out ii hl_ii).1
          have l1 := (BW2.out.cell (p := ⟨b, off + ii * 2 + 1, none⟩) hB.out).trans (HR.out ii hl_ii).2
          have hp_ii := listB_at HA.out hl_ii
          have l2 := (BW2.out.cell (p := ⟨b, off + kk * 2, none⟩) hB.out).trans (HR.out kk hl_kk).1
          have l3 := (BW2.out.cell (p := ⟨b, off + kk * 2 + 1, none⟩) hB.out).trans (HR.out kk hl_kk).2
          have hp_kk := listB_at HA.out hl_kk
          have l4 := (BW2.out.cell (p := ⟨b, off + cc * 2, none⟩) hB.out).trans (HR.out cc hl_cc).1
          have l5 := (BW2.out.cell (p := ⟨b, off + cc * 2 + 1, none⟩) hB.out).trans (HR.out cc hl_cc).2
          have hp_cc := listB_at HA.out hl_cc
          have l6 := (BW2.out.cell (p := ⟨b, off + dd * 2, none⟩) hB.out).trans (HR.out dd hl_dd).1
          have l7 := (BW2.out.cell (p := ⟨b, off + dd * 2 + 1, none⟩) hB.out).trans (HR.out dd hl_dd).2
          have hp_dd := listB_at HA.out hl_dd
          have HY : Hid (farV zs[cc]!.1 zs[cc]!.2 zs[dd]!.1 zs[dd]!.2 < farV zs[ii]!.1 zs[ii]!.2 zs[kk]!.1 zs[kk]!.2 → fIn (spStep diaB zs) ii (aa, bb) (kk + 1 - (ii + 1)) = (ii, kk)) := Lib.hid fun h => by rw [fIn_next _ _ _ _ (by omega), SI.out]; exact spStep_yes (decide_eq_true h)
          have HNN : Hid (¬ (farV zs[cc]!.1 zs[cc]!.2 zs[dd]!.1 zs[dd]!.2 < farV zs[ii]!.1 zs[ii]!.2 zs[kk]!.1 zs[kk]!.2) → fIn (spStep diaB zs) ii (aa, bb) (kk + 1 - (ii + 1)) = (cc, dd)) := Lib.hid fun h => by rw [fIn_next _ _ _ _ (by omega), SI.out]; exact spStep_no (decide_eq_false h)
          clear hl_ii hl_kk hl_cc hl_dd
          generalize zs[ii]! = p at l0 l1 hp_ii HY HNN
          generalize zs[kk]! = q at l2 l3 hp_kk HY HNN
          generalize zs[cc]! = r at l4 l5 hp_cc HY HNN
          generalize zs[dd]! = s at l6 l7 hp_dd HY HNN
          have k0 := cell_regrown l0
          have k1 := cell_regrown l1
          have k2 := cell_regrown l2
          have k3 := cell_regrown l3
          have k4 := cell_regrown l4
          have k5 := cell_regrown l5
          have k6 := cell_regrown l6
          have k7 := cell_regrown l7
          clear l0 l1 l2 l3 l4 l5 l6 l7
          go_wp2
          refine wp_region_quiet_below (by kernel_rfl) (by kernel_rfl) ?_
          repeat (go_big_quiet_step ((first | (go_at_call 46; with_reducible exact Calls.regrown_of (spec_square p.1 p.2 q.1 q.2 _ hp_ii.1 hp_ii.2 hp_kk.1 hp_kk.2)) | (go_at_call 46; with_reducible exact Calls.regrown_of (spec_square r.1 r.2 s.1 s.2 _ hp_cc.1 hp_cc.2 hp_dd.1 hp_dd.2)))))
          refine wpQuiet_nil ?_
          intro _ hw'
          obtain ⟨⟨dq, osq⟩, hw''⟩ := hw'
          subst hw''
          have HB := below_regrown wr dq osq
          have B3 := Lib.hid (bl_call HB BW2.out)
          clear k0 k1 k2 k3 k4 k5 k6 k7 HB
          by_cases hle : farV r.1 r.2 s.1 s.2 < farV p.1 p.2 q.1 q.2
          · go_wp2
            go_roundg (n - (kk + 1))
            case measure => omega
            case rel => exact ⟨kk + 1, ii, kk, by omega, by omega, by omega, by omega, by omega, HY.out hle, rfl, rfl, by go_num, B3.out⟩

          · go_wp2
            go_roundg (n - (kk + 1))
            case measure => omega
            case rel => exact ⟨kk + 1, cc, dd, by omega, by omega, by omega, by omega, by omega, HNN.out hle, rfl, rfl, by go_num, B3.out⟩

        · have hlkz : ¬ (kk : Int) < (n : Int) := by omega
          have hkn : kk = n := by omega
          have SN : Aside (fOut (spStep diaB zs) n (0, 0) (ii + 1) = (cc, dd)) := by
            show fIn (spStep diaB zs) ii (fOut (spStep diaB zs) n (0, 0) ii) (n - (ii + 1)) = (cc, dd)
            rw [ST.out, ← hkn]; exact SI.out
          clear hkn
          go_wp2
          go_roundg (n - (ii + 1))
          case measure => omega
          case rel => exact ⟨ii + 1, cc, dd, by omega, by omega, hcc, hdd, SN.out, rfl, rfl, by go_num, BW2.out⟩

    · have hltz : ¬ (ii : Int) < (n : Int) := by omega
      have hin : ii = n := by omega
      subst hin
      have e1 : R1 = aa := by rw [HR1.out]; unfold diS; rw [ST.out]
      have e2 : R2 = bb := by rw [HR2.out]; unfold diS; rw [ST.out]
      subst e1 e2
      go_wp2
      go_ret2
      exact ⟨rfl, BW.out⟩

end Go.Proofs.Ytgnjmcfkehgdfaa
