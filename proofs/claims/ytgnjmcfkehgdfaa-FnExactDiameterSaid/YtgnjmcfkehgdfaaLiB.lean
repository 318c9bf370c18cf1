/- Contracts of functions that this seat's statements reach: each is shown to compute a plain Lean function, and to leave what was there as it was. No conditions but those in each theorem. -/
import Derived.Test.YtgnjmcfkehgdfaaRowsP5
import Derived.Test.YtgnjmcfkehgdfaaPlainL
import Derived.Test.YtgnjmcfkehgdfaaGeo
import Derived.Test.YtgnjmcfkehgdfaaGn
namespace Go.Proofs.Ytgnjmcfkehgdfaa
open Go.RowKit
set_option linter.unusedVariables false

set_option maxHeartbeats 4000000 in
theorem impl_bestPair (bt : Int → Int → Bool) (g : Nat) (eg : ∀ args w, (callFunc g args).run Try.prog w = .ok (.enter g args) w) (hp : ∀ (x y : Int) (W : World), Calls Try.prog g #[.int .i64 x, .int .i64 y] W fun e w' => e = .returned (.bool (bt x y)) ∧ W = w') (b off n c : Nat) (zs : List (Int × Int)) (w : World) (hn : n ≤ 1048576) (hz : zs.length = n) (hb : b < w.heap.size) (hr : rowOfPoint w b off zs) (hv : listB zs = true) :
    Calls Try.prog 66 #[.slice (some ⟨b, off, none⟩) n c, .func (.func g) #[] #[]] w fun e w' => e = .returned (.tuple #[.int .i64 ((bpS bt zs n).1 : Nat), .int .i64 ((bpS bt zs n).2.1 : Nat), .int .i64 (bpS bt zs n).2.2]) ∧ Below w.heap.size w w' := by
  have HZ := Lib.hid hz
  have HR := Lib.hid hr
  have hB := Lib.hid hb
  clear hz hr hb
  have HA := Lib.hid hv
  clear hv
  have HP := Lib.hid hp
  clear hp
  have hn20 : n ≤ 20 := by have := listB_len HA.out; rw [HZ.out] at this; exact this
  obtain ⟨R1, hR1⟩ : ∃ r, r = ((bpS bt zs n).1 : Nat) := ⟨_, rfl⟩
  obtain ⟨R2, hR2⟩ : ∃ r, r = ((bpS bt zs n).2.1 : Nat) := ⟨_, rfl⟩
  obtain ⟨R3, hR3⟩ : ∃ r, r = (bpS bt zs n).2.2 := ⟨_, rfl⟩
  rw [← hR1, ← hR2, ← hR3]
  have HR1 := Lib.hid hR1
  have HR2 := Lib.hid hR2
  have HR3 := Lib.hid hR3
  clear hR1 hR2 hR3
  go_enter Try.func66, Try.ntmps66
  go_wp2
  go_loopg [7, 8, 9, 10, 11, 12, 15] n (fun gg s7 s8 s9 _ _ _ s15 wr => ∃ ii aa bb : Nat, ∃ u : Int, ii ≤ n ∧ n - ii ≤ gg ∧ Aside (fOut (bpStep bt zs) n (0, 0, -1) ii = (aa, bb, u)) ∧ s7 = .int .i64 aa ∧ s8 = .int .i64 bb ∧ s9 = .int .i64 u ∧ s15 = .int .i64 ii ∧ Aside (Below w.heap.size w wr))
  case atStart => exact ⟨0, 0, 0, -1, Nat.zero_le _, by omega, rfl, rfl, rfl, rfl, rfl, (show Below w.heap.size w w from Below.refl _ _)⟩
  case round =>
    obtain ⟨ii, aa, bb, u, hii, hg, ST, rfl, rfl, rfl, rfl, BW⟩ := hrel
    by_cases hlt : ii < n
    · have hltz : (ii : Int) < (n : Int) := by omega
      go_wp2
      go_loopg [7, 8, 9, 11, 12] n (fun gg2 s7 s8 s9 s11 _ wr2 => ∃ kk cc dd : Nat, ∃ v : Int, ii + 1 ≤ kk ∧ kk ≤ n ∧ n - kk ≤ gg2 ∧ Aside (fIn (bpStep bt zs) ii (aa, bb, u) (kk - (ii + 1)) = (cc, dd, v)) ∧ s7 = .int .i64 cc ∧ s8 = .int .i64 dd ∧ s9 = .int .i64 v ∧ s11 = .int .i64 kk ∧ Aside (Below w.heap.size w wr2))
      case atStart => exact ⟨ii + 1, aa, bb, u, Nat.le_refl _, by omega, by omega, fIn_start _ _ _, rfl, rfl, rfl, by go_num, BW⟩
      case round =>
        obtain ⟨kk, cc, dd, v, hik, hkk, hg2, SI, rfl, rfl, rfl, rfl, BW2⟩ := hrel
        by_cases hlk : kk < n
        · have hlkz : (kk : Int) < (n : Int) := by omega
          have hl_ii : ii < zs.length := by rw [HZ.out]; omega
          have hl_kk : kk < zs.length := by rw [HZ.out]; omega
          have l0 := (BW2.out.cell (p := ⟨b, off + ii * 2, none⟩) hB.out).trans (HR.out ii hl_ii).1
          have l1 := (BW2.out.cell (p := ⟨b, off + ii * 2 + 1, none⟩) hB.out).trans (HR.out ii hl_ii).2
          have hp_ii := listB_at HA.out hl_ii
          have l2 := (BW2.out.cell (p := ⟨b, off + kk * 2, none⟩) hB.out).trans (HR.out kk hl_kk).1
          have l3 := (BW2.out.cell (p := ⟨b, off + kk * 2 + 1, none⟩) hB.out).trans (HR.out kk hl_kk).2
          have hp_kk := listB_at HA.out hl_kk
          have HY : Hid (v < 0 ∨ bt (farV zs[ii]!.1 zs[ii]!.2 zs[kk]!.1 zs[kk]!.2) v = true → fIn (bpStep bt zs) ii (aa, bb, u) (kk + 1 - (ii + 1)) = (ii, kk, farV zs[ii]!.1 zs[ii]!.2 zs[kk]!.1 zs[kk]!.2)) := Lib.hid fun h => by rw [fIn_next _ _ _ _ (by omega), SI.out]; exact bpStep_yes h
          have HNN : Hid (¬ v < 0 → bt (farV zs[ii]!.1 zs[ii]!.2 zs[kk]!.1 zs[kk]!.2) v = false → fIn (bpStep bt zs) ii (aa, bb, u) (kk + 1 - (ii + 1)) = (cc, dd, v)) := Lib.hid fun h1 h => by rw [fIn_next _ _ _ _ (by omega), SI.out]; exact bpStep_no h1 h
          clear hl_ii hl_kk
          generalize zs[ii]! = p at l0 l1 hp_ii HY HNN
          generalize zs[kk]! = q at l2 l3 hp_kk HY HNN
          have k0 := cell_regrown l0
          have k1 := cell_regrown l1
          have k2 := cell_regrown l2
          have k3 := cell_regrown l3
          clear l0 l1 l2 l3
          go_wp2
          refine wp_region_quiet_below (by kernel_rfl) (by kernel_rfl) ?_
          repeat (go_big_quiet_step ((first | (go_at_call 49; with_reducible exact Calls.regrown_of (impl_far p.1 p.2 q.1 q.2 _ hp_ii.1 hp_ii.2 hp_kk.1 hp_kk.2)))))
          refine wpQuiet_nil ?_
          intro _ hw'
          obtain ⟨⟨dq, osq⟩, hw''⟩ := hw'
          subst hw''
          have HB := below_regrown wr dq osq
          have B3 := Lib.hid (bl_call HB BW2.out)
          clear k0 k1 k2 k3 HB
          generalize farV p.1 p.2 q.1 q.2 = fv at HY HNN ⊢
          by_cases hv0 : v < 0
          · go_wp2
            go_roundg (n - (kk + 1))
            case measure => omega
            case rel => exact ⟨kk + 1, ii, kk, fv, by omega, by omega, by omega, HY.out (Or.inl hv0), rfl, rfl, rfl, by go_num, B3.out⟩
          · cases hq : bt fv v with
            | true =>
              have HC := Lib.hid (HP.out fv v)
              rw [hq] at HC
              go_wp2_with (go_at_fn g; refine (HC.out _).mono ?_; rintro e w' ⟨rfl, rfl⟩)
              go_roundg (n - (kk + 1))
              case measure => omega
              case rel => exact ⟨kk + 1, ii, kk, fv, by omega, by omega, by omega, HY.out (Or.inr hq), rfl, rfl, rfl, by go_num, B3.out⟩

            | false =>
              have HC := Lib.hid (HP.out fv v)
              rw [hq] at HC
              go_wp2_with (go_at_fn g; refine (HC.out _).mono ?_; rintro e w' ⟨rfl, rfl⟩)
              go_roundg (n - (kk + 1))
              case measure => omega
              case rel => exact ⟨kk + 1, cc, dd, v, by omega, by omega, by omega, HNN.out hv0 hq, rfl, rfl, rfl, by go_num, B3.out⟩

        · have hlkz : ¬ (kk : Int) < (n : Int) := by omega
          have hkn : kk = n := by omega
          have SN : Aside (fOut (bpStep bt zs) n (0, 0, -1) (ii + 1) = (cc, dd, v)) := by
            show fIn (bpStep bt zs) ii (fOut (bpStep bt zs) n (0, 0, -1) ii) (n - (ii + 1)) = (cc, dd, v)
            rw [ST.out, ← hkn]; exact SI.out
          clear hkn
          go_wp2
          go_roundg (n - (ii + 1))
          case measure => omega
          case rel => exact ⟨ii + 1, cc, dd, v, by omega, by omega, SN.out, rfl, rfl, rfl, by go_num, BW2.out⟩

    · have hltz : ¬ (ii : Int) < (n : Int) := by omega
      have hin : ii = n := by omega
      subst hin
      have e1 : R1 = aa := by rw [HR1.out]; unfold bpS; rw [ST.out]
      have e2 : R2 = bb := by rw [HR2.out]; unfold bpS; rw [ST.out]
      have e3 : R3 = u := by rw [HR3.out]; unfold bpS; rw [ST.out]
      subst e1 e2 e3
      go_wp2
      refine bodyPost_ret (v := .tuple #[.int .i64 (R1 : Int), .int .i64 (R2 : Int), .int .i64 R3]) (by simp [results, Try.results66, go_sem, *]) rfl ⟨rfl, BW.out⟩

end Go.Proofs.Ytgnjmcfkehgdfaa
