/- Contracts of functions that this seat's statements reach: each is shown to compute a plain Lean function, and to leave what was there as it was. No conditions but those in each theorem. -/
import Derived.Test.YtbfeaiaoelkggaaRowsP3
import Derived.Test.YtbfeaiaoelkggaaPlainM
import Derived.Test.YtbfeaiaoelkggaaMxI
import Derived.Test.YtbfeaiaoelkggaaRdrL
namespace Go.Proofs.Ytbfeaiaoelkggaa
open Go.RowKit
set_option linter.unusedVariables false

theorem spec_Maxima_no (b off n c : Nat) (zs : List (Int × Int)) (w : World) (hn : n ≤ 1048576) (hz : zs.length = n) (hb : b < w.heap.size) (hr : rowOfPoint w b off zs) (hv : listB zs = false) :
    Calls Try.prog 15 #[.slice (some ⟨b, off, none⟩) n c] w fun e w' => e = .returned (.slice none 0 0) ∧ Below w.heap.size w w' := by
  have HV : Hid (∀ W, Below w.heap.size w W → Calls Try.prog 37 #[.slice (some ⟨b, off, none⟩) n c] W fun e w' => e = .returned (.bool false) ∧ Below W.heap.size W w') := Lib.hid fun W B => by
    have h := spec_validPoints b off n c zs W hn hz (Nat.lt_of_lt_of_le hb B.size) (row_belowPoint hr hb B)
    change Calls _ _ _ _ fun e w' => e = .returned (.bool (listB zs)) ∧ Below W.heap.size W w' at h
    rw [hv] at h
    exact h
  clear hz hr hb hv
  go_enter Try.func15, Try.ntmps15
  go_wp2_with fail
  have HOi := Lib.hid (World.ownsRow_made (base := w.heap.size) (e := 3) (size := 1) w #[] 0 (Nat.le_refl _) (by unfold maxLen; omega) rfl)
  refine (HV.out _ (by (repeat (first | with_reducible exact Below.refl _ _ | with_reducible refine bl_alloc ?_ _ | with_reducible refine bl_drew ?_ | with_reducible refine bl_set ?_ (by first | (simp; done) | (simp; omega)) _ | with_reducible refine bl_call (by assumption) ?_)))).mono ?_
  rintro e w1 ⟨rfl, hb1⟩
  have s1 := hb1.size
  try simp at s1
  go_wp2
  go_ret
  exact ⟨rfl, (by (repeat (first | with_reducible exact Below.refl _ _ | with_reducible refine bl_alloc ?_ _ | with_reducible refine bl_drew ?_ | with_reducible refine bl_set ?_ (by first | (simp; done) | (simp; omega)) _ | with_reducible refine bl_call (by assumption) ?_)))⟩

set_option maxHeartbeats 4000000 in
theorem spec_Maxima_ok (b off n c : Nat) (zs : List (Int × Int)) (w : World) (hn : n ≤ 1048576) (hz : zs.length = n) (hb : b < w.heap.size) (hr : rowOfPoint w b off zs) (hv : listB zs = true) :
    Calls Try.prog 15 #[.slice (some ⟨b, off, none⟩) n c] w fun e w' => (∃ g cap : Nat, e = .returned (.slice (some ⟨g, 0, none⟩) (pkK (mxP zs) zs n).length cap) ∧ w.heap.size ≤ g ∧ g < w'.heap.size ∧ rowI w' g (pkK (mxP zs) zs n)) ∧ Below w.heap.size w w' := by
  have HV : Hid (∀ W, Below w.heap.size w W → Calls Try.prog 37 #[.slice (some ⟨b, off, none⟩) n c] W fun e w' => e = .returned (.bool true) ∧ Below W.heap.size W w') := Lib.hid fun W B => by
    have h := spec_validPoints b off n c zs W hn hz (Nat.lt_of_lt_of_le hb B.size) (row_belowPoint hr hb B)
    change Calls _ _ _ _ fun e w' => e = .returned (.bool (listB zs)) ∧ Below W.heap.size W w' at h
    rw [hv] at h
    exact h
  obtain ⟨ti, hi, hz0, hz1, hz2⟩ := info_parts infI
  have hn20 := listB_len hv
  rw [hz] at hn20
  obtain ⟨RL, hRL⟩ : ∃ r, r = pkK (mxP zs) zs n := ⟨_, rfl⟩
  rw [← hRL]
  have HRL := Lib.hid hRL
  have HZ := Lib.hid hz
  have HR := Lib.hid hr
  have hB := Lib.hid hb
  clear hz hr hb hv hRL
  go_enter Try.func15, Try.ntmps15
  go_wp2_with fail
  have HOi := Lib.hid (World.ownsRow_made (base := w.heap.size) (e := 3) (size := 1) w #[] 0 (Nat.le_refl _) (by unfold maxLen; omega) rfl)
  refine (HV.out _ (by (repeat (first | with_reducible exact Below.refl _ _ | with_reducible refine bl_alloc ?_ _ | with_reducible refine bl_drew ?_ | with_reducible refine bl_set ?_ (by first | (simp; done) | (simp; omega)) _ | with_reducible refine bl_call (by assumption) ?_)))).mono ?_
  rintro e w1 ⟨rfl, hb1⟩
  have s1 := hb1.size
  try simp at s1
  have HO1 := Lib.hid (own_below HOi.out hb1)
  have HB1 := Lib.hid (show Below w.heap.size w w1 by (repeat (first | with_reducible exact Below.refl _ _ | with_reducible refine bl_alloc ?_ _ | with_reducible refine bl_drew ?_ | with_reducible refine bl_set ?_ (by first | (simp; done) | (simp; omega)) _ | with_reducible refine bl_call (by assumption) ?_)))
  clear HOi hb1
  go_wp2
  go_loopg [3, 4, 5, 6] n (fun gg s3 s4 _ _ wr => ∃ (ii l g cap : Nat) (L : List Nat), ii ≤ n ∧ n - ii ≤ gg ∧ l ≤ ii ∧ Aside (pkK (mxP zs) zs ii = L) ∧ Aside (L.length = l) ∧ s4 = .int .i64 ii ∧ s3 = .slice (some ⟨g, 0, none⟩) l cap ∧ Aside (wr.ownsRow w.heap.size 3 1 (.slice (some ⟨g, 0, none⟩) l cap) l (flatI L)) ∧ Aside (Below w.heap.size w wr) ∧ w.heap.size ≤ g ∧ w.heap.size < wr.heap.size)
  case atStart => exact ⟨0, 0, w.heap.size, 0, [], Nat.zero_le _, by omega, by omega, pkK_zero _ _, rfl, rfl, rfl, HO1.out, HB1.out, Nat.le_refl _, by omega⟩
  case round =>
    clear HO1 HB1 s1
    obtain ⟨ii, l, g, cap, L, hii, hg, hl, HK, HL, rfl, rfl, HO, BW, GW, SW⟩ := hrel
    by_cases hlt : ii < n
    · have hltz : (ii : Int) < (n : Int) := by omega
      obtain ⟨p, hp⟩ : ∃ p, zs[ii]! = p := ⟨_, rfl⟩
      have HPE := Lib.hid hp
      have HY : Hid (mxP zs p = true → pkK (mxP zs) zs (ii + 1) = L ++ [ii]) := Lib.hid fun h => by rw [pkK_yes (by rw [hp]; exact h), HK.out]
      have HN : Hid (mxP zs p = false → pkK (mxP zs) zs (ii + 1) = L) := Lib.hid fun h => by rw [pkK_no (by rw [hp]; exact h), HK.out]
      clear hp
      have HNA : Hid (noK zs p n = mxP zs p) := Lib.hid (by rw [← HZ.out]; exact noK_all zs p)
      go_wp2
      go_loopg [5, 6] n (fun gg2 s5 s6 wq => ∃ kk : Nat, kk ≤ n ∧ n - kk ≤ gg2 ∧ s5 = .bool (noK zs p kk) ∧ s6 = .int .i64 kk ∧ Aside (wq.ownsRow w.heap.size 3 1 (.slice (some ⟨g, 0, none⟩) l cap) l (flatI L)) ∧ Aside (Below w.heap.size w wq) ∧ w.heap.size < wq.heap.size)
      case atStart => exact ⟨0, Nat.zero_le _, by omega, rfl, rfl, HO.out, BW.out, SW⟩
      case round =>
        clear HO BW SW
        obtain ⟨kk, hkk, hg2, rfl, rfl, HO, BW, SW⟩ := hrel
        by_cases hlk : kk < n
        · have hlkz : (kk : Int) < (n : Int) := by omega
          have hl_i : ii < zs.length := by rw [HZ.out]; exact hlt
          have hl_k : kk < zs.length := by rw [HZ.out]; exact hlk
          have l0 := (BW.out.cell (p := ⟨b, off + kk * 2, none⟩) hB.out).trans (HR.out kk hl_k).1
          have l1 := (BW.out.cell (p := ⟨b, off + kk * 2 + 1, none⟩) hB.out).trans (HR.out kk hl_k).2
          have l2 := (BW.out.cell (p := ⟨b, off + ii * 2, none⟩) hB.out).trans (HR.out ii hl_i).1
          have l3 := (BW.out.cell (p := ⟨b, off + ii * 2 + 1, none⟩) hB.out).trans (HR.out ii hl_i).2
          rw [HPE.out] at l2 l3
          have ES := noK_succ (p := p) hl_k
          clear hl_i hl_k
          generalize zs[kk]! = q at l0 l1 ES
          have k0 := cell_regrown l0
          have k1 := cell_regrown l1
          have k2 := cell_regrown l2
          have k3 := cell_regrown l3
          clear l0 l1 l2 l3
          cases hP : noK zs p kk with
          | false =>
            rw [hP, Bool.false_and] at ES
            clear hP
            go_wp2
            refine wp_region_quiet_below (by kernel_rfl) (by kernel_rfl) ?_
            repeat (go_big_quiet_step (fail))
            refine wpQuiet_nil ?_
            intro _ hw'
            obtain ⟨⟨dq, osq⟩, hw''⟩ := hw'
            subst hw''
            have HB := below_regrown wr dq osq
            have B3 := Lib.hid (bl_call HB BW.out)
            have O3 := Lib.hid (own_below HO.out HB)
            have S3 := Nat.lt_of_lt_of_le SW HB.size
            clear k0 k1 k2 k3 HB
            go_wp2
            go_roundg (n - (kk + 1))
            case measure => omega
            case rel => exact ⟨kk + 1, by omega, by omega, by rw [ES], by go_num, O3.out, B3.out, S3⟩

          | true =>
            rw [hP, Bool.true_and] at ES
            clear hP
            by_cases c1 : q.1 = p.1
            · by_cases c2 : q.2 = p.2
              · have i1 : (q.1 == p.1) = true := by first | (simp; done) | (simp; omega) | (simp [*]; done)
                have i2 : (q.2 == p.2) = true := by first | (simp; done) | (simp; omega) | (simp [*]; done)
                rw [doP_same c1 c2, Bool.not_false] at ES
                clear c1 c2
                go_wp2
                refine wp_region_quiet_below (by kernel_rfl) (by kernel_rfl) ?_
                repeat (go_big_quiet_step (fail))
                refine wpQuiet_nil ?_
                intro _ hw'
                obtain ⟨⟨dq, osq⟩, hw''⟩ := hw'
                subst hw''
                have HB := below_regrown wr dq osq
                have B3 := Lib.hid (bl_call HB BW.out)
                have O3 := Lib.hid (own_below HO.out HB)
                have S3 := Nat.lt_of_lt_of_le SW HB.size
                clear k0 k1 k2 k3 HB
                go_wp2
                go_roundg (n - (kk + 1))
                case measure => omega
                case rel => exact ⟨kk + 1, by omega, by omega, by rw [ES], by go_num, O3.out, B3.out, S3⟩
              · have i1 : (q.1 == p.1) = true := by first | (simp; done) | (simp; omega) | (simp [*]; done)
                have i2 : (q.2 == p.2) = false := by first | (simp; done) | (simp; omega) | (simp [*]; done)
                by_cases d1 : p.1 ≤ q.1
                · by_cases d2 : p.2 ≤ q.2
                  · have i3 : decide (p.1 ≤ q.1) = true := by first | (simp; done) | (simp; omega) | (simp [*]; done)
                    have i4 : decide (p.2 ≤ q.2) = true := by first | (simp; done) | (simp; omega) | (simp [*]; done)
                    rw [doP_yes (p := p) (q := q) (by omega) (by omega) (by omega), Bool.not_true] at ES
                    clear c1
                    go_wp2
                    refine wp_region_quiet_below (by kernel_rfl) (by kernel_rfl) ?_
                    repeat (go_big_quiet_step (fail))
                    refine wpQuiet_nil ?_
                    intro _ hw'
                    obtain ⟨⟨dq, osq⟩, hw''⟩ := hw'
                    subst hw''
                    have HB := below_regrown wr dq osq
                    have B3 := Lib.hid (bl_call HB BW.out)
                    have O3 := Lib.hid (own_below HO.out HB)
                    have S3 := Nat.lt_of_lt_of_le SW HB.size
                    clear k0 k1 k2 k3 HB
                    go_wp2
                    go_roundg (n - (kk + 1))
                    case measure => omega
                    case rel => exact ⟨kk + 1, by omega, by omega, by rw [ES], by go_num, O3.out, B3.out, S3⟩
                  · have i3 : decide (p.1 ≤ q.1) = true := by first | (simp; done) | (simp; omega) | (simp [*]; done)
                    have i4 : decide (p.2 ≤ q.2) = false := by first | (simp; done) | (simp; omega) | (simp [*]; done)
                    rw [doP_no2 d2, Bool.not_false] at ES
                    clear c1
                    go_wp2
                    refine wp_region_quiet_below (by kernel_rfl) (by kernel_rfl) ?_
                    repeat (go_big_quiet_step (fail))
                    refine wpQuiet_nil ?_
                    intro _ hw'
                    obtain ⟨⟨dq, osq⟩, hw''⟩ := hw'
                    subst hw''
                    have HB := below_regrown wr dq osq
                    have B3 := Lib.hid (bl_call HB BW.out)
                    have O3 := Lib.hid (own_below HO.out HB)
                    have S3 := Nat.lt_of_lt_of_le SW HB.size
                    clear k0 k1 k2 k3 HB
                    go_wp2
                    go_roundg (n - (kk + 1))
                    case measure => omega
                    case rel => exact ⟨kk + 1, by omega, by omega, by rw [ES], by go_num, O3.out, B3.out, S3⟩
                · have i3 : decide (p.1 ≤ q.1) = false := by first | (simp; done) | (simp; omega) | (simp [*]; done)
                  rw [doP_no1 d1, Bool.not_false] at ES
                  clear c1
                  go_wp2
                  refine wp_region_quiet_below (by kernel_rfl) (by kernel_rfl) ?_
                  repeat (go_big_quiet_step (fail))
                  refine wpQuiet_nil ?_
                  intro _ hw'
                  obtain ⟨⟨dq, osq⟩, hw''⟩ := hw'
                  subst hw''
                  have HB := below_regrown wr dq osq
                  have B3 := Lib.hid (bl_call HB BW.out)
                  have O3 := Lib.hid (own_below HO.out HB)
                  have S3 := Nat.lt_of_lt_of_le SW HB.size
                  clear k0 k1 k2 k3 HB
                  go_wp2
                  go_roundg (n - (kk + 1))
                  case measure => omega
                  case rel => exact ⟨kk + 1, by omega, by omega, by rw [ES], by go_num, O3.out, B3.out, S3⟩
            · have i1 : (q.1 == p.1) = false := by first | (simp; done) | (simp; omega) | (simp [*]; done)
              by_cases d1 : p.1 ≤ q.1
              · by_cases d2 : p.2 ≤ q.2
                · have i3 : decide (p.1 ≤ q.1) = true := by first | (simp; done) | (simp; omega) | (simp [*]; done)
                  have i4 : decide (p.2 ≤ q.2) = true := by first | (simp; done) | (simp; omega) | (simp [*]; done)
                  rw [doP_yes (p := p) (q := q) (by omega) (by omega) (by omega), Bool.not_true] at ES
                  go_wp2
                  refine wp_region_quiet_below (by kernel_rfl) (by kernel_rfl) ?_
                  repeat (go_big_quiet_step (fail))
                  refine wpQuiet_nil ?_
                  intro _ hw'
                  obtain ⟨⟨dq, osq⟩, hw''⟩ := hw'
                  subst hw''
                  have HB := below_regrown wr dq osq
                  have B3 := Lib.hid (bl_call HB BW.out)
                  have O3 := Lib.hid (own_below HO.out HB)
                  have S3 := Nat.lt_of_lt_of_le SW HB.size
                  clear k0 k1 k2 k3 HB
                  go_wp2
                  go_roundg (n - (kk + 1))
                  case measure => omega
                  case rel => exact ⟨kk + 1, by omega, by omega, by rw [ES], by go_num, O3.out, B3.out, S3⟩
                · have i3 : decide (p.1 ≤ q.1) = true := by first | (simp; done) | (simp; omega) | (simp [*]; done)
                  have i4 : decide (p.2 ≤ q.2) = false := by first | (simp; done) | (simp; omega) | (simp [*]; done)
                  rw [doP_no2 d2, Bool.not_false] at ES
                  go_wp2
                  refine wp_region_quiet_below (by kernel_rfl) (by kernel_rfl) ?_
                  repeat (go_big_quiet_step (fail))
                  refine wpQuiet_nil ?_
                  intro _ hw'
                  obtain ⟨⟨dq, osq⟩, hw''⟩ := hw'
                  subst hw''
                  have HB := below_regrown wr dq osq
                  have B3 := Lib.hid (bl_call HB BW.out)
                  have O3 := Lib.hid (own_below HO.out HB)
                  have S3 := Nat.lt_of_lt_of_le SW HB.size
                  clear k0 k1 k2 k3 HB
                  go_wp2
                  go_roundg (n - (kk + 1))
                  case measure => omega
                  case rel => exact ⟨kk + 1, by omega, by omega, by rw [ES], by go_num, O3.out, B3.out, S3⟩
              · have i3 : decide (p.1 ≤ q.1) = false := by first | (simp; done) | (simp; omega) | (simp [*]; done)
                rw [doP_no1 d1, Bool.not_false] at ES
                go_wp2
                refine wp_region_quiet_below (by kernel_rfl) (by kernel_rfl) ?_
                repeat (go_big_quiet_step (fail))
                refine wpQuiet_nil ?_
                intro _ hw'
                obtain ⟨⟨dq, osq⟩, hw''⟩ := hw'
                subst hw''
                have HB := below_regrown wr dq osq
                have B3 := Lib.hid (bl_call HB BW.out)
                have O3 := Lib.hid (own_below HO.out HB)
                have S3 := Nat.lt_of_lt_of_le SW HB.size
                clear k0 k1 k2 k3 HB
                go_wp2
                go_roundg (n - (kk + 1))
                case measure => omega
                case rel => exact ⟨kk + 1, by omega, by omega, by rw [ES], by go_num, O3.out, B3.out, S3⟩

        · have hlkz : ¬ (kk : Int) < (n : Int) := by omega
          have hkn : kk = n := by omega
          subst hkn
          rw [HNA.out]
          generalize mxP zs p = v at HY HN
          cases v with
          | true =>
            have HT := HY.out rfl
            go_wp2_with (at_builtin; refine wpList_append_lies _ rfl _ _ 37 rfl w.heap.size 3 ti (.int .i64 0) 1 8 Try.underlying37 hi hz0 hz1 hz2 rfl (by decide) (.slice (some ⟨g, 0, none⟩) l cap) l (flatI L) rfl (by repeat (first | with_reducible exact HO.out | with_reducible refine World.ownsRow.alloc ?_ _)) ⟨_, 0, none⟩ 1 1 [.int .i64 (ii : Int)] rfl rfl (World.news_of_block (new_at (by first | rfl | (simp; done)))) (one_cellI (ii : Int)) (by omega) (by unfold maxLen; omega) (by omega) (by first | omega | (simp; omega)) _ rfl ?_; intro g2 cap2 w2 hown2 hgrow2 hat2 hlt2)
            rw [← flatI_snoc] at hown2
            have HO2 := Lib.hid hown2
            have hg3 := (hown2.lt _ rfl).1
            have HB2 := Lib.hid (Below.grown (bl_alloc BW.out _) hgrow2 (by simp; omega) (fun k hk => by simp [Value.ownBlock] at hk; omega))
            have S2 := Nat.lt_of_lt_of_le (show w.heap.size < (wr.alloc _).heap.size by simp; omega) hgrow2.size
            clear hown2 hgrow2
            go_roundg (kk - (ii + 1))
            case measure => omega
            case rel => exact ⟨ii + 1, l + 1, g2, cap2, L ++ [ii], by omega, by omega, by omega, HT, by rw [← HL.out]; show (L ++ [_]).length = _; simp, by go_num, rfl, HO2.out, HB2.out, hg3, S2⟩

          | false =>
            have HT := HN.out rfl
            go_wp2
            go_roundg (kk - (ii + 1))
            case measure => omega
            case rel => exact ⟨ii + 1, l, g, cap, L, by omega, by omega, by omega, HT, HL.out, by go_num, rfl, HO.out, BW.out, GW, SW⟩

    · have hltz : ¬ (ii : Int) < (n : Int) := by omega
      have hkn : ii = n := by omega
      subst hkn
      have e1 : RL = L := HRL.out.trans HK.out
      subst e1
      go_wp2
      go_ret
      have hO := HO.out
      have hl2 := HL.out
      subst hl2
      obtain ⟨-, j1, j2, j3, -⟩ := own_rowI hO
      exact ⟨⟨g, ⟨cap, rfl⟩, j1, j2, j3⟩, BW.out⟩

end Go.Proofs.Ytbfeaiaoelkggaa
