/- FnMaxima returns true for every argument, and leaves its arguments as they were. No conditions. -/
import Derived.Test.YtbfeaiaoelkggaaFrame
import Derived.Test.YtbfeaiaoelkggaaFrameB
import Derived.Test.YtbfeaiaoelkggaaRdrL3
import Derived.Test.YtbfeaiaoelkggaaMxM
import Derived.Test.YtbfeaiaoelkggaaMxS
namespace Go.Proofs.Ytbfeaiaoelkggaa
open Go.RowKit
set_option linter.unusedVariables false

open Go.ChangeShapes Go.WideShapes Go.ChangeAt
namespace FnMaxima

open Go.Sort
set_option maxRecDepth 100000 in
set_option maxHeartbeats 16000000 in
theorem walk (a : Option Addr) (n c : Nat) (w : World) (hs : BytesOf w.heap.size w a n) (hc : n ≤ c) (hc2 : c ≤ 9223372036854775807) :
    Calls Try.prog 4 #[.slice a n c] w fun e w' => e = .returned (.bool true) ∧ Below w.heap.size w w' := by
  by_cases hn : n ≤ 1048576
  · have hnz : ¬ (1048576 : Int) < (n : Int) := by omega
    have HS := Lib.hid hs
    clear hs
    go_enter Try.func4, Try.ntmps4
    go_wp2_with fail
    refine (rdr_DrawMaxima w.heap.size a n c w (Nat.le_refl _) HS.out hc hc2).mono ?_
    rintro e w1 ⟨gl, cap, zs, rfl, hgl, hrow, hlen, b1⟩
    have s1 := b1.size
    try simp at s1
    have HROW := Lib.hid hrow
    clear hrow
    cases hv : listB zs with
    | false =>
      have KM : Hid (∀ W : World, gl < W.heap.size → rowOfPoint W gl 0 zs → Calls Try.prog 13 #[.slice (some ⟨gl, 0, none⟩) zs.length cap] W fun e w' => e = .returned (.slice none 0 0) ∧ Below W.heap.size W w') := Lib.hid fun W lt row => impl_Maxima_no gl 0 zs.length cap zs W (by omega) rfl lt row hv
      have KS : Hid (∀ W : World, gl < W.heap.size → rowOfPoint W gl 0 zs → Calls Try.prog 15 #[.slice (some ⟨gl, 0, none⟩) zs.length cap] W fun e w' => e = .returned (.slice none 0 0) ∧ Below W.heap.size W w') := Lib.hid fun W lt row => spec_Maxima_no gl 0 zs.length cap zs W (by omega) rfl lt row hv
      clear hv
      go_wp2_with fail
      refine (KM.out _ hgl HROW.out).mono ?_
      rintro e w2 ⟨rfl, b2⟩
      have HROW2 := Lib.hid (row_belowPoint HROW.out hgl b2)
      have s2 := b2.size
      have hgl2 : gl < w2.heap.size := by omega
      go_wp2_with fail
      refine (KS.out _ hgl2 HROW2.out).mono ?_
      rintro e w3 ⟨rfl, b3⟩
      have HROW3 := Lib.hid (row_belowPoint HROW2.out hgl2 b3)
      have s3 := b3.size
      have hgl3 : gl < w3.heap.size := by omega
      go_wp2_with fail
      refine (laws_equalInts_nil _).mono ?_
      rintro e w4 ⟨rfl, b4⟩
      have HROW4 := Lib.hid (row_belowPoint HROW3.out hgl3 b4)
      have s4 := b4.size
      have hgl4 : gl < w4.heap.size := by omega
      go_wp2_with fail
      refine (KS.out _ hgl4 HROW4.out).mono ?_
      rintro e w5 ⟨rfl, b5⟩
      have HROW5 := Lib.hid (row_belowPoint HROW4.out hgl4 b5)
      have s5 := b5.size
      have hgl5 : gl < w5.heap.size := by omega
      go_wp2_with fail
      refine (laws_equalInts_nil _).mono ?_
      rintro e w6 ⟨rfl, b6⟩
      have HROW6 := Lib.hid (row_belowPoint HROW5.out hgl5 b6)
      have s6 := b6.size
      have hgl6 : gl < w6.heap.size := by omega
      go_wp2
      go_ret
      exact ⟨rfl, (by (repeat (first | with_reducible exact Below.refl _ _ | with_reducible refine bl_alloc ?_ _ | with_reducible refine bl_drew ?_ | with_reducible refine bl_set ?_ (by first | (simp; done) | (simp; omega)) _ | with_reducible refine bl_call (by assumption) ?_)))⟩

    | true =>
      have hll := pkK_len (mxP zs) zs zs.length
      have HAT : Hid (∀ k, k < (pkK (mxP zs) zs zs.length).length → (pkK (mxP zs) zs zs.length)[k]! < zs.length ∧ ∀ i, i < zs.length → doP zs[(pkK (mxP zs) zs zs.length)[k]!]! zs[i]! = false) := Lib.hid fun k hk => ⟨(pkK_at hk).1, fun i hi => mx_not (pkK_at hk).2 hi⟩
      have HALL : Hid (∀ i, i < zs.length → atK zs (pkK (mxP zs) zs zs.length) zs[i]! (pkK (mxP zs) zs zs.length).length = true) := Lib.hid fun i hi => atK_all hv hi
      have KM : Hid (∀ W : World, gl < W.heap.size → rowOfPoint W gl 0 zs → Calls Try.prog 13 #[.slice (some ⟨gl, 0, none⟩) zs.length cap] W fun e w' => (∃ g : Nat, e = .returned (.slice (some ⟨g, 0, none⟩) (pkK (mxP zs) zs zs.length).length (pkK (mxP zs) zs zs.length).length) ∧ W.heap.size ≤ g ∧ g < w'.heap.size ∧ rowI w' g (pkK (mxP zs) zs zs.length)) ∧ Below W.heap.size W w') := Lib.hid fun W lt row => impl_Maxima_ok gl 0 zs.length cap zs W (by omega) rfl lt row hv
      have KS : Hid (∀ W : World, gl < W.heap.size → rowOfPoint W gl 0 zs → Calls Try.prog 15 #[.slice (some ⟨gl, 0, none⟩) zs.length cap] W fun e w' => (∃ g cap : Nat, e = .returned (.slice (some ⟨g, 0, none⟩) (pkK (mxP zs) zs zs.length).length cap) ∧ W.heap.size ≤ g ∧ g < w'.heap.size ∧ rowI w' g (pkK (mxP zs) zs zs.length)) ∧ Below W.heap.size W w') := Lib.hid fun W lt row => spec_Maxima_ok gl 0 zs.length cap zs W (by omega) rfl lt row hv
      clear hv
      generalize pkK (mxP zs) zs zs.length = L at hll HAT HALL KM KS
      go_wp2_with fail
      refine (KM.out _ hgl HROW.out).mono ?_
      rintro e w2 ⟨⟨g1, rfl, hg1, hl1, r1⟩, b2⟩
      have HROW2 := Lib.hid (row_belowPoint HROW.out hgl b2)
      have s2 := b2.size
      have hgl2 : gl < w2.heap.size := by omega
      have R1 := Lib.hid r1
      clear r1
      go_wp2_with fail
      refine (KS.out _ hgl2 HROW2.out).mono ?_
      rintro e w3 ⟨⟨g2, cap2, rfl, hg2, hl2, r2⟩, b3⟩
      have HROW3 := Lib.hid (row_belowPoint HROW2.out hgl2 b3)
      have s3 := b3.size
      have hgl3 : gl < w3.heap.size := by omega
      have R2 := Lib.hid r2
      clear r2
      have R13 := Lib.hid (rowI_below R1.out hl1 b3)
      go_wp2_with fail
      refine (laws_equalInts g1 g2 L.length cap2 L _ (by omega) (by omega) R13.out hl2 R2.out).mono ?_
      rintro e w4 ⟨rfl, b4⟩
      have HROW4 := Lib.hid (row_belowPoint HROW3.out hgl3 b4)
      have s4 := b4.size
      have hgl4 : gl < w4.heap.size := by omega
      have R14 := Lib.hid (rowI_below R13.out (by omega) b4)
      by_cases hl0 : L.length = 0
      · have hlb : ((L.length : Int) == 0) = true := by simp [hl0]
        clear hl0
        go_wp2_with fail
        refine (KS.out _ hgl4 HROW4.out).mono ?_
        rintro e w5 ⟨⟨g5, cap5, rfl, hg5, hl5, r5⟩, b5⟩
        have HROW5 := Lib.hid (row_belowPoint HROW4.out hgl4 b5)
        have s5 := b5.size
        have hgl5 : gl < w5.heap.size := by omega
        have R15 := Lib.hid (rowI_below R14.out (by omega) b5)
        go_wp2_with fail
        refine (laws_equalInts g1 g5 L.length cap5 L _ (by omega) (by omega) R15.out hl5 r5).mono ?_
        rintro e w6 ⟨rfl, b6⟩
        have HROW6 := Lib.hid (row_belowPoint HROW5.out hgl5 b6)
        have s6 := b6.size
        have hgl6 : gl < w6.heap.size := by omega
        go_wp2
        go_ret
        exact ⟨rfl, (by (repeat (first | with_reducible exact Below.refl _ _ | with_reducible refine bl_alloc ?_ _ | with_reducible refine bl_drew ?_ | with_reducible refine bl_set ?_ (by first | (simp; done) | (simp; omega)) _ | with_reducible refine bl_call (by assumption) ?_)))⟩
      · have hlb : ((L.length : Int) == 0) = false := beq_eq_false_iff_ne.2 (by omega)
        have BW0 := Lib.hid (show Below w.heap.size w w4 by (repeat (first | with_reducible exact Below.refl _ _ | with_reducible refine bl_alloc ?_ _ | with_reducible refine bl_drew ?_ | with_reducible refine bl_set ?_ (by first | (simp; done) | (simp; omega)) _ | with_reducible refine bl_call (by assumption) ?_)))
        have hx1 : g1 < w4.heap.size := by omega
        go_wp2
        go_loopg [5, 6, 7, 8] zs.length (fun gg s5 _ _ _ wr => ∃ ii : Nat, ii ≤ zs.length ∧ zs.length - ii ≤ gg ∧ s5 = .int .i64 ii ∧ Aside (Below w.heap.size w wr) ∧ Aside (rowOfPoint wr gl 0 zs) ∧ Aside (rowI wr g1 L) ∧ gl < wr.heap.size ∧ g1 < wr.heap.size)
        case atStart => exact ⟨0, Nat.zero_le _, by omega, rfl, BW0.out, HROW4.out, R14.out, hgl4, hx1⟩
        case round =>
          clear BW0 HROW HROW2 HROW3 HROW4 R1 R2 R13 R14 KM KS hlb hgl hgl2 hgl3 hgl4 hx1 hg1 hg2 hl1 hl2 s2 s3 s4 b1 b2 b3 b4
          obtain ⟨ii, hii, hg, rfl, BW, RW, RI, GW, GI⟩ := hrel
          by_cases hlt : ii < zs.length
          · have hltz : (ii : Int) < (zs.length : Int) := by omega
            obtain ⟨p, hp⟩ : ∃ p, zs[ii]! = p := ⟨_, rfl⟩
            have HPE := Lib.hid hp
            clear hp
            have HA := Lib.hid (HALL.out ii hlt)
            rw [HPE.out] at HA
            go_wp2
            go_loopg [6, 7, 8] L.length (fun gg2 s6 s7 _ wr => ∃ kk : Nat, kk ≤ L.length ∧ L.length - kk ≤ gg2 ∧ s6 = .bool (atK zs L p kk) ∧ s7 = .int .i64 kk ∧ Aside (Below w.heap.size w wr) ∧ Aside (rowOfPoint wr gl 0 zs) ∧ Aside (rowI wr g1 L) ∧ gl < wr.heap.size ∧ g1 < wr.heap.size)
            case atStart => exact ⟨0, Nat.zero_le _, by omega, rfl, rfl, BW.out, RW.out, RI.out, GW, GI⟩
            case round =>
              clear BW RW RI GW GI
              obtain ⟨kk, hkk, hg2, rfl, rfl, BW, RW, RI, GW, GI⟩ := hrel
              by_cases hlk : kk < L.length
              · have hlkz : (kk : Int) < (L.length : Int) := by omega
                obtain ⟨hm, hdo⟩ := HAT.out kk hlk
                have HD := hdo ii hlt
                clear hdo
                have ES := atK_succ (zs := zs) (p := p) hlk
                have e0 := RI.out kk hlk
                generalize L[kk]! = m at e0 hm HD ES
                have hmz : (m : Int) < (zs.length : Int) := by omega
                have l0 := (RW.out m hm).1
                have l1 := (RW.out m hm).2
                have l2 := (RW.out ii hlt).1
                have l3 := (RW.out ii hlt).2
                simp only [Nat.zero_add] at l0 l1 l2 l3
                rw [HPE.out] at l2 l3 HD
                generalize zs[m]! = q at l0 l1 HD ES
                have HDO := Lib.hid HD
                clear HD
                go_wp2
                have k0 := cell_regrown (show (wr.alloc (Obj.cells #[.int .i64 q.1, .int .i64 q.2] 30)).cell? ⟨wr.heap.size, 0, none⟩ = some (.int .i64 q.1) by simp [go_sem])
                have k1 := cell_regrown (show (wr.alloc (Obj.cells #[.int .i64 q.1, .int .i64 q.2] 30)).cell? ⟨wr.heap.size, 1, none⟩ = some (.int .i64 q.2) by simp [go_sem])
                have k2 := cell_regrown (calloc l2 (Obj.cells #[.int .i64 q.1, .int .i64 q.2] 30))
                have k3 := cell_regrown (calloc l3 (Obj.cells #[.int .i64 q.1, .int .i64 q.2] 30))
                clear l0 l1 l2 l3 e0
                cases hP : atK zs L p kk with
                | true =>
                  rw [hP, Bool.true_or] at ES
                  clear hP
                  go_wp2
                  refine wp_region_quiet_below (by kernel_rfl) (by kernel_rfl) ?_
                  repeat (go_big_quiet_step (fail))
                  refine wpQuiet_nil ?_
                  intro _ hw'
                  obtain ⟨⟨dq, osq⟩, hw''⟩ := hw'
                  subst hw''
                  have j0 := k0 dq osq
                  have j1 := k1 dq osq
                  have j2 := k2 dq osq
                  have j3 := k3 dq osq
                  have HB1 := Lib.hid (bl_call (below_regrown _ dq osq) (bl_alloc (Below.refl wr.heap.size wr) (Obj.cells #[.int .i64 q.1, .int .i64 q.2] 30)))
                  clear k0 k1 k2 k3
                  have m0 := cell_regrown j0
                  have m1 := cell_regrown j1
                  have m2 := cell_regrown j2
                  have m3 := cell_regrown j3
                  clear j0 j1 j2 j3
                  by_cases c1 : p.1 = q.1
                  · by_cases c2 : p.2 = q.2
                    · have i1 : (p.1 == q.1) = true := by first | (simp; done) | (simp; omega) | (simp [*]; done)
                      have i2 : (p.2 == q.2) = true := by first | (simp; done) | (simp; omega) | (simp [*]; done)
                      clear c1 c2
                      go_wp2
                      refine wp_region_quiet_below (by kernel_rfl) (by kernel_rfl) ?_
                      repeat (go_big_quiet_step (fail))
                      refine wpQuiet_nil ?_
                      intro _ hw'
                      obtain ⟨⟨dr, ot⟩, hw''⟩ := hw'
                      subst hw''
                      have HB2 := Lib.hid (bl_call (below_regrown _ dr ot) HB1.out)
                      have B3 := Lib.hid (bl_call (HB2.out.mono (Nat.le_refl _)) BW.out)
                      have R3 := Lib.hid (row_belowPoint RW.out GW HB2.out)
                      have I3 := Lib.hid (rowI_below RI.out GI HB2.out)
                      have G3 := Nat.lt_of_lt_of_le GW HB2.out.size
                      have H3 := Nat.lt_of_lt_of_le GI HB2.out.size
                      clear m0 m1 m2 m3
                      go_wp2
                      go_roundg (L.length - (kk + 1))
                      case measure => omega
                      case rel => exact ⟨kk + 1, by omega, by omega, by rw [ES], by go_num, B3.out, R3.out, I3.out, G3, H3⟩
                    · by_cases d3 : q.1 ≤ p.1
                      · by_cases d4 : q.2 ≤ p.2
                        · exact absurd HDO.out (by rw [doP_yes (p := q) (q := p) (by omega) d3 d4]; decide)
                        · have i1 : (p.1 == q.1) = true := by first | (simp; done) | (simp; omega) | (simp [*]; done)
                          have i2 : (p.2 == q.2) = false := by first | (simp; done) | (simp; omega) | (simp [*]; done)
                          have i3 : decide (q.1 ≤ p.1) = true := by first | (simp; done) | (simp; omega) | (simp [*]; done)
                          have i4 : decide (q.2 ≤ p.2) = false := by first | (simp; done) | (simp; omega) | (simp [*]; done)
                          clear c1
                          go_wp2
                          refine wp_region_quiet_below (by kernel_rfl) (by kernel_rfl) ?_
                          repeat (go_big_quiet_step (fail))
                          refine wpQuiet_nil ?_
                          intro _ hw'
                          obtain ⟨⟨dr, ot⟩, hw''⟩ := hw'
                          subst hw''
                          have HB2 := Lib.hid (bl_call (below_regrown _ dr ot) HB1.out)
                          have B3 := Lib.hid (bl_call (HB2.out.mono (Nat.le_refl _)) BW.out)
                          have R3 := Lib.hid (row_belowPoint RW.out GW HB2.out)
                          have I3 := Lib.hid (rowI_below RI.out GI HB2.out)
                          have G3 := Nat.lt_of_lt_of_le GW HB2.out.size
                          have H3 := Nat.lt_of_lt_of_le GI HB2.out.size
                          clear m0 m1 m2 m3
                          go_wp2
                          go_roundg (L.length - (kk + 1))
                          case measure => omega
                          case rel => exact ⟨kk + 1, by omega, by omega, by rw [ES], by go_num, B3.out, R3.out, I3.out, G3, H3⟩
                      · exfalso
                        omega
                  · by_cases d3 : q.1 ≤ p.1
                    · by_cases d4 : q.2 ≤ p.2
                      · exact absurd HDO.out (by rw [doP_yes (p := q) (q := p) (by omega) d3 d4]; decide)
                      · have i1 : (p.1 == q.1) = false := by first | (simp; done) | (simp; omega) | (simp [*]; done)
                        have i3 : decide (q.1 ≤ p.1) = true := by first | (simp; done) | (simp; omega) | (simp [*]; done)
                        have i4 : decide (q.2 ≤ p.2) = false := by first | (simp; done) | (simp; omega) | (simp [*]; done)
                        go_wp2
                        refine wp_region_quiet_below (by kernel_rfl) (by kernel_rfl) ?_
                        repeat (go_big_quiet_step (fail))
                        refine wpQuiet_nil ?_
                        intro _ hw'
                        obtain ⟨⟨dr, ot⟩, hw''⟩ := hw'
                        subst hw''
                        have HB2 := Lib.hid (bl_call (below_regrown _ dr ot) HB1.out)
                        have B3 := Lib.hid (bl_call (HB2.out.mono (Nat.le_refl _)) BW.out)
                        have R3 := Lib.hid (row_belowPoint RW.out GW HB2.out)
                        have I3 := Lib.hid (rowI_below RI.out GI HB2.out)
                        have G3 := Nat.lt_of_lt_of_le GW HB2.out.size
                        have H3 := Nat.lt_of_lt_of_le GI HB2.out.size
                        clear m0 m1 m2 m3
                        go_wp2
                        go_roundg (L.length - (kk + 1))
                        case measure => omega
                        case rel => exact ⟨kk + 1, by omega, by omega, by rw [ES], by go_num, B3.out, R3.out, I3.out, G3, H3⟩
                    · have i1 : (p.1 == q.1) = false := by first | (simp; done) | (simp; omega) | (simp [*]; done)
                      have i3 : decide (q.1 ≤ p.1) = false := by first | (simp; done) | (simp; omega) | (simp [*]; done)
                      go_wp2
                      refine wp_region_quiet_below (by kernel_rfl) (by kernel_rfl) ?_
                      repeat (go_big_quiet_step (fail))
                      refine wpQuiet_nil ?_
                      intro _ hw'
                      obtain ⟨⟨dr, ot⟩, hw''⟩ := hw'
                      subst hw''
                      have HB2 := Lib.hid (bl_call (below_regrown _ dr ot) HB1.out)
                      have B3 := Lib.hid (bl_call (HB2.out.mono (Nat.le_refl _)) BW.out)
                      have R3 := Lib.hid (row_belowPoint RW.out GW HB2.out)
                      have I3 := Lib.hid (rowI_below RI.out GI HB2.out)
                      have G3 := Nat.lt_of_lt_of_le GW HB2.out.size
                      have H3 := Nat.lt_of_lt_of_le GI HB2.out.size
                      clear m0 m1 m2 m3
                      go_wp2
                      go_roundg (L.length - (kk + 1))
                      case measure => omega
                      case rel => exact ⟨kk + 1, by omega, by omega, by rw [ES], by go_num, B3.out, R3.out, I3.out, G3, H3⟩

                | false =>
                  rw [hP, Bool.false_or] at ES
                  clear hP
                  by_cases d1 : p.1 ≤ q.1
                  · by_cases d2 : p.2 ≤ q.2
                    · have i5 : decide (p.1 ≤ q.1) = true := by first | (simp; done) | (simp; omega) | (simp [*]; done)
                      have i6 : decide (p.2 ≤ q.2) = true := by first | (simp; done) | (simp; omega) | (simp [*]; done)
                      rw [i5, i6, Bool.true_and] at ES
                      go_wp2
                      refine wp_region_quiet_below (by kernel_rfl) (by kernel_rfl) ?_
                      repeat (go_big_quiet_step (fail))
                      refine wpQuiet_nil ?_
                      intro _ hw'
                      obtain ⟨⟨dq, osq⟩, hw''⟩ := hw'
                      subst hw''
                      have j0 := k0 dq osq
                      have j1 := k1 dq osq
                      have j2 := k2 dq osq
                      have j3 := k3 dq osq
                      have HB1 := Lib.hid (bl_call (below_regrown _ dq osq) (bl_alloc (Below.refl wr.heap.size wr) (Obj.cells #[.int .i64 q.1, .int .i64 q.2] 30)))
                      clear k0 k1 k2 k3
                      have m0 := cell_regrown j0
                      have m1 := cell_regrown j1
                      have m2 := cell_regrown j2
                      have m3 := cell_regrown j3
                      clear j0 j1 j2 j3
                      by_cases c1 : p.1 = q.1
                      · by_cases c2 : p.2 = q.2
                        · have i1 : (p.1 == q.1) = true := by first | (simp; done) | (simp; omega) | (simp [*]; done)
                          have i2 : (p.2 == q.2) = true := by first | (simp; done) | (simp; omega) | (simp [*]; done)
                          clear c1 c2
                          go_wp2
                          refine wp_region_quiet_below (by kernel_rfl) (by kernel_rfl) ?_
                          repeat (go_big_quiet_step (fail))
                          refine wpQuiet_nil ?_
                          intro _ hw'
                          obtain ⟨⟨dr, ot⟩, hw''⟩ := hw'
                          subst hw''
                          have HB2 := Lib.hid (bl_call (below_regrown _ dr ot) HB1.out)
                          have B3 := Lib.hid (bl_call (HB2.out.mono (Nat.le_refl _)) BW.out)
                          have R3 := Lib.hid (row_belowPoint RW.out GW HB2.out)
                          have I3 := Lib.hid (rowI_below RI.out GI HB2.out)
                          have G3 := Nat.lt_of_lt_of_le GW HB2.out.size
                          have H3 := Nat.lt_of_lt_of_le GI HB2.out.size
                          clear m0 m1 m2 m3
                          go_wp2
                          go_roundg (L.length - (kk + 1))
                          case measure => omega
                          case rel => exact ⟨kk + 1, by omega, by omega, by rw [ES], by go_num, B3.out, R3.out, I3.out, G3, H3⟩
                        · by_cases d3 : q.1 ≤ p.1
                          · by_cases d4 : q.2 ≤ p.2
                            · exact absurd HDO.out (by rw [doP_yes (p := q) (q := p) (by omega) d3 d4]; decide)
                            · have i1 : (p.1 == q.1) = true := by first | (simp; done) | (simp; omega) | (simp [*]; done)
                              have i2 : (p.2 == q.2) = false := by first | (simp; done) | (simp; omega) | (simp [*]; done)
                              have i3 : decide (q.1 ≤ p.1) = true := by first | (simp; done) | (simp; omega) | (simp [*]; done)
                              have i4 : decide (q.2 ≤ p.2) = false := by first | (simp; done) | (simp; omega) | (simp [*]; done)
                              clear c1
                              go_wp2
                              refine wp_region_quiet_below (by kernel_rfl) (by kernel_rfl) ?_
                              repeat (go_big_quiet_step (fail))
                              refine wpQuiet_nil ?_
                              intro _ hw'
                              obtain ⟨⟨dr, ot⟩, hw''⟩ := hw'
                              subst hw''
                              have HB2 := Lib.hid (bl_call (below_regrown _ dr ot) HB1.out)
                              have B3 := Lib.hid (bl_call (HB2.out.mono (Nat.le_refl _)) BW.out)
                              have R3 := Lib.hid (row_belowPoint RW.out GW HB2.out)
                              have I3 := Lib.hid (rowI_below RI.out GI HB2.out)
                              have G3 := Nat.lt_of_lt_of_le GW HB2.out.size
                              have H3 := Nat.lt_of_lt_of_le GI HB2.out.size
                              clear m0 m1 m2 m3
                              go_wp2
                              go_roundg (L.length - (kk + 1))
                              case measure => omega
                              case rel => exact ⟨kk + 1, by omega, by omega, by rw [ES], by go_num, B3.out, R3.out, I3.out, G3, H3⟩
                          · exfalso
                            omega
                      · by_cases d3 : q.1 ≤ p.1
                        · by_cases d4 : q.2 ≤ p.2
                          · exact absurd HDO.out (by rw [doP_yes (p := q) (q := p) (by omega) d3 d4]; decide)
                          · exfalso
                            omega
                        · have i1 : (p.1 == q.1) = false := by first | (simp; done) | (simp; omega) | (simp [*]; done)
                          have i3 : decide (q.1 ≤ p.1) = false := by first | (simp; done) | (simp; omega) | (simp [*]; done)
                          go_wp2
                          refine wp_region_quiet_below (by kernel_rfl) (by kernel_rfl) ?_
                          repeat (go_big_quiet_step (fail))
                          refine wpQuiet_nil ?_
                          intro _ hw'
                          obtain ⟨⟨dr, ot⟩, hw''⟩ := hw'
                          subst hw''
                          have HB2 := Lib.hid (bl_call (below_regrown _ dr ot) HB1.out)
                          have B3 := Lib.hid (bl_call (HB2.out.mono (Nat.le_refl _)) BW.out)
                          have R3 := Lib.hid (row_belowPoint RW.out GW HB2.out)
                          have I3 := Lib.hid (rowI_below RI.out GI HB2.out)
                          have G3 := Nat.lt_of_lt_of_le GW HB2.out.size
                          have H3 := Nat.lt_of_lt_of_le GI HB2.out.size
                          clear m0 m1 m2 m3
                          go_wp2
                          go_roundg (L.length - (kk + 1))
                          case measure => omega
                          case rel => exact ⟨kk + 1, by omega, by omega, by rw [ES], by go_num, B3.out, R3.out, I3.out, G3, H3⟩
                    · have i5 : decide (p.1 ≤ q.1) = true := by first | (simp; done) | (simp; omega) | (simp [*]; done)
                      have i6 : decide (p.2 ≤ q.2) = false := by first | (simp; done) | (simp; omega) | (simp [*]; done)
                      rw [i5, i6, Bool.and_false] at ES
                      go_wp2
                      refine wp_region_quiet_below (by kernel_rfl) (by kernel_rfl) ?_
                      repeat (go_big_quiet_step (fail))
                      refine wpQuiet_nil ?_
                      intro _ hw'
                      obtain ⟨⟨dq, osq⟩, hw''⟩ := hw'
                      subst hw''
                      have j0 := k0 dq osq
                      have j1 := k1 dq osq
                      have j2 := k2 dq osq
                      have j3 := k3 dq osq
                      have HB1 := Lib.hid (bl_call (below_regrown _ dq osq) (bl_alloc (Below.refl wr.heap.size wr) (Obj.cells #[.int .i64 q.1, .int .i64 q.2] 30)))
                      clear k0 k1 k2 k3
                      have m0 := cell_regrown j0
                      have m1 := cell_regrown j1
                      have m2 := cell_regrown j2
                      have m3 := cell_regrown j3
                      clear j0 j1 j2 j3
                      by_cases c1 : p.1 = q.1
                      · by_cases c2 : p.2 = q.2
                        · exfalso
                          omega
                        · by_cases d3 : q.1 ≤ p.1
                          · by_cases d4 : q.2 ≤ p.2
                            · exact absurd HDO.out (by rw [doP_yes (p := q) (q := p) (by omega) d3 d4]; decide)
                            · exfalso
                              omega
                          · exfalso
                            omega
                      · by_cases d3 : q.1 ≤ p.1
                        · by_cases d4 : q.2 ≤ p.2
                          · exact absurd HDO.out (by rw [doP_yes (p := q) (q := p) (by omega) d3 d4]; decide)
                          · exfalso
                            omega
                        · have i1 : (p.1 == q.1) = false := by first | (simp; done) | (simp; omega) | (simp [*]; done)
                          have i3 : decide (q.1 ≤ p.1) = false := by first | (simp; done) | (simp; omega) | (simp [*]; done)
                          go_wp2
                          refine wp_region_quiet_below (by kernel_rfl) (by kernel_rfl) ?_
                          repeat (go_big_quiet_step (fail))
                          refine wpQuiet_nil ?_
                          intro _ hw'
                          obtain ⟨⟨dr, ot⟩, hw''⟩ := hw'
                          subst hw''
                          have HB2 := Lib.hid (bl_call (below_regrown _ dr ot) HB1.out)
                          have B3 := Lib.hid (bl_call (HB2.out.mono (Nat.le_refl _)) BW.out)
                          have R3 := Lib.hid (row_belowPoint RW.out GW HB2.out)
                          have I3 := Lib.hid (rowI_below RI.out GI HB2.out)
                          have G3 := Nat.lt_of_lt_of_le GW HB2.out.size
                          have H3 := Nat.lt_of_lt_of_le GI HB2.out.size
                          clear m0 m1 m2 m3
                          go_wp2
                          go_roundg (L.length - (kk + 1))
                          case measure => omega
                          case rel => exact ⟨kk + 1, by omega, by omega, by rw [ES], by go_num, B3.out, R3.out, I3.out, G3, H3⟩
                  · have i5 : decide (p.1 ≤ q.1) = false := by first | (simp; done) | (simp; omega) | (simp [*]; done)
                    rw [i5, Bool.false_and] at ES
                    go_wp2
                    refine wp_region_quiet_below (by kernel_rfl) (by kernel_rfl) ?_
                    repeat (go_big_quiet_step (fail))
                    refine wpQuiet_nil ?_
                    intro _ hw'
                    obtain ⟨⟨dq, osq⟩, hw''⟩ := hw'
                    subst hw''
                    have j0 := k0 dq osq
                    have j1 := k1 dq osq
                    have j2 := k2 dq osq
                    have j3 := k3 dq osq
                    have HB1 := Lib.hid (bl_call (below_regrown _ dq osq) (bl_alloc (Below.refl wr.heap.size wr) (Obj.cells #[.int .i64 q.1, .int .i64 q.2] 30)))
                    clear k0 k1 k2 k3
                    have m0 := cell_regrown j0
                    have m1 := cell_regrown j1
                    have m2 := cell_regrown j2
                    have m3 := cell_regrown j3
                    clear j0 j1 j2 j3
                    by_cases c1 : p.1 = q.1
                    · by_cases c2 : p.2 = q.2
                      · exfalso
                        omega
                      · by_cases d3 : q.1 ≤ p.1
                        · by_cases d4 : q.2 ≤ p.2
                          · exact absurd HDO.out (by rw [doP_yes (p := q) (q := p) (by omega) d3 d4]; decide)
                          · exfalso
                            omega
                        · exfalso
                          omega
                    · by_cases d3 : q.1 ≤ p.1
                      · by_cases d4 : q.2 ≤ p.2
                        · exact absurd HDO.out (by rw [doP_yes (p := q) (q := p) (by omega) d3 d4]; decide)
                        · have i1 : (p.1 == q.1) = false := by first | (simp; done) | (simp; omega) | (simp [*]; done)
                          have i3 : decide (q.1 ≤ p.1) = true := by first | (simp; done) | (simp; omega) | (simp [*]; done)
                          have i4 : decide (q.2 ≤ p.2) = false := by first | (simp; done) | (simp; omega) | (simp [*]; done)
                          go_wp2
                          refine wp_region_quiet_below (by kernel_rfl) (by kernel_rfl) ?_
                          repeat (go_big_quiet_step (fail))
                          refine wpQuiet_nil ?_
                          intro _ hw'
                          obtain ⟨⟨dr, ot⟩, hw''⟩ := hw'
                          subst hw''
                          have HB2 := Lib.hid (bl_call (below_regrown _ dr ot) HB1.out)
                          have B3 := Lib.hid (bl_call (HB2.out.mono (Nat.le_refl _)) BW.out)
                          have R3 := Lib.hid (row_belowPoint RW.out GW HB2.out)
                          have I3 := Lib.hid (rowI_below RI.out GI HB2.out)
                          have G3 := Nat.lt_of_lt_of_le GW HB2.out.size
                          have H3 := Nat.lt_of_lt_of_le GI HB2.out.size
                          clear m0 m1 m2 m3
                          go_wp2
                          go_roundg (L.length - (kk + 1))
                          case measure => omega
                          case rel => exact ⟨kk + 1, by omega, by omega, by rw [ES], by go_num, B3.out, R3.out, I3.out, G3, H3⟩
                      · exfalso
                        omega

              · have hlkz : ¬ (kk : Int) < (L.length : Int) := by omega
                obtain rfl : kk = L.length := by omega
                rw [HA.out]
                go_wp2
                go_roundg (zs.length - (ii + 1))
                case measure => omega
                case rel => exact ⟨ii + 1, by omega, by omega, by go_num, BW.out, RW.out, RI.out, GW, GI⟩

          · have hltz : ¬ (ii : Int) < (zs.length : Int) := by omega
            go_wp2
            go_ret
            exact ⟨rfl, BW.out⟩

  · have hnz : (1048576 : Int) < (n : Int) := by omega
    go_enter Try.func4, Try.ntmps4
    go_wp2
    go_ret
    exact ⟨rfl, Below.refl _ _⟩

set_option maxRecDepth 100000 in
theorem lifted (os : Os) (started : os.Started) (H : Type) (enc : TypeId × Value → H) :
    ReturnsInHanded {} Try.checked os 4 .any (Rows.fnMaximaSpec.pre6 enc Try.prog Try.f4 Rows.fnMaximaRow.domain false) (Rows.fnMaximaSpec.post enc Try.prog Try.f4 false true false false) := by
  refine returnsInHanded_of_change (C := Try.checked) own started (by kernel_rfl) Try.func4
    (ChangeSpec.witness6 (enc := enc) (C := Try.checked) false ⟨#[], #[.slice none 0 0], []⟩ 8 (by kernel_rfl) (by kernel_rfl) (by kernel_rfl) (by kernel_rfl)) ?_
  intro W base args ds gs before hval0 hW hcnd _
  have hval : ∀ (j : Nat) t v, Try.f4.params[j]? = some t → args[j]? = some v → Value.okWide Try.prog W .any base t v := hval0
  have hW' := hW
  obtain ⟨p, q, hA0, hV, rfl, hfz, hnd⟩ := hW
  have hA : DataW.TrodAll enc Try.prog W 0 (fun _ => true) true Try.f4.params.toList args.toList ds p := hA0
  rw [Try.params4] at hA hval
  obtain ⟨v0, vs0, d0, ds0, p0, q0, hargs, rfl, rfl, h0, r0⟩ := trodAll_cons hA
  obtain ⟨rfl, rfl, rfl⟩ := trodAll_nil r0
  obtain rfl : args = #[v0] := by cases args; simp_all
  obtain ⟨rfl, rfl⟩ := trodVars_none hV
  have k0 := h0
  have lt0 : ∀ x ∈ p0, x.block < W.heap.size := by obtain ⟨m, hm⟩ := k0; exact DataW.trod_lt m _ _ _ hm
  obtain ⟨a0, n0, c0, rfl⟩ := okWide_slice Try.underlying22 (hval 0 22 v0 rfl rfl)
  obtain ⟨hs0, hl0, hm0⟩ := open_bytes Try.underlying22 Try.underlying5 (by kernel_rfl) h0
  clear hA0 hval0
  refine (walk a0 n0 c0 W hs0 hl0 hm0).mono fun e W' ⟨he, bel⟩ => ?_
  subst he
  exact ⟨_, rfl, _, _, _, [], _, [], hW', trodAll_mk1 (shut_bool Try.underlying4 _), (trodAll_cons_mk (Below.trod laidOut (by kernel_rfl) (of_decide_eq_true (by kernel_rfl)) k0 bel lt0) trodAll_mk0), rfl, bel.frame _, fun h => by cases h⟩

theorem proved : Rows.FnMaximaSaid :=
  OpenClaim.holds_of_wide 4 Try.f4 rfl rfl rfl rfl rfl rfl rfl ⟨rfl, rfl, rfl, rfl, rfl⟩ rfl rfl rfl rfl rfl (by kernel_rfl) Try.func4 (by kernel_rfl)
    (of_decide_eq_true (by kernel_rfl)) (by unfold Func.isWrapper; first | (rw [if_pos (by decide +kernel)]; kernel_rfl) | (rw [if_neg (by decide +kernel)]; exact ⟨rfl, rfl⟩))
    (fun os started H enc _ => lifted os started H enc)

end FnMaxima

end Go.Proofs.Ytbfeaiaoelkggaa
