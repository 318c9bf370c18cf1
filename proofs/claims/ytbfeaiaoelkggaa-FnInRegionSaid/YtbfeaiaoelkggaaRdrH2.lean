/- What the draws of lists yield. -/
import Derived.Test.YtbfeaiaoelkggaaRdrH1
namespace Go.Proofs.Ytbfeaiaoelkggaa
open Go.RowKit
set_option linter.unusedVariables false

set_option maxHeartbeats 8000000 in
theorem rdr_anyHalves (B R : Nat) (a : Option Addr) (n c p : Nat) (w : World) (h : Rdr w B R a n c p) (hp1 : p ≤ 40000) :
    Calls Try.prog 44 #[.pointer (some ⟨R, 0, none⟩)] w (RHps B R a n c (p + 40) 9 w) := by
  obtain ⟨ti, hi, hz0, hz1, hz2⟩ := info_parts infHalfPlane
  have hR := h.lt
  have hBR := h.bR
  go_enter Try.func44, Try.ntmps44
  go_wp2_with fail
  have HOi := Lib.hid (World.ownsRow_made (base := w.heap.size) (e := 67) (size := 3) w #[] 0 (Nat.le_refl _) (by unfold maxLen; omega) rfl)
  refine (rdr_pick B R a n c p 6 _ (by (repeat (first | with_reducible assumption | with_reducible refine Rdr.alloc ?_ _ | with_reducible refine Rdr.below ?_ (by with_reducible assumption) | with_reducible refine Rdr.drew ?_ | with_reducible refine Rdr.drewN ?_ _ | with_reducible refine Rdr.set ?_ (by dsimp only; omega) (by dsimp only; omega) _))) (by omega) (by omega) (by omega)).mono ?_
  rintro e w1 ⟨v1, rfl, lv1, uv1, rd1, b1⟩
  have s1 := b1.size
  try simp at s1
  have HO1 := Lib.hid (own_but HOi.out b1 (by omega))
  have HB1 := Lib.hid (show But R w w1 by (repeat (first | with_reducible assumption | with_reducible exact But.refl _ _ | with_reducible refine But.alloc ?_ _ | with_reducible refine But.drew ?_ | with_reducible refine But.drewN ?_ _ | with_reducible refine But.set ?_ (Or.inr (by dsimp only; omega)) _ | with_reducible refine But.trans ?_ (by with_reducible assumption) | with_reducible refine But.below ?_ (by with_reducible assumption))))
  have HD1 := Lib.hid rd1
  clear rd1 b1 HOi h
  obtain ⟨m0, rfl⟩ : ∃ m : Nat, v1 = (m : Int) := ⟨v1.toNat, by omega⟩
  go_wp2
  go_loopg [3, 4] m0 (fun gg s3 s4 wr => ∃ (nn l g cap q : Nat) (zs : List (Int × Int × Int)), nn ≤ gg ∧ s4 = .int .i64 nn ∧ s3 = .slice (some ⟨g, 0, none⟩) l cap ∧ Aside (zs.length = l) ∧ l + nn ≤ 5 ∧ q ≤ p + 1 + 3 * l ∧ w.heap.size ≤ g ∧ Aside (wr.ownsRow w.heap.size 67 3 (.slice (some ⟨g, 0, none⟩) l cap) l (flatHalfPlane zs)) ∧ Aside (Rdr wr B R a n c q) ∧ Aside (But R w wr) ∧ w.heap.size ≤ wr.heap.size)
  case atStart => exact ⟨m0, 0, w.heap.size, 0, p + 1, [], Nat.le_refl _, rfl, rfl, rfl, by omega, by omega, Nat.le_refl _, HO1.out, HD1.out, HB1.out, by omega⟩
  case round =>
    clear HO1 HB1 HD1
    obtain ⟨nn, l, g, cap, q, zs, hg, rfl, rfl, HL, hl8, hq, hgw, HO, HD, HB, SW⟩ := hrel
    by_cases hlt : 0 < nn
    · obtain ⟨m, rfl⟩ : ∃ m, nn = m + 1 := ⟨nn - 1, by omega⟩
      have hltz : (0 : Int) < ((m + 1 : Nat) : Int) := by omega
      go_wp2_with fail
      refine (rdr_randomHalf B R a n c q _ (by first | with_reducible exact HD.out | (repeat (first | with_reducible assumption | with_reducible refine Rdr.alloc ?_ _ | with_reducible refine Rdr.below ?_ (by with_reducible assumption) | with_reducible refine Rdr.drew ?_ | with_reducible refine Rdr.drewN ?_ _ | with_reducible refine Rdr.set ?_ (by dsimp only; omega) (by dsimp only; omega) _))) (by omega)).mono ?_
      rintro e w1 ⟨x, y, z, q1, rfl, ⟨lx, ux⟩, ⟨ly, uy⟩, ⟨lz, uz⟩, hq1, rd1, b1⟩
      have s1 := b1.size
      try simp at s1
      have HO1 := Lib.hid (own_but HO.out b1 (by omega))
      have HB1 := Lib.hid (HB.out.trans b1)
      have HD1 := Lib.hid rd1
      clear rd1 b1
      go_wp2_with (at_builtin; refine wpList_append_lies _ rfl _ _ 44 rfl w.heap.size 67 ti (Value.agg #[.int .i64 0, .int .i64 0, .int .i64 0]) 3 24 Try.underlying44 hi hz0 hz1 hz2 rfl (by decide) (.slice (some ⟨g, 0, none⟩) l cap) l (flatHalfPlane zs) rfl (by repeat (first | with_reducible exact HO1.out | with_reducible refine World.ownsRow.alloc ?_ _ | with_reducible refine ownsRow_setCell_other ?_ (by simp [Value.ownBlock]; omega) _)) ⟨_, 0, none⟩ 1 1 [.int .i64 (x), .int .i64 (y), .int .i64 (z)] rfl rfl (World.news_of_block (new_at (by first | rfl | (simp; done)))) (one_cellHalfPlane (x, y, z)) (by omega) (by unfold maxLen; omega) (by omega) (by first | omega | (simp; omega)) _ rfl ?_; intro g2 cap2 w2 hown2 hgrow2 hat2 hlt2)
      have BB : Hid (But R w w2) := Lib.hid (by
        refine but_grown ?_ hgrow2 (fun k hk => ?_)
        · repeat (first | with_reducible exact HB1.out | with_reducible refine But.alloc ?_ _ | with_reducible refine But.set ?_ (Or.inr (by dsimp only; omega)) _)
        · obtain rfl : g = k := by simpa [Value.ownBlock] using hk
          exact .inr hgw)
      have DD : Hid (Rdr w2 B R a n c (q1)) := Lib.hid (by
        refine rdr_grown ?_ hgrow2 (fun k hk => ?_)
        · repeat (first | with_reducible exact HD1.out | with_reducible refine Rdr.alloc ?_ _ | with_reducible refine Rdr.set ?_ (by dsimp only; omega) (by dsimp only; omega) _)
        · obtain rfl : g = k := by simpa [Value.ownBlock] using hk
          constructor <;> omega)
      have hg2 := (hown2.lt _ rfl).1
      rw [show flatHalfPlane zs ++ [.int .i64 x, .int .i64 y, .int .i64 z] = flatHalfPlane (zs ++ [(x, y, z)]) from (flatHalfPlane_snoc zs (x, y, z)).symm] at hown2
      have HO2 := Lib.hid hown2
      have SZ := BB.out.size
      clear hown2 hgrow2
      go_roundg m
      case measure => omega
      case rel => exact ⟨m, l + 1, g2, cap2, q1, zs ++ [(x, y, z)], Nat.le_refl _, by go_num, rfl, by rw [← HL.out]; show (zs ++ [_]).length = _; simp, by omega, by omega, hg2, HO2.out, DD.out, BB.out, SZ⟩

    · have hz0n : nn = 0 := by omega
      subst hz0n
      clear hlt hg
      by_cases hz : 0 < l
      · have hltz : (0 : Int) < (l : Int) := by omega
        go_wp2_with fail
        refine (rdr_pick B R a n c q 18 _ (by first | with_reducible exact HD.out | (repeat (first | with_reducible assumption | with_reducible refine Rdr.alloc ?_ _ | with_reducible refine Rdr.below ?_ (by with_reducible assumption) | with_reducible refine Rdr.drew ?_ | with_reducible refine Rdr.drewN ?_ _ | with_reducible refine Rdr.set ?_ (by dsimp only; omega) (by dsimp only; omega) _))) (by omega) (by omega) (by omega)).mono ?_
        rintro e w2 ⟨v2, rfl, lv2, uv2, rd2, b2⟩
        have s2 := b2.size
        have HO2 := Lib.hid (own_but HO.out b2 (by omega))
        have HB2 := Lib.hid (HB.out.trans b2)
        have HD2 := Lib.hid rd2
        clear rd2 b2 HO HB HD
        by_cases e0 : v2 = 0
        · have i0 : (v2 == 0) = true := by simp [e0]
          clear e0
          have FF := own_freeHalfPlane HO2.out
          obtain ⟨⟨u0, d0⟩, f0⟩ := FF 0 (by omega)
          obtain ⟨⟨u1, d1⟩, f1⟩ := FF 1 (by omega)
          obtain ⟨⟨u2, d2⟩, f2⟩ := FF 2 (by omega)
          obtain ⟨j0, j1, j2, j3⟩ := own_rowHalfPlane HO2.out
          have HP := Lib.hid (row_putHalfPlane (x := (0, 0, 1)) hz j0 FF j3)
          clear FF j0 j3
          go_wp2
          go_ret
          exact ⟨g, cap, q + 1, zs.set 0 (0, 0, 1), by rw [List.length_set, HL.out]; rfl, by rw [List.length_set, HL.out]; exact own_cap HO2.out, by omega, by simpa [World.setCell] using j2, HP.out.1, by rw [List.length_set, HL.out]; omega, by omega, (Rdr.set (Rdr.set (Rdr.set HD2.out (by dsimp only; omega) (by dsimp only; omega) _) (by dsimp only; omega) (by dsimp only; omega) _) (by dsimp only; omega) (by dsimp only; omega) _), (But.set (But.set (But.set HB2.out (Or.inr (by dsimp only; omega)) _) (Or.inr (by dsimp only; omega)) _) (Or.inr (by dsimp only; omega)) _)⟩
        · have i0 : (v2 == 0) = false := by simp [e0]
          by_cases e1 : v2 = 1
          · have i1 : (v2 == 1) = true := by simp [e1]
            clear e0 e1
            go_wp2_with fail
            refine (rdr_one B R a n c (q + 1) _ 2 (-4000001) 4000001 _ (by (repeat (first | with_reducible exact HD2.out | with_reducible refine Rdr.alloc ?_ _ | with_reducible refine Rdr.set ?_ (by dsimp only; omega) (by dsimp only; omega) _))) (by omega) (ListOf.mk' _ _ _ _ _ _ (by intro j hj; rcases j with _ | _ | j <;> first | exact ⟨_, by decide, by decide, rfl⟩ | omega)) (by omega) (by omega) (by omega)).mono ?_
            rintro e w3 ⟨v3, q3, rfl, ⟨lv3, uv3⟩, hq3, rd3, b3⟩
            have s3 := b3.size
            try simp at s3
            have HO3 := Lib.hid (own_but (HO2.out.alloc _) b3 (by omega))
            have HB3 := Lib.hid ((HB2.out.alloc _).trans b3)
            have HD3 := Lib.hid rd3
            clear rd3 b3 HO2 HB2 HD2
            have FF := own_freeHalfPlane HO3.out
            obtain ⟨⟨u2, d2⟩, f2⟩ := FF 2 (by omega)
            obtain ⟨j0, j1, j2, j3⟩ := own_rowHalfPlane HO3.out
            have HP := Lib.hid (row_putC v3 hz j0 j3)
            clear FF j0 j3
            go_wp2
            go_ret
            exact ⟨g, cap, q3, zs.set 0 (zs[0]!.1, zs[0]!.2.1, v3), by rw [List.length_set, HL.out]; rfl, by rw [List.length_set, HL.out]; exact own_cap HO3.out, by omega, by simpa [World.setCell] using j2, HP.out, by rw [List.length_set, HL.out]; omega, by omega, Rdr.set HD3.out (by dsimp only; omega) (by dsimp only; omega) _, But.set HB3.out (Or.inr (by dsimp only; omega)) _⟩
          · have i1 : (v2 == 1) = false := by simp [e1]
            by_cases e2 : v2 = 2
            · have i2 : (v2 == 2) = true := by simp [e2]
              clear e0 e1 e2
              go_wp2
              go_loopg [3] 9 (fun gg s3 wr => ∃ (l g cap q : Nat) (zs : List (Int × Int × Int)), 9 - l ≤ gg ∧ s3 = .slice (some ⟨g, 0, none⟩) l cap ∧ Aside (zs.length = l) ∧ l ≤ 9 ∧ q ≤ p + 2 + 3 * l ∧ w.heap.size ≤ g ∧ Aside (wr.ownsRow w.heap.size 67 3 (.slice (some ⟨g, 0, none⟩) l cap) l (flatHalfPlane zs)) ∧ Aside (Rdr wr B R a n c q) ∧ Aside (But R w wr) ∧ w.heap.size ≤ wr.heap.size)
              case atStart => exact ⟨l, g, cap, q + 1, zs, by omega, rfl, HL.out, by omega, by omega, hgw, HO2.out, HD2.out, HB2.out, by omega⟩
              case round =>
                clear HL HO2 HB2 HD2 hgw hl8 hq hltz hz uv2 lv2
                obtain ⟨l, g, cap, q, zs, hg, rfl, HL, hl21, hq, hgw, HO, HD, HB, SW⟩ := hrel
                by_cases hlt : l < 9
                · have hltz : (l : Int) < 9 := by omega
                  go_wp2_with fail
                  refine (rdr_randomHalf B R a n c q _ (by first | with_reducible exact HD.out | (repeat (first | with_reducible assumption | with_reducible refine Rdr.alloc ?_ _ | with_reducible refine Rdr.below ?_ (by with_reducible assumption) | with_reducible refine Rdr.drew ?_ | with_reducible refine Rdr.drewN ?_ _ | with_reducible refine Rdr.set ?_ (by dsimp only; omega) (by dsimp only; omega) _))) (by omega)).mono ?_
                  rintro e w1 ⟨x, y, z, q1, rfl, ⟨lx, ux⟩, ⟨ly, uy⟩, ⟨lz, uz⟩, hq1, rd1, b1⟩
                  have s1 := b1.size
                  try simp at s1
                  have HO1 := Lib.hid (own_but HO.out b1 (by omega))
                  have HB1 := Lib.hid (HB.out.trans b1)
                  have HD1 := Lib.hid rd1
                  clear rd1 b1
                  go_wp2_with (at_builtin; refine wpList_append_lies _ rfl _ _ 44 rfl w.heap.size 67 ti (Value.agg #[.int .i64 0, .int .i64 0, .int .i64 0]) 3 24 Try.underlying44 hi hz0 hz1 hz2 rfl (by decide) (.slice (some ⟨g, 0, none⟩) l cap) l (flatHalfPlane zs) rfl (by repeat (first | with_reducible exact HO1.out | with_reducible refine World.ownsRow.alloc ?_ _ | with_reducible refine ownsRow_setCell_other ?_ (by simp [Value.ownBlock]; omega) _)) ⟨_, 0, none⟩ 1 1 [.int .i64 (x), .int .i64 (y), .int .i64 (z)] rfl rfl (World.news_of_block (new_at (by first | rfl | (simp; done)))) (one_cellHalfPlane (x, y, z)) (by omega) (by unfold maxLen; omega) (by omega) (by first | omega | (simp; omega)) _ rfl ?_; intro g2 cap2 w2 hown2 hgrow2 hat2 hlt2)
                  have BB : Hid (But R w w2) := Lib.hid (by
                    refine but_grown ?_ hgrow2 (fun k hk => ?_)
                    · repeat (first | with_reducible exact HB1.out | with_reducible refine But.alloc ?_ _ | with_reducible refine But.set ?_ (Or.inr (by dsimp only; omega)) _)
                    · obtain rfl : g = k := by simpa [Value.ownBlock] using hk
                      exact .inr hgw)
                  have DD : Hid (Rdr w2 B R a n c (q1)) := Lib.hid (by
                    refine rdr_grown ?_ hgrow2 (fun k hk => ?_)
                    · repeat (first | with_reducible exact HD1.out | with_reducible refine Rdr.alloc ?_ _ | with_reducible refine Rdr.set ?_ (by dsimp only; omega) (by dsimp only; omega) _)
                    · obtain rfl : g = k := by simpa [Value.ownBlock] using hk
                      constructor <;> omega)
                  have hg2 := (hown2.lt _ rfl).1
                  rw [show flatHalfPlane zs ++ [.int .i64 x, .int .i64 y, .int .i64 z] = flatHalfPlane (zs ++ [(x, y, z)]) from (flatHalfPlane_snoc zs (x, y, z)).symm] at hown2
                  have HO2 := Lib.hid hown2
                  have SZ := BB.out.size
                  clear hown2 hgrow2
                  go_roundg (9 - (l + 1))
                  case measure => omega
                  case rel => exact ⟨l + 1, g2, cap2, q1, zs ++ [(x, y, z)], Nat.le_refl _, rfl, by rw [← HL.out]; show (zs ++ [_]).length = _; simp, by omega, by omega, hg2, HO2.out, DD.out, BB.out, SZ⟩

                · have hltz : ¬ (l : Int) < 9 := by omega
                  go_wp2
                  go_ret
                  have hO := HO.out
                  have hl := HL.out
                  subst hl
                  obtain ⟨-, j1, j2, j3⟩ := own_rowHalfPlane hO
                  exact ⟨g, cap, q, zs, rfl, own_cap hO, j1, j2, j3, by omega, by omega, HD.out, HB.out⟩
            · have i2 : (v2 == 2) = false := by simp [e2]
              go_wp2
              go_ret
              have hO := HO2.out
              have hl := HL.out
              subst hl
              obtain ⟨-, j1, j2, j3⟩ := own_rowHalfPlane hO
              exact ⟨g, cap, q + 1, zs, rfl, own_cap hO, j1, j2, j3, by omega, by omega, HD2.out, HB2.out⟩
      · have hltz : ¬ (0 : Int) < (l : Int) := by omega
        go_wp2
        go_ret
        have hO := HO.out
        have hl := HL.out
        subst hl
        obtain ⟨-, j1, j2, j3⟩ := own_rowHalfPlane hO
        exact ⟨g, cap, q, zs, rfl, own_cap hO, j1, j2, j3, by omega, by omega, HD.out, HB.out⟩

end Go.Proofs.Ytbfeaiaoelkggaa
