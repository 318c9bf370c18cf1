/- What the draws of lists yield. -/
import Derived.Test.YtbfeaiaoelkggaaRdrL
namespace Go.Proofs.Ytbfeaiaoelkggaa
open Go.RowKit
set_option linter.unusedVariables false

set_option maxHeartbeats 4000000 in
theorem rdr_randomPoints (B R : Nat) (a : Option Addr) (n c p : Nat) (w : World) (h : Rdr w B R a n c p) (hp1 : p ≤ 50000) :
    Calls Try.prog 57 #[.pointer (some ⟨R, 0, none⟩), .int .i64 8] w (ROwn B R a n c (p + 18) 8 w) := by
  obtain ⟨ti, hi, hz0, hz1, hz2⟩ := info_parts infPoint
  have hR := h.lt
  have hBR := h.bR
  go_enter Try.func57, Try.ntmps57
  go_wp2_with fail
  have HOi := Lib.hid (World.ownsRow_made (base := w.heap.size) (e := 30) (size := 2) w #[] 0 (Nat.le_refl _) (by unfold maxLen; omega) rfl)
  refine (rdr_pick B R a n c p 6 _ (by (repeat (first | with_reducible assumption | with_reducible refine Rdr.alloc ?_ _ | with_reducible refine Rdr.below ?_ (by with_reducible assumption) | with_reducible refine Rdr.drew ?_ | with_reducible refine Rdr.drewN ?_ _ | with_reducible refine Rdr.set ?_ (by dsimp only; omega) (by dsimp only; omega) _))) (by omega) (by omega) (by omega)).mono ?_
  rintro e w1 ⟨v1, rfl, lv1, uv1, rd1, b1⟩
  have s1 := b1.size
  try simp at s1
  have HO0 := Lib.hid (own_but HOi.out b1 (by omega))
  go_wp2_with fail
  refine (rdr_pick B R a n c (p + 1) 9 _ (by (repeat (first | with_reducible assumption | with_reducible refine Rdr.alloc ?_ _ | with_reducible refine Rdr.below ?_ (by with_reducible assumption) | with_reducible refine Rdr.drew ?_ | with_reducible refine Rdr.drewN ?_ _ | with_reducible refine Rdr.set ?_ (by dsimp only; omega) (by dsimp only; omega) _))) (by omega) (by omega) (by omega)).mono ?_
  rintro e w2 ⟨v2, rfl, lv2, uv2, rd2, b2⟩
  have s2 := b2.size
  try simp at s2
  have HO1 := Lib.hid (own_but HO0.out b2 (by omega))
  have HB1 := Lib.hid (show But R w w2 by (repeat (first | with_reducible assumption | with_reducible exact But.refl _ _ | with_reducible refine But.alloc ?_ _ | with_reducible refine But.drew ?_ | with_reducible refine But.drewN ?_ _ | with_reducible refine But.set ?_ (Or.inr (by dsimp only; omega)) _ | with_reducible refine But.trans ?_ (by with_reducible assumption) | with_reducible refine But.below ?_ (by with_reducible assumption))))
  have HD1 := Lib.hid rd2
  clear rd1 rd2 b1 b2 HOi HO0 h
  obtain ⟨m0, rfl⟩ : ∃ m : Nat, v2 = (m : Int) := ⟨v2.toNat, by omega⟩
  go_wp2
  go_loopg [5, 7, 8] m0 (fun gg s5 s7 _ wr => ∃ (nn l g cap q : Nat) (zs : List (Int × Int)), nn ≤ gg ∧ s7 = .int .i64 nn ∧ s5 = .slice (some ⟨g, 0, none⟩) l cap ∧ Aside (zs.length = l) ∧ l + nn ≤ 8 ∧ q ≤ p + 2 + 2 * l ∧ w.heap.size ≤ g ∧ Aside (wr.ownsRow w.heap.size 30 2 (.slice (some ⟨g, 0, none⟩) l cap) l (flatPoint zs)) ∧ Aside (Rdr wr B R a n c q) ∧ Aside (But R w wr) ∧ w.heap.size ≤ wr.heap.size)
  case atStart => exact ⟨m0, 0, w.heap.size, 0, p + 1 + 1, [], Nat.le_refl _, rfl, rfl, rfl, by omega, by omega, Nat.le_refl _, HO1.out, HD1.out, HB1.out, by omega⟩
  case round =>
    obtain ⟨nn, l, g, cap, q, zs, hg, rfl, rfl, HL, hl8, hq, hgw, HO, HD, HB, SW⟩ := hrel
    clear HO1 HB1 HD1
    by_cases hlt : 0 < nn
    · obtain ⟨m, rfl⟩ : ∃ m, nn = m + 1 := ⟨nn - 1, by omega⟩
      have hltz : (0 : Int) < ((m + 1 : Nat) : Int) := by omega
      go_wp2_with fail
      refine (rdr_randomPoint B R a n c q _ (by first | with_reducible exact HD.out | (repeat (first | with_reducible assumption | with_reducible refine Rdr.alloc ?_ _ | with_reducible refine Rdr.below ?_ (by with_reducible assumption) | with_reducible refine Rdr.drew ?_ | with_reducible refine Rdr.drewN ?_ _ | with_reducible refine Rdr.set ?_ (by dsimp only; omega) (by dsimp only; omega) _))) (by omega)).mono ?_
      rintro e w1 ⟨x, y, q1, rfl, ⟨lx, ux⟩, ⟨ly, uy⟩, hq1, rd1, b1⟩
      have s1 := b1.size
      try simp at s1
      have HO1 := Lib.hid (own_but HO.out b1 (by omega))
      have HB1 := Lib.hid (HB.out.trans b1)
      have HD1 := Lib.hid rd1
      clear rd1 b1
      by_cases e0 : v1 = 0
      · have i0 : (v1 == 0) = true := by simp [e0]
        have i1 : (v1 == 1) = false := by simp [e0]
        clear e0
        go_wp2_with (at_builtin; refine wpList_append_lies _ rfl _ _ 31 rfl w.heap.size 30 ti (Value.agg #[.int .i64 0, .int .i64 0]) 2 16 Try.underlying31 hi hz0 hz1 hz2 rfl (by decide) (.slice (some ⟨g, 0, none⟩) l cap) l (flatPoint zs) rfl (by repeat (first | with_reducible exact HO1.out | with_reducible refine World.ownsRow.alloc ?_ _ | with_reducible refine ownsRow_setCell_other ?_ (by simp [Value.ownBlock]; omega) _)) ⟨_, 0, none⟩ 1 1 [.int .i64 (x), .int .i64 (2 * x + 1)] rfl rfl (World.news_of_block (new_at (by first | rfl | (simp; done)))) (one_cellPoint (x, 2 * x + 1)) (by omega) (by unfold maxLen; omega) (by omega) (by first | omega | (simp; omega)) _ rfl ?_; intro g2 cap2 w2 hown2 hgrow2 hat2 hlt2)
        have BB : Hid (But R w w2) := Lib.hid (by
          refine but_grown ?_ hgrow2 (fun k hk => ?_)
          · repeat (first | with_reducible exact HB1.out | with_reducible refine But.alloc ?_ _ | with_reducible refine But.set ?_ (Or.inr (by dsimp only; omega)) _)
          · obtain rfl : g = k := by simpa [Value.ownBlock] using hk
            exact .inr hgw)
        have DD : Hid (Rdr w2 B R a n c q1) := Lib.hid (by
          refine rdr_grown ?_ hgrow2 (fun k hk => ?_)
          · repeat (first | with_reducible exact HD1.out | with_reducible refine Rdr.alloc ?_ _ | with_reducible refine Rdr.set ?_ (by dsimp only; omega) (by dsimp only; omega) _)
          · obtain rfl : g = k := by simpa [Value.ownBlock] using hk
            constructor <;> omega)
        have hg2 := (hown2.lt _ rfl).1
        rw [show flatPoint zs ++ [.int .i64 (x), .int .i64 (2 * x + 1)] = flatPoint (zs ++ [(x, 2 * x + 1)]) from (flatPoint_snoc zs (x, 2 * x + 1)).symm] at hown2
        have HO2 := Lib.hid hown2
        have SZ := BB.out.size
        clear hown2 hgrow2
        go_roundg m
        case measure => omega
        case rel => exact ⟨m, l + 1, g2, cap2, q1, zs ++ [(x, 2 * x + 1)], Nat.le_refl _, by go_num, rfl, by rw [← HL.out]; show (zs ++ [_]).length = _; simp, by omega, by omega, hg2, HO2.out, DD.out, BB.out, SZ⟩

      · have i0 : (v1 == 0) = false := by simp [e0]
        by_cases e1 : v1 = 1
        · have i1 : (v1 == 1) = true := by simp [e1]
          clear e0 e1
          go_wp2_with (at_builtin; refine wpList_append_lies _ rfl _ _ 31 rfl w.heap.size 30 ti (Value.agg #[.int .i64 0, .int .i64 0]) 2 16 Try.underlying31 hi hz0 hz1 hz2 rfl (by decide) (.slice (some ⟨g, 0, none⟩) l cap) l (flatPoint zs) rfl (by repeat (first | with_reducible exact HO1.out | with_reducible refine World.ownsRow.alloc ?_ _ | with_reducible refine ownsRow_setCell_other ?_ (by simp [Value.ownBlock]; omega) _)) ⟨_, 0, none⟩ 1 1 [.int .i64 (x * 100), .int .i64 (y * 37)] rfl rfl (World.news_of_block (new_at (by first | rfl | (simp; done)))) (one_cellPoint (x * 100, y * 37)) (by omega) (by unfold maxLen; omega) (by omega) (by first | omega | (simp; omega)) _ rfl ?_; intro g2 cap2 w2 hown2 hgrow2 hat2 hlt2)
          have BB : Hid (But R w w2) := Lib.hid (by
            refine but_grown ?_ hgrow2 (fun k hk => ?_)
            · repeat (first | with_reducible exact HB1.out | with_reducible refine But.alloc ?_ _ | with_reducible refine But.set ?_ (Or.inr (by dsimp only; omega)) _)
            · obtain rfl : g = k := by simpa [Value.ownBlock] using hk
              exact .inr hgw)
          have DD : Hid (Rdr w2 B R a n c q1) := Lib.hid (by
            refine rdr_grown ?_ hgrow2 (fun k hk => ?_)
            · repeat (first | with_reducible exact HD1.out | with_reducible refine Rdr.alloc ?_ _ | with_reducible refine Rdr.set ?_ (by dsimp only; omega) (by dsimp only; omega) _)
            · obtain rfl : g = k := by simpa [Value.ownBlock] using hk
              constructor <;> omega)
          have hg2 := (hown2.lt _ rfl).1
          rw [show flatPoint zs ++ [.int .i64 (x * 100), .int .i64 (y * 37)] = flatPoint (zs ++ [(x * 100, y * 37)]) from (flatPoint_snoc zs (x * 100, y * 37)).symm] at hown2
          have HO2 := Lib.hid hown2
          have SZ := BB.out.size
          clear hown2 hgrow2
          go_roundg m
          case measure => omega
          case rel => exact ⟨m, l + 1, g2, cap2, q1, zs ++ [(x * 100, y * 37)], Nat.le_refl _, by go_num, rfl, by rw [← HL.out]; show (zs ++ [_]).length = _; simp, by omega, by omega, hg2, HO2.out, DD.out, BB.out, SZ⟩

        · have i1 : (v1 == 1) = false := by simp [e1]
          go_wp2_with (at_builtin; refine wpList_append_lies _ rfl _ _ 31 rfl w.heap.size 30 ti (Value.agg #[.int .i64 0, .int .i64 0]) 2 16 Try.underlying31 hi hz0 hz1 hz2 rfl (by decide) (.slice (some ⟨g, 0, none⟩) l cap) l (flatPoint zs) rfl (by repeat (first | with_reducible exact HO1.out | with_reducible refine World.ownsRow.alloc ?_ _ | with_reducible refine ownsRow_setCell_other ?_ (by simp [Value.ownBlock]; omega) _)) ⟨_, 0, none⟩ 1 1 [.int .i64 (x), .int .i64 (y)] rfl rfl (World.news_of_block (new_at (by first | rfl | (simp; done)))) (one_cellPoint (x, y)) (by omega) (by unfold maxLen; omega) (by omega) (by first | omega | (simp; omega)) _ rfl ?_; intro g2 cap2 w2 hown2 hgrow2 hat2 hlt2)
          have BB : Hid (But R w w2) := Lib.hid (by
            refine but_grown ?_ hgrow2 (fun k hk => ?_)
            · repeat (first | with_reducible exact HB1.out | with_reducible refine But.alloc ?_ _ | with_reducible refine But.set ?_ (Or.inr (by dsimp only; omega)) _)
            · obtain rfl : g = k := by simpa [Value.ownBlock] using hk
              exact .inr hgw)
          have DD : Hid (Rdr w2 B R a n c q1) := Lib.hid (by
            refine rdr_grown ?_ hgrow2 (fun k hk => ?_)
            · repeat (first | with_reducible exact HD1.out | with_reducible refine Rdr.alloc ?_ _ | with_reducible refine Rdr.set ?_ (by dsimp only; omega) (by dsimp only; omega) _)
            · obtain rfl : g = k := by simpa [Value.ownBlock] using hk
              constructor <;> omega)
          have hg2 := (hown2.lt _ rfl).1
          rw [show flatPoint zs ++ [.int .i64 (x), .int .i64 (y)] = flatPoint (zs ++ [(x, y)]) from (flatPoint_snoc zs (x, y)).symm] at hown2
          have HO2 := Lib.hid hown2
          have SZ := BB.out.size
          clear hown2 hgrow2
          go_roundg m
          case measure => omega
          case rel => exact ⟨m, l + 1, g2, cap2, q1, zs ++ [(x, y)], Nat.le_refl _, by go_num, rfl, by rw [← HL.out]; show (zs ++ [_]).length = _; simp, by omega, by omega, hg2, HO2.out, DD.out, BB.out, SZ⟩

    · have hz : nn = 0 := by omega
      subst hz
      go_wp2
      go_ret
      have hl := HL.out
      subst hl
      exact ⟨g, cap, q, zs, rfl, HO.out, by omega, by omega, HD.out, HB.out⟩

end Go.Proofs.Ytbfeaiaoelkggaa
