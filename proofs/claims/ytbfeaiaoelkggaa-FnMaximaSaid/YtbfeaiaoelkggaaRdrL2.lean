/- What the draws of lists yield. -/
import Derived.Test.YtbfeaiaoelkggaaRdrL1
namespace Go.Proofs.Ytbfeaiaoelkggaa
open Go.RowKit
set_option linter.unusedVariables false

set_option maxHeartbeats 4000000 in
theorem rdr_anyPoints (B R : Nat) (a : Option Addr) (n c p : Nat) (w : World) (h : Rdr w B R a n c p) (hp1 : p ≤ 40000) :
    Calls Try.prog 31 #[.pointer (some ⟨R, 0, none⟩), .int .i64 8] w (RPts B R a n c (p + 70) 21 w) := by
  obtain ⟨ti, hi, hz0, hz1, hz2⟩ := info_parts infPoint
  have hR := h.lt
  have hBR := h.bR
  go_enter Try.func31, Try.ntmps31
  go_wp2_with fail
  refine (rdr_randomPoints B R a n c p _ (by (repeat (first | with_reducible assumption | with_reducible refine Rdr.alloc ?_ _ | with_reducible refine Rdr.below ?_ (by with_reducible assumption) | with_reducible refine Rdr.drew ?_ | with_reducible refine Rdr.drewN ?_ _ | with_reducible refine Rdr.set ?_ (by dsimp only; omega) (by dsimp only; omega) _))) (by omega)).mono ?_
  rintro e w1 ⟨g, cap, q, zs, rfl, hown, hl8, hq, rd1, b1⟩
  have s1 := b1.size
  have hgw := (hown.lt _ rfl).1
  obtain ⟨l, hl⟩ : ∃ l, zs.length = l := ⟨_, rfl⟩
  rw [hl] at hown hl8 ⊢
  have HL := Lib.hid hl
  have HO := Lib.hid hown
  have HB := Lib.hid b1
  have HD := Lib.hid rd1
  clear hl hown b1 rd1 h
  by_cases hz : 0 < l
  · have hltz : (0 : Int) < (l : Int) := by omega
    go_wp2_with fail
    refine (rdr_pick B R a n c q 20 _ HD.out (by omega) (by omega) (by omega)).mono ?_
    rintro e w2 ⟨v2, rfl, lv2, uv2, rd2, b2⟩
    have s2 := b2.size
    have HO2 := Lib.hid (own_but HO.out b2 (by omega))
    have HB2 := Lib.hid (HB.out.trans b2)
    have HD2 := Lib.hid rd2
    clear rd2 b2 HO HB HD
    by_cases e0 : v2 = 0
    · have i0 : (v2 == 0) = true := by simp [e0]
      clear e0
      go_wp2_with fail
      refine (rdr_pick B R a n c (q + 1) (l : Int) _ HD2.out (by omega) (by omega) (by omega)).mono ?_
      rintro e w3 ⟨v3, rfl, lv3, uv3, rd3, b3⟩
      have s3 := b3.size
      have HO3 := Lib.hid (own_but HO2.out b3 (by omega))
      have HB3 := Lib.hid (HB2.out.trans b3)
      have HD3 := Lib.hid rd3
      clear rd3 b3 HO2 HB2 HD2
      obtain ⟨kk, rfl⟩ : ∃ m : Nat, v3 = (m : Int) := ⟨v3.toNat, by omega⟩
      have FF := own_freePoint HO3.out
      obtain ⟨⟨u0, d0⟩, f0⟩ := FF (kk * 2) (by omega)
      obtain ⟨⟨u1, d1⟩, f1⟩ := FF (kk * 2 + 1) (by omega)
      obtain ⟨j0, j1, j2, j3⟩ := own_rowPoint HO3.out
      have HP := Lib.hid (row_putPoint (x := (1001, 0)) (show kk < l by omega) j0 FF j3)
      clear FF j0 j3
      go_wp2
      go_ret
      exact ⟨g, cap, q + 1 + 1, zs.set kk (1001, 0), by rw [List.length_set, HL.out]; rfl, by omega, by simpa [World.setCell] using j2, HP.out.1, by rw [List.length_set, HL.out]; omega, by omega, Rdr.set (Rdr.set HD3.out (by dsimp only; omega) (by dsimp only; omega) _) (by dsimp only; omega) (by dsimp only; omega) _, But.set (But.set HB3.out (Or.inr (by dsimp only; omega)) _) (Or.inr (by dsimp only; omega)) _⟩
    · have i0 : (v2 == 0) = false := by simp [e0]
      by_cases e1 : v2 = 1
      · have i1 : (v2 == 1) = true := by simp [e1]
        clear e0 e1
        go_wp2
        go_loopg [5] 21 (fun gg s5 wr => ∃ (l g cap q : Nat) (zs : List (Int × Int)), 21 - l ≤ gg ∧ s5 = .slice (some ⟨g, 0, none⟩) l cap ∧ Aside (zs.length = l) ∧ l ≤ 21 ∧ q ≤ p + 19 + 2 * l ∧ w.heap.size ≤ g ∧ Aside (wr.ownsRow w.heap.size 30 2 (.slice (some ⟨g, 0, none⟩) l cap) l (flatPoint zs)) ∧ Aside (Rdr wr B R a n c q) ∧ Aside (But R w wr) ∧ w.heap.size ≤ wr.heap.size)
        case atStart => exact ⟨l, g, cap, q + 1, zs, by omega, rfl, HL.out, by omega, by omega, hgw, HO2.out, HD2.out, HB2.out, by omega⟩
        case round =>
          clear HL HO2 HB2 HD2 hgw hl8 hq hltz hz uv2 lv2 i0 i1
          obtain ⟨l, g, cap, q, zs, hg, rfl, HL, hl21, hq, hgw, HO, HD, HB, SW⟩ := hrel
          by_cases hlt : l < 21
          · have hltz : (l : Int) < 21 := by omega
            go_wp2_with fail
            refine (rdr_randomPoint B R a n c q _ HD.out (by omega)).mono ?_
            rintro e w1 ⟨x, y, q1, rfl, ⟨lx, ux⟩, ⟨ly, uy⟩, hq1, rd1, b1⟩
            have s1 := b1.size
            have HO1 := Lib.hid (own_but HO.out b1 (by omega))
            have HB1 := Lib.hid (HB.out.trans b1)
            have HD1 := Lib.hid rd1
            clear rd1 b1
            go_wp2_with (at_builtin; refine wpList_append_lies _ rfl _ _ 31 rfl w.heap.size 30 ti (Value.agg #[.int .i64 0, .int .i64 0]) 2 16 Try.underlying31 hi hz0 hz1 hz2 rfl (by decide) (.slice (some ⟨g, 0, none⟩) l cap) l (flatPoint zs) rfl (by repeat (first | with_reducible exact HO1.out | with_reducible refine World.ownsRow.alloc ?_ _ | with_reducible refine ownsRow_setCell_other ?_ (by simp [Value.ownBlock]; omega) _)) ⟨_, 0, none⟩ 1 1 [.int .i64 (x), .int .i64 (y)] rfl rfl (World.news_of_block (new_at (by first | rfl | (simp; done)))) (one_cellPoint (x, y)) (by omega) (by unfold maxLen; omega) (by omega) (by first | omega | (simp; omega)) _ rfl ?_; intro g2 cap2 w2 hown2 hgrow2 hat2 hlt2)
            have BB : Hid (But R w w2) := Lib.hid (by
              refine but_grown ?_ hgrow2 (fun k hk => ?_)
              · repeat (first | with_reducible exact HB1.out | with_reducible refine But.alloc ?_ _ | with_reducible refine But.set ?_ (Or.inr (by dsimp only; omega)) _)
              · obtain rfl : g = k := by simpa [Value.ownBlock] using hk
                exact .inr hgw)
            have DD : Hid (Rdr w2 B R a n c (q1)) := Lib.hid (by
              refine rdr_grown ?_ hgrow2 (fun k hk => ?_)
              · repeat (first | with_reducible exact HD1.out | with_reducible refine Rdr.alloc ?_ _ | with_reducible refine Rdr.set ?_ (by dsimp only; omega) (by dsimp only; omega) _)
              · obtain rfl : g = k := by simpa [Value.ownBlock] using hk
                constructor <;> omega)
            have hg2 := (hown2.lt _ rfl).1
            rw [show flatPoint zs ++ [.int .i64 x, .int .i64 y] = flatPoint (zs ++ [(x, y)]) from (flatPoint_snoc zs (x, y)).symm] at hown2
            have HO2 := Lib.hid hown2
            have SZ := BB.out.size
            clear hown2 hgrow2
            go_roundg (21 - (l + 1))
            case measure => omega
            case rel => exact ⟨l + 1, g2, cap2, q1, zs ++ [(x, y)], Nat.le_refl _, rfl, by rw [← HL.out]; show (zs ++ [_]).length = _; simp, by omega, by omega, hg2, HO2.out, DD.out, BB.out, SZ⟩

          · have hltz : ¬ (l : Int) < 21 := by omega
            go_wp2
            go_ret
            have hO := HO.out
            have hl := HL.out
            subst hl
            obtain ⟨-, j1, j2, j3⟩ := own_rowPoint hO
            exact ⟨g, cap, q, zs, rfl, j1, j2, j3, by omega, by omega, HD.out, HB.out⟩
      · have i1 : (v2 == 1) = false := by simp [e1]
        go_wp2
        go_ret
        have hO := HO2.out
        have hl := HL.out
        subst hl
        obtain ⟨-, j1, j2, j3⟩ := own_rowPoint hO
        exact ⟨g, cap, q + 1, zs, rfl, j1, j2, j3, by omega, by omega, HD2.out, HB2.out⟩
  · have hltz : ¬ (0 : Int) < (l : Int) := by omega
    go_wp2
    go_ret
    have hO := HO.out
    have hl := HL.out
    subst hl
    obtain ⟨-, j1, j2, j3⟩ := own_rowPoint hO
    exact ⟨g, cap, q, zs, rfl, j1, j2, j3, by omega, by omega, HD.out, HB.out⟩

end Go.Proofs.Ytbfeaiaoelkggaa
