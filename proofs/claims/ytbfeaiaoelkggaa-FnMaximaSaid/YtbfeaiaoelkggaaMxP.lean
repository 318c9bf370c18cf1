/- Contracts of functions that this seat's statements reach: each is shown to compute a plain Lean function, and to leave what was there as it was. No conditions but those in each theorem. -/
import Derived.Test.YtbfeaiaoelkggaaMxA
import Derived.Test.YtbfeaiaoelkggaaMxI
namespace Go.Proofs.Ytbfeaiaoelkggaa
open Go.RowKit
set_option linter.unusedVariables false

set_option maxHeartbeats 2000000 in
theorem impl_picked (P : Int × Int → Bool) (g : Nat) (lb : Array Value) (eg : ∀ args w, (callFunc g args).run Try.prog w = .ok (.enter g args) w) (b off n c : Nat) (zs : List (Int × Int)) (w : World)
    (hp : ∀ (W : World) (x : Int × Int), x ∈ zs → Below w.heap.size w W → Calls Try.prog g (#[.agg #[.int .i64 x.1, .int .i64 x.2]] ++ lb) W fun e w' => e = .returned (.bool (P x)) ∧ Below W.heap.size W w') (hn : n ≤ 1048576) (hz : zs.length = n) (hb : b < w.heap.size) (hr : rowOfPoint w b off zs) :
    Calls Try.prog 32 #[.slice (some ⟨b, off, none⟩) n c, .func (.func g) #[] lb] w fun e w' => (∃ g : Nat, e = .returned (.slice (some ⟨g, 0, none⟩) (pkK P zs n).length (pkK P zs n).length) ∧ w.heap.size ≤ g ∧ g < w'.heap.size ∧ rowI w' g (pkK P zs n)) ∧ Below w.heap.size w w' := by
  obtain ⟨i0, hi, hz0, hz1, hz2⟩ := info_parts infI
  obtain ⟨RL, hRL⟩ : ∃ r, r = pkK P zs n := ⟨_, rfl⟩
  rw [← hRL]
  have HRL := Lib.hid hRL
  clear hRL
  have HZ := Lib.hid hz
  have HR := Lib.hid hr
  have hB := Lib.hid hb
  have HP := Lib.hid hp
  clear hz hr hb hp
  go_enter Try.func32, Try.ntmps32
  go_wp2_with (at_make; refine wpList_make_own _ rfl _ _ 37 rfl w.heap.size 3 i0 (.int .i64 0) 1 Try.underlying37 hi hz0 hz1 .i64 .i64 _ n rfl rfl (by first | rfl | omega) (by rw [hz2]; omega) (by unfold maxLen; omega) (by omega) ?_; intro w3 hown0 hgrow0)
  have BW0 : Below w.heap.size w w3 := Below.grown (Below.refl _ _) hgrow0 (by omega) (fun k hk => by cases hk)
  have HO0 := Lib.hid hown0
  have HB0 := Lib.hid BW0
  have S3 := BW0.size
  have G0 := (hown0.lt _ rfl).2
  clear hown0 hgrow0 BW0
  go_loopg [5, 6, 7, 13] n (fun gg s5 _ _ s13 wr => ∃ (kk l : Nat) (L : List Nat), kk ≤ n ∧ n - kk ≤ gg ∧ l ≤ kk ∧ Aside (pkK P zs kk = L) ∧ Aside (L.length = l) ∧ s13 = .int .i64 kk ∧ s5 = .slice (some ⟨w.heap.size, 0, none⟩) l n ∧ Aside (wr.ownsRow w.heap.size 3 1 (.slice (some ⟨w.heap.size, 0, none⟩) l n) l (flatI L)) ∧ Aside (Below w.heap.size w wr) ∧ w.heap.size < wr.heap.size)
  case atStart => exact ⟨0, 0, [], Nat.zero_le _, by omega, by omega, pkK_zero _ _, rfl, rfl, rfl, HO0.out, HB0.out, G0⟩
  case round =>
    clear HO0 HB0 S3 G0
    obtain ⟨kk, l, L, hkk, hg, hl, HK, HL, rfl, rfl, HO, BW, SW⟩ := hrel
    by_cases hlt : kk < n
    · have hltz : (kk : Int) < (n : Int) := by omega
      have hlz : kk < zs.length := by rw [HZ.out]; exact hlt
      have l0 := (BW.out.cell (p := ⟨b, off + kk * 2, none⟩) hB.out).trans (HR.out kk hlz).1
      have l1 := (BW.out.cell (p := ⟨b, off + kk * 2 + 1, none⟩) hB.out).trans (HR.out kk hlz).2
      have HC0 := Lib.hid (fun W (hW : Below w.heap.size w W) => HP.out W zs[kk]! (by rw [getElem!_pos zs kk hlz]; exact List.getElem_mem _) hW)
      have HY : Hid (P zs[kk]! = true → pkK P zs (kk + 1) = L ++ [kk]) := Lib.hid fun h => by rw [pkK_yes h, HK.out]
      have HN : Hid (P zs[kk]! = false → pkK P zs (kk + 1) = L) := Lib.hid fun h => by rw [pkK_no h, HK.out]
      clear hlz
      generalize zs[kk]! = p at l0 l1 HC0 HY HN
      generalize P p = v at HC0 HY HN
      cases v with
      | true =>
        have HT := HY.out rfl
        go_wp2_with (first | (go_at_fn g; refine (HC0.out _ (bl_alloc BW.out _)).mono ?_; rintro e w4 ⟨rfl, hb4⟩; have s4 := hb4.size; (try simp at s4); have HO4 := Lib.hid (own_below (HO.out.alloc _) hb4); have HB4 := Lib.hid (bl_call hb4 (bl_alloc BW.out _)); clear hb4) | (at_builtin; refine wpList_append_fits _ rfl _ _ 37 rfl w.heap.size 3 i0 1 Try.underlying37 hi hz1 w.heap.size l n _ rfl (HO4.out.alloc _) ⟨w4.heap.size, 0, none⟩ 1 1 [.int .i64 (kk : Int)] rfl rfl (World.news_of_block (heap_alloc_new w4 _)) (one_cellI (kk : Int)) (by omega) ?_; intro w5 hown5 hgrow5))
        rw [← flatI_snoc] at hown5
        have HO5 := Lib.hid hown5
        have HB5 := Lib.hid (Below.grown (bl_alloc HB4.out _) hgrow5 (by simp; omega) (fun k hk => by cases hk; omega))
        have S5 := Nat.lt_of_lt_of_le (show w.heap.size < (w4.alloc _).heap.size by simp; omega) hgrow5.size
        clear hown5 hgrow5
        go_roundg (n - (kk + 1))
        case measure => omega
        case rel => exact ⟨kk + 1, l + 1, L ++ [kk], by omega, by omega, by omega, HT, by rw [← HL.out]; show (L ++ [_]).length = _; simp, by go_num, rfl, HO5.out, HB5.out, S5⟩

      | false =>
        have HT := HN.out rfl
        go_wp2_with (first | (go_at_fn g; refine (HC0.out _ (bl_alloc BW.out _)).mono ?_; rintro e w4 ⟨rfl, hb4⟩; have s4 := hb4.size; (try simp at s4); have HO4 := Lib.hid (own_below (HO.out.alloc _) hb4); have HB4 := Lib.hid (bl_call hb4 (bl_alloc BW.out _)); clear hb4))
        go_roundg (n - (kk + 1))
        case measure => omega
        case rel => exact ⟨kk + 1, l, L, by omega, by omega, by omega, HT, HL.out, by go_num, rfl, HO4.out, HB4.out, by omega⟩

    · have hltz : ¬ (kk : Int) < (n : Int) := by omega
      have hkn : kk = n := by omega
      subst hkn
      have e1 : RL = L := HRL.out.trans HK.out
      subst e1
      have lz : (0 : Int) ≤ (l : Int) := by omega
      have lk : (l : Int) ≤ (kk : Int) := by omega
      go_wp2
      go_ret
      have hO := HO.out
      have hl2 := HL.out
      subst hl2
      obtain ⟨-, j1, j2, j3, -⟩ := own_rowI hO
      exact ⟨⟨w.heap.size, rfl, j1, j2, j3⟩, BW.out⟩

end Go.Proofs.Ytbfeaiaoelkggaa
