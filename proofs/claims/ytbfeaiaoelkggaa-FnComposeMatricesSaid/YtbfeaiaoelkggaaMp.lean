/- Contracts of functions that this seat's statements reach: each is shown to compute a plain Lean function, and to leave what was there as it was. No conditions but those in each theorem. -/
import Derived.Test.YtbfeaiaoelkggaaOwn
import Derived.Test.YtbfeaiaoelkggaaRowsP3
import Derived.Test.YtbfeaiaoelkggaaB5
import Derived.Test.YtbfeaiaoelkggaaPlainMP
import Derived.Test.YtbfeaiaoelkggaaPlainL
import Derived.Test.YtbfeaiaoelkggaaNils
namespace Go.Proofs.Ytbfeaiaoelkggaa
open Go.RowKit
set_option linter.unusedVariables false

set_option maxHeartbeats 4000000 in
theorem impl_MapPoints (b off n c : Nat) (zs : List (Int × Int)) (mA mB mC mD : Int) (w : World) (hn : n ≤ 1048576) (hz : zs.length = n) (hb : b < w.heap.size) (hr : rowOfPoint w b off zs) (qm : matB mA mB mC mD = true) (hv : listB zs = true) :
    Calls Try.prog 10 #[.agg #[.int .i64 mA, .int .i64 mB, .int .i64 mC, .int .i64 mD], .slice (some ⟨b, off, none⟩) n c] w fun e w' => ((listB (zs.map (mpP mA mB mC mD)) = true ∧ ∃ g : Nat, e = .returned (.tuple #[.slice (some ⟨g, 0, none⟩) n n, .bool true]) ∧ w.heap.size ≤ g ∧ g < w'.heap.size ∧ rowOfPoint w' g 0 (zs.map (mpP mA mB mC mD))) ∨ (listB (zs.map (mpP mA mB mC mD)) = false ∧ e = .returned (.tuple #[.slice none 0 0, .bool false]))) ∧ Below w.heap.size w w' := by
  obtain ⟨i0, hi, hz0, hz1, hz2⟩ := info_parts infPoint
  have HL : Hid (∀ W, Below w.heap.size w W → Calls Try.prog 30 #[.slice (some ⟨b, off, none⟩) n c] W fun e w' => e = .returned (.bool true) ∧ Below W.heap.size W w') := Lib.hid (fun W B => by
    have h := impl_listOk b off n c zs W hn hz (Nat.lt_of_lt_of_le hb B.size) (row_belowPoint hr hb B)
    change Calls _ _ _ _ fun e w' => e = .returned (.bool (listB zs)) ∧ Below W.heap.size W w' at h
    rw [hv] at h
    exact h)
  have HM : Hid (∀ W : World, Calls Try.prog 26 #[.agg #[.int .i64 mA, .int .i64 mB, .int .i64 mC, .int .i64 mD]] W fun e w' => e = .returned (.bool true) ∧ Below W.heap.size W w') := Lib.hid fun W => by
    have h := impl_Matrix_valid mA mB mC mD W
    rw [qm] at h
    exact h
  obtain ⟨bA, bB, bC, bD⟩ := matB_true qm
  have hn20 := listB_len hv
  rw [hz] at hn20
  have HZ := Lib.hid hz
  have HR := Lib.hid hr
  have hB := Lib.hid hb
  have HA := Lib.hid hv
  clear hz hr hb hv qm
  go_enter Try.func10, Try.ntmps10
  go_wp2_with (first | (go_at_call 26; refine (HM.out _).mono ?_; rintro e w1 ⟨rfl, hb1⟩; obtain ⟨hc1, hf1⟩ := bcell hb1; have s1 := hb1.size; (try simp at s1); (have z1 : w.heap.size < w1.heap.size := by omega)) | (go_at_call 30; refine (HL.out _ (by (repeat (first | with_reducible exact Below.refl _ _ | with_reducible refine bl_alloc ?_ _ | with_reducible refine bl_drew ?_ | with_reducible refine bl_set ?_ (by first | (simp; done) | (simp; omega)) _ | with_reducible refine bl_call (by assumption) ?_)))).mono ?_; rintro e w2 ⟨rfl, hb2⟩; obtain ⟨hc2, hf2⟩ := bcell hb2; have s2 := hb2.size; (try simp at s2); (have z2 : w.heap.size < w2.heap.size := by omega)) | (at_make; refine wpList_make_own _ rfl _ _ 31 rfl w.heap.size 30 i0 (Value.agg #[.int .i64 0, .int .i64 0]) 2 Try.underlying31 hi hz0 hz1 .i64 .i64 _ n rfl rfl (by first | rfl | omega) (by rw [hz2]; omega) (by unfold maxLen; omega) (by omega) ?_; intro w3 hown0 hgrow0))
  have BW0 : Below w.heap.size w w3 := Below.grown (bl_call hb2 (bl_call hb1 (bl_alloc (Below.refl _ _) _))) hgrow0 (by omega) (fun k hk => by cases hk)
  have m0 : w3.cell? ⟨w.heap.size, 0, none⟩ = some (.int .i64 mA) := hgrow0.cell ((hc2 _ _ (by omega)).trans ((hc1 _ _ (by simp)).trans (by simp [go_sem]))) (by simp)
  have m1 : w3.cell? ⟨w.heap.size, 1, none⟩ = some (.int .i64 mB) := hgrow0.cell ((hc2 _ _ (by omega)).trans ((hc1 _ _ (by simp)).trans (by simp [go_sem]))) (by simp)
  have m2 : w3.cell? ⟨w.heap.size, 2, none⟩ = some (.int .i64 mC) := hgrow0.cell ((hc2 _ _ (by omega)).trans ((hc1 _ _ (by simp)).trans (by simp [go_sem]))) (by simp)
  have m3 : w3.cell? ⟨w.heap.size, 3, none⟩ = some (.int .i64 mD) := hgrow0.cell ((hc2 _ _ (by omega)).trans ((hc1 _ _ (by simp)).trans (by simp [go_sem]))) (by simp)
  have S3 : w.heap.size < w3.heap.size := Nat.lt_of_lt_of_le z2 hgrow0.size
  have HO0 := Lib.hid hown0
  have HB0 := Lib.hid BW0
  have G2 : w2.heap.size < w3.heap.size := (hown0.lt _ rfl).2
  clear hown0 hgrow0 BW0
  go_loopg [6, 8, 22] n (fun gg s6 _ s22 wr => ∃ kk : Nat, kk ≤ n ∧ n - kk ≤ gg ∧ s22 = .int .i64 kk ∧ s6 = .slice (some ⟨w2.heap.size, 0, none⟩) kk n ∧ Aside (wr.ownsRow w.heap.size 30 2 (.slice (some ⟨w2.heap.size, 0, none⟩) kk n) kk (flatPoint ((zs.take kk).map (mpP mA mB mC mD)))) ∧ Aside (Below w.heap.size w wr) ∧ wr.cell? ⟨w.heap.size, 0, none⟩ = some (.int .i64 mA) ∧ wr.cell? ⟨w.heap.size, 1, none⟩ = some (.int .i64 mB) ∧ wr.cell? ⟨w.heap.size, 2, none⟩ = some (.int .i64 mC) ∧ wr.cell? ⟨w.heap.size, 3, none⟩ = some (.int .i64 mD) ∧ w.heap.size < wr.heap.size)
  case atStart => exact ⟨0, Nat.zero_le _, by omega, rfl, rfl, HO0.out, HB0.out, m0, m1, m2, m3, S3⟩
  case round =>
    obtain ⟨kk, hkk, hg, rfl, rfl, HO, BW, X0, X1, X2, X3, XS⟩ := hrel
    by_cases hlt : kk < n
    · have hltz : (kk : Int) < (n : Int) := by omega
      have hlz : kk < zs.length := by rw [HZ.out]; exact hlt
      have l0 := (BW.out.cell (p := ⟨b, off + kk * 2, none⟩) hB.out).trans (HR.out kk hlz).1
      have l1 := (BW.out.cell (p := ⟨b, off + kk * 2 + 1, none⟩) hB.out).trans (HR.out kk hlz).2
      have hp := listB_at HA.out hlz
      have HT : Hid (flatPoint ((zs.take (kk + 1)).map (mpP mA mB mC mD)) = flatPoint ((zs.take kk).map (mpP mA mB mC mD)) ++ [.int .i64 (mm mA mB zs[kk]!.1 zs[kk]!.2), .int .i64 (mm mC mD zs[kk]!.1 zs[kk]!.2)]) := Lib.hid (by rw [take_map_snoc _ _ _ hlz, flatPoint_snoc]; rfl)
      clear hlz
      generalize zs[kk]! = p at l0 l1 hp HT
      go_wp2_with (first | (go_at_call 27; refine (impl_Matrix_times mA mB mC mD p.1 p.2 _ bA bB bC bD hp.1 hp.2).mono ?_; rintro e w4 ⟨rfl, hb4⟩; have y0 := (hb4.cell (p := ⟨w.heap.size, 0, none⟩) (by simp; omega)).trans (calloc X0 _); have y1 := (hb4.cell (p := ⟨w.heap.size, 1, none⟩) (by simp; omega)).trans (calloc X1 _); have y2 := (hb4.cell (p := ⟨w.heap.size, 2, none⟩) (by simp; omega)).trans (calloc X2 _); have y3 := (hb4.cell (p := ⟨w.heap.size, 3, none⟩) (by simp; omega)).trans (calloc X3 _); have s4 := hb4.size; (try simp at s4); have HO4 := Lib.hid (own_below (HO.out.alloc _) hb4); have HB4 := Lib.hid (bl_call hb4 (bl_alloc BW.out _)); clear hb4) | (at_builtin; refine wpList_append_fits _ rfl _ _ 31 rfl w.heap.size 30 i0 2 Try.underlying31 hi hz1 w2.heap.size kk n _ rfl (HO4.out.alloc _) ⟨w4.heap.size, 0, none⟩ 1 1 [.int .i64 (mm mA mB p.1 p.2), .int .i64 (mm mC mD p.1 p.2)] rfl rfl (World.news_of_block (heap_alloc_new w4 _)) (one_cellPoint (mm mA mB p.1 p.2, mm mC mD p.1 p.2)) (by omega) ?_; intro w5 hown5 hgrow5))
      have t0 := hgrow5.cell (calloc y0 _) (by simp; omega)
      have t1 := hgrow5.cell (calloc y1 _) (by simp; omega)
      have t2 := hgrow5.cell (calloc y2 _) (by simp; omega)
      have t3 := hgrow5.cell (calloc y3 _) (by simp; omega)
      have S5 : w.heap.size < w5.heap.size := Nat.lt_of_lt_of_le (by simp; omega) hgrow5.size
      have HB5 := Lib.hid (Below.grown (bl_alloc HB4.out _) hgrow5 (by simp; omega) (fun k hk => by cases hk; omega))
      rw [← HT.out] at hown5
      have HO5 := Lib.hid hown5
      clear hown5 hgrow5 y0 y1 y2 y3 l0 l1
      go_roundg (n - (kk + 1))
      case measure => omega
      case rel => exact ⟨kk + 1, by omega, by omega, by go_num, rfl, HO5.out, HB5.out, t0, t1, t2, t3, S5⟩

    · have hltz : ¬ (kk : Int) < (n : Int) := by omega
      have hkn : kk = n := by omega
      subst hkn
      have hO := HO.out
      rw [List.take_of_length_le (by rw [HZ.out]; exact Nat.le_refl _)] at hO
      obtain ⟨hzl, hg1, hg2, hrow⟩ := own_rowPoint hO
      have HROW := Lib.hid hrow
      clear hO hrow
      have HL2 := Lib.hid (impl_listOk w2.heap.size 0 kk kk (zs.map (mpP mA mB mC mD)) wr hn hzl hg2 HROW.out)
      change Hid (Calls Try.prog 30 #[.slice (some ⟨w2.heap.size, 0, none⟩) kk kk] wr fun e w' => e = .returned (.bool (listB (zs.map (mpP mA mB mC mD)))) ∧ Below wr.heap.size wr w') at HL2
      clear hzl
      cases hq : listB (zs.map (mpP mA mB mC mD)) with
      | true =>
        rw [hq] at HL2
        go_wp2_with (go_at_call 30; refine HL2.out.mono ?_; rintro e w6 ⟨rfl, hb6⟩)
        refine bodyPost_ret (v := .tuple #[.slice (some ⟨w2.heap.size, 0, none⟩) kk kk, .bool true]) (by simp [results, Try.results10, go_sem]) rfl ⟨.inl ⟨hq, w2.heap.size, rfl, by omega, Nat.lt_of_lt_of_le hg2 hb6.size, row_belowPoint HROW.out hg2 hb6⟩, bl_call hb6 BW.out⟩
      | false =>
        rw [hq] at HL2
        go_wp2_with (go_at_call 30; refine HL2.out.mono ?_; rintro e w6 ⟨rfl, hb6⟩)
        refine bodyPost_ret (v := .tuple #[.slice none 0 0, .bool false]) (by simp [results, Try.results10, go_sem]) rfl ⟨.inr ⟨hq, rfl⟩, bl_call hb6 BW.out⟩

theorem impl_MapPoints_nil (mA mB mC mD : Int) (w : World) (qm : matB mA mB mC mD = true) :
    Calls Try.prog 10 #[.agg #[.int .i64 mA, .int .i64 mB, .int .i64 mC, .int .i64 mD], .slice none 0 0] w fun e w' => (∃ g : Nat, e = .returned (.tuple #[.slice (some ⟨g, 0, none⟩) 0 0, .bool true])) ∧ Below w.heap.size w w' := by
  obtain ⟨i0, hi, hz0, hz1, hz2⟩ := info_parts infPoint
  have HM : Hid (∀ W : World, Calls Try.prog 26 #[.agg #[.int .i64 mA, .int .i64 mB, .int .i64 mC, .int .i64 mD]] W fun e w' => e = .returned (.bool true) ∧ Below W.heap.size W w') := Lib.hid fun W => by
    have h := impl_Matrix_valid mA mB mC mD W
    rw [qm] at h
    exact h
  clear qm
  go_enter Try.func10, Try.ntmps10
  go_wp2_with (first | (go_at_call 26; refine (HM.out _).mono ?_; rintro e w1 ⟨rfl, hb1⟩; obtain ⟨hc1, hf1⟩ := bcell hb1; have s1 := hb1.size; (try simp at s1)) | (go_at_call 30; refine (listOk_nil _).mono ?_; rintro e w2 ⟨rfl, hb2⟩; have s2 := hb2.size; (try simp at s2)) | (at_make; refine wpList_make_own _ rfl _ _ 31 rfl w.heap.size 30 i0 (Value.agg #[.int .i64 0, .int .i64 0]) 2 Try.underlying31 hi hz0 hz1 .i64 .i64 _ 0 rfl rfl (by first | rfl | omega) (by rw [hz2]; omega) (by unfold maxLen; omega) (by omega) ?_; intro w3 hown0 hgrow0))
  have BW0 : Below w.heap.size w w3 := Below.grown (bl_call hb2 (bl_call hb1 (bl_alloc (Below.refl _ _) _))) hgrow0 (by omega) (fun k hk => by cases hk)
  have G2 := (hown0.lt _ rfl).2
  clear hown0 hgrow0
  refine wp_loop_rounds 1 ?_
  rw [rounds_succ]
  have HL := Lib.hid (impl_listOk w2.heap.size 0 0 0 [] w3 (by omega) rfl G2 (fun j hj => absurd hj (Nat.not_lt_zero _)))
  go_wp2_with (go_at_call 30; refine HL.out.mono ?_; rintro e w6 ⟨rfl, hb6⟩)
  refine bodyPost_ret (v := .tuple #[.slice (some ⟨w2.heap.size, 0, none⟩) 0 0, .bool true]) (by simp [results, Try.results10, go_sem]) rfl ⟨⟨w2.heap.size, rfl⟩, bl_call hb6 BW0⟩

end Go.Proofs.Ytbfeaiaoelkggaa
