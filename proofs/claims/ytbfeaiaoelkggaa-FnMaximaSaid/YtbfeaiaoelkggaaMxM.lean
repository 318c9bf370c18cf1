/- Contracts of functions that this seat's statements reach: each is shown to compute a plain Lean function, and to leave what was there as it was. No conditions but those in each theorem. -/
import Derived.Test.YtbfeaiaoelkggaaMxP
namespace Go.Proofs.Ytbfeaiaoelkggaa
open Go.RowKit
set_option linter.unusedVariables false

theorem impl_Maxima_no (b off n c : Nat) (zs : List (Int × Int)) (w : World) (hn : n ≤ 1048576) (hz : zs.length = n) (hb : b < w.heap.size) (hr : rowOfPoint w b off zs) (hv : listB zs = false) :
    Calls Try.prog 13 #[.slice (some ⟨b, off, none⟩) n c] w fun e w' => e = .returned (.slice none 0 0) ∧ Below w.heap.size w w' := by
  have HV : Hid (∀ W, Below w.heap.size w W → Calls Try.prog 30 #[.slice (some ⟨b, off, none⟩) n c] W fun e w' => e = .returned (.bool false) ∧ Below W.heap.size W w') := Lib.hid fun W B => by
    have h := impl_listOk b off n c zs W hn hz (Nat.lt_of_lt_of_le hb B.size) (row_belowPoint hr hb B)
    change Calls _ _ _ _ fun e w' => e = .returned (.bool (listB zs)) ∧ Below W.heap.size W w' at h
    rw [hv] at h
    exact h
  clear hv
  clear hz hr hb
  go_enter Try.func13, Try.ntmps13
  go_wp2_with (go_at_call 30; refine (HV.out _ (by (repeat (first | with_reducible exact Below.refl _ _ | with_reducible refine bl_alloc ?_ _ | with_reducible refine bl_drew ?_ | with_reducible refine bl_set ?_ (by first | (simp; done) | (simp; omega)) _ | with_reducible refine bl_call (by assumption) ?_)))).mono ?_; rintro e w1 ⟨rfl, hb1⟩; obtain ⟨hc1, hf1⟩ := bcell hb1; have s1 := hb1.size; (try simp at s1))
  go_ret
  exact ⟨rfl, (by (repeat (first | with_reducible exact Below.refl _ _ | with_reducible refine bl_alloc ?_ _ | with_reducible refine bl_drew ?_ | with_reducible refine bl_set ?_ (by first | (simp; done) | (simp; omega)) _ | with_reducible refine bl_call (by assumption) ?_)))⟩

set_option maxHeartbeats 1000000 in
theorem impl_Maxima_ok (b off n c : Nat) (zs : List (Int × Int)) (w : World) (hn : n ≤ 1048576) (hz : zs.length = n) (hb : b < w.heap.size) (hr : rowOfPoint w b off zs) (hv : listB zs = true) :
    Calls Try.prog 13 #[.slice (some ⟨b, off, none⟩) n c] w fun e w' => (∃ g : Nat, e = .returned (.slice (some ⟨g, 0, none⟩) (pkK (mxP zs) zs n).length (pkK (mxP zs) zs n).length) ∧ w.heap.size ≤ g ∧ g < w'.heap.size ∧ rowI w' g (pkK (mxP zs) zs n)) ∧ Below w.heap.size w w' := by
  have HV : Hid (∀ W, Below w.heap.size w W → Calls Try.prog 30 #[.slice (some ⟨b, off, none⟩) n c] W fun e w' => e = .returned (.bool true) ∧ Below W.heap.size W w') := Lib.hid fun W B => by
    have h := impl_listOk b off n c zs W hn hz (Nat.lt_of_lt_of_le hb B.size) (row_belowPoint hr hb B)
    change Calls _ _ _ _ fun e w' => e = .returned (.bool (listB zs)) ∧ Below W.heap.size W w' at h
    rw [hv] at h
    exact h
  clear hv
  have HR := Lib.hid hr
  have hB := Lib.hid hb
  have HZ := Lib.hid hz
  clear hr hb hz
  have eg : ∀ args w, (callFunc 33 args).run Try.prog w = .ok (.enter 33 args) w := enters_of Try.func33 (by kernel_rfl) rfl
  have HE := Lib.hid (fun W (B : Below w.heap.size w W) (hP : w.heap.size < W.heap.size) (e0 : W.cell? ⟨w.heap.size, 0, none⟩ = some (.slice (some ⟨b, off, none⟩) n c)) => impl_picked (mxP zs) 33 #[.pointer (some ⟨w.heap.size, 0, none⟩)] eg b off n c zs W (fun W2 q hq hW => impl_Maxima_1 b off n c zs q.1 q.2 w.heap.size W2 hn HZ.out (Nat.lt_of_lt_of_le hB.out (B.trans (hW.mono B.size)).size) (row_belowPoint HR.out hB.out (B.trans (hW.mono B.size))) (Nat.lt_of_lt_of_le hP hW.size) ((hW.cell (p := ⟨w.heap.size, 0, none⟩) hP).trans e0)) hn HZ.out (Nat.lt_of_lt_of_le hB.out B.size) (row_belowPoint HR.out hB.out B))
  clear eg
  generalize pkK (mxP zs) zs n = L at HE ⊢
  go_enter Try.func13, Try.ntmps13
  go_wp2_with (first | (go_at_call 30; refine (HV.out _ (by (repeat (first | with_reducible exact Below.refl _ _ | with_reducible refine bl_alloc ?_ _ | with_reducible refine bl_drew ?_ | with_reducible refine bl_set ?_ (by first | (simp; done) | (simp; omega)) _ | with_reducible refine bl_call (by assumption) ?_)))).mono ?_; rintro e w1 ⟨rfl, hb1⟩; obtain ⟨hc1, hf1⟩ := bcell hb1; have s1 := hb1.size; (try simp at s1)) | (go_at_call 32; refine (HE.out _ (by (repeat (first | with_reducible exact Below.refl _ _ | with_reducible refine bl_alloc ?_ _ | with_reducible refine bl_drew ?_ | with_reducible refine bl_set ?_ (by first | (simp; done) | (simp; omega)) _ | with_reducible refine bl_call (by assumption) ?_))) (by first | omega | (simp; omega)) ((hc1 _ _ (by simp)).trans (by simp [go_sem]))).mono ?_; rintro e w2 ⟨⟨g, rfl, hg1, hg2, hr2⟩, hb2⟩))
  go_ret
  exact ⟨⟨g, rfl, by omega, hg2, hr2⟩, (by (repeat (first | with_reducible exact Below.refl _ _ | with_reducible refine bl_alloc ?_ _ | with_reducible refine bl_drew ?_ | with_reducible refine bl_set ?_ (by first | (simp; done) | (simp; omega)) _ | with_reducible refine bl_call (by assumption) ?_)))⟩

end Go.Proofs.Ytbfeaiaoelkggaa
