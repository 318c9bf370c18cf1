/- Contracts of functions that this seat's statements reach: each is shown to compute a plain Lean function, and to leave what was there as it was. No conditions but those in each theorem. -/
import Derived.Test.YtbfeaiaoelkggaaRowsH4
namespace Go.Proofs.Ytbfeaiaoelkggaa
open Go.RowKit
set_option linter.unusedVariables false

open Go.Sort

theorem impl_ValidHalves_1 (x : Int) (y : Int) (z : Int) (w : World) :
    Calls Try.prog 50 #[.agg #[.int .i64 x, .int .i64 y, .int .i64 z]] w fun e w' => e = .returned (.bool (!hpB x y z)) ∧ Below w.heap.size w w' := by
  go_enter Try.func50, Try.ntmps50
  go_wp2_with (first | (go_at_call 51; refine (impl_HalfPlane_valid _ _ _ _).mono ?_; rintro e w' ⟨rfl, hb⟩; obtain ⟨hc, hf⟩ := bcell hb; have hz0 : w.heap.size < w'.heap.size := (by ((have := hb.size; try simp at this); omega))))
  all_goals go_ret
  all_goals exact ⟨rfl, (by (repeat (first | with_reducible exact Below.refl _ _ | with_reducible refine bl_alloc ?_ _ | with_reducible refine bl_drew ?_ | with_reducible refine bl_set ?_ (by first | (simp; done) | (simp; omega)) _ | with_reducible refine bl_call (by assumption) ?_)))⟩

theorem impl_ValidHalves (b off n c : Nat) (zs : List (Int × Int × Int)) (w : World) (hn : n ≤ 1048576) (hz : zs.length = n) (hb : b < w.heap.size) (hr : rowOfHalfPlane w b off zs) :
    Calls Try.prog 22 #[.slice (some ⟨b, off, none⟩) n c] w fun e w' => e = .returned (.bool (zs.all (fun z : Int × Int × Int => hpB z.1 z.2.1 z.2.2) && decide (zs.length ≤ 8))) ∧ Below w.heap.size w w' := by
  have hp : predOfHalfPlane 50 #[] (fun z : Int × Int × Int => !hpB z.1 z.2.1 z.2.2) zs w := fun W x _ hW => (impl_ValidHalves_1 x.1 x.2.1 x.2.2 W).mono fun _ _ ⟨he, hw⟩ => ⟨he, bl_call hw hW⟩
  have eg : ∀ args w, (callFunc 50 args).run Try.prog w = .ok (.enter 50 args) w := enters_of Try.func50 (by kernel_rfl) rfl
  have ha : (zs.all (fun z : Int × Int × Int => hpB z.1 z.2.1 z.2.2)) = !(zs.any (fun z : Int × Int × Int => !hpB z.1 z.2.1 z.2.2)) := by rw [List.all_eq_not_any_not]
  rw [ha]
  have HI := Lib.hid (containsFunc_HalfPlane (fun z : Int × Int × Int => !hpB z.1 z.2.1 z.2.2) 50 #[] eg b off n c zs w hp hz (by omega) hb hr)
  clear hp hr ha
  generalize (zs.any (fun z : Int × Int × Int => !hpB z.1 z.2.1 z.2.2)) = r at HI ⊢
  rw [hz]
  clear hz
  by_cases hm : n ≤ 8
  · have hmz : (n : Int) ≤ 8 := by omega
    have hd : (!r && decide (n ≤ 8)) = !r := by simp [hm]
    rw [hd]
    clear hd
    go_enter Try.func22, Try.ntmps22
    go_wp2_with (go_at_call 45; refine HI.out.mono ?_; rintro e w' ⟨rfl, hb'⟩)
    go_ret
    exact ⟨rfl, hb'⟩
  · have hmz : ¬ (n : Int) ≤ 8 := by omega
    have hd : (!r && decide (n ≤ 8)) = false := by simp [hm]
    rw [hd]
    clear hd
    go_enter Try.func22, Try.ntmps22
    go_wp2
    go_ret
    exact ⟨rfl, Below.refl _ _⟩

end Go.Proofs.Ytbfeaiaoelkggaa
