/- Contracts of functions that this seat's statements reach: each is shown to compute a plain Lean function, and to leave what was there as it was. No conditions but those in each theorem. -/
import Derived.Test.YtbfeaiaoelkggaaOwn
import Derived.Test.YtbfeaiaoelkggaaRowsH2
namespace Go.Proofs.Ytbfeaiaoelkggaa
open Go.RowKit
set_option linter.unusedVariables false

theorem infHalfPlane : (Try.prog.info? 67).map (fun i => (i.zero, i.size, i.bytes)) = some (some (Value.agg #[.int .i64 0, .int .i64 0, .int .i64 0]), 3, 24) := by kernel_rfl
def flatHalfPlane (zs : List (Int × Int × Int)) : List Value := zs.flatMap fun z => [.int .i64 z.1, .int .i64 z.2.1, .int .i64 z.2.2]
theorem flatHalfPlane_len (zs : List (Int × Int × Int)) : (flatHalfPlane zs).length = zs.length * 3 := by
  unfold flatHalfPlane
  induction zs with
  | nil => rfl
  | cons z zs ih => simp only [List.flatMap_cons, List.length_append, ih, List.length_cons, List.length_nil]; omega
theorem flatHalfPlane_snoc (zs : List (Int × Int × Int)) (z : Int × Int × Int) : flatHalfPlane (zs ++ [z]) = flatHalfPlane zs ++ [.int .i64 z.1, .int .i64 z.2.1, .int .i64 z.2.2] := by unfold flatHalfPlane; simp
theorem flatHalfPlane_at : ∀ (zs : List (Int × Int × Int)) (j : Nat), j < zs.length → (flatHalfPlane zs)[j * 3]? = some (.int .i64 zs[j]!.1) ∧ (flatHalfPlane zs)[j * 3 + 1]? = some (.int .i64 zs[j]!.2.1) ∧ (flatHalfPlane zs)[j * 3 + 2]? = some (.int .i64 zs[j]!.2.2)
  | [], j, h => absurd h (Nat.not_lt_zero _)
  | z :: zs, 0, _ => by unfold flatHalfPlane; simp
  | z :: zs, j + 1, h => by
    have ih := flatHalfPlane_at zs j (by simpa using h)
    have e : flatHalfPlane (z :: zs) = [.int .i64 z.1, .int .i64 z.2.1, .int .i64 z.2.2] ++ flatHalfPlane zs := by unfold flatHalfPlane; rw [List.flatMap_cons]
    have ez : (z :: zs)[j + 1]! = zs[j]! := rfl
    rw [e, ez]
    refine ⟨?_, ?_, ?_⟩
    · rw [List.getElem?_append_right (by simp; omega), show (j + 1) * 3 - ([.int .i64 z.1, .int .i64 z.2.1, .int .i64 z.2.2] : List Value).length = j * 3 by simp; omega]; exact ih.1
    · rw [List.getElem?_append_right (by simp; omega), show (j + 1) * 3 + 1 - ([.int .i64 z.1, .int .i64 z.2.1, .int .i64 z.2.2] : List Value).length = j * 3 + 1 by simp; omega]; exact ih.2.1
    · rw [List.getElem?_append_right (by simp; omega), show (j + 1) * 3 + 2 - ([.int .i64 z.1, .int .i64 z.2.1, .int .i64 z.2.2] : List Value).length = j * 3 + 2 by simp; omega]; exact ih.2.2
theorem own_rowHalfPlane {w : World} {base g n cap : Nat} {zs : List (Int × Int × Int)} (h : w.ownsRow base 67 3 (.slice (some ⟨g, 0, none⟩) n cap) n (flatHalfPlane zs)) : zs.length = n ∧ base ≤ g ∧ g < w.heap.size ∧ rowOfHalfPlane w g 0 zs := by
  have hl := h.1
  rw [flatHalfPlane_len] at hl
  obtain ⟨h1, h2⟩ := h.lt g rfl
  refine ⟨by omega, h1, h2, fun j hj => ?_⟩
  have f := flatHalfPlane_at zs j hj
  have c := fun i u (hu : (flatHalfPlane zs)[i]? = some u) => h.cells (g := g) rfl i u hu
  simp only [Addr.add_lit] at c
  exact ⟨c _ _ f.1, c _ _ f.2.1, c _ _ f.2.2⟩
theorem own_freeHalfPlane {w : World} {base g n cap : Nat} {zs : List (Int × Int × Int)} (h : w.ownsRow base 67 3 (.slice (some ⟨g, 0, none⟩) n cap) n (flatHalfPlane zs)) : FreeRow w g (n * 3) := by
  rcases h.2 with ⟨h0, _⟩ | ⟨g', cap', cur, hv, _, hg, hn, _, hs, _⟩
  · cases h0
  · obtain ⟨rfl, rfl⟩ : g = g' ∧ cap = cap' := by simpa using hv
    intro o ho
    have hc : o < cur.size := by rw [hs]; exact Nat.lt_of_lt_of_le ho (Nat.mul_le_mul_right _ hn)
    exact ⟨⟨cur[o], by rw [cell_of_row w g o cur _ _ hg]; simp [hc]⟩, frozen_of_row w g o cur _ hg⟩
theorem row_putHalfPlane {w : World} {b kk n : Nat} {zs : List (Int × Int × Int)} {x : Int × Int × Int} (hk : kk < n) (hz : zs.length = n) (hf : FreeRow w b (n * 3)) (hr : rowOfHalfPlane w b 0 zs) : rowOfHalfPlane (((w.setCell ⟨b, kk * 3, none⟩ (.int .i64 x.1)).setCell ⟨b, kk * 3 + 1, none⟩ (.int .i64 x.2.1)).setCell ⟨b, kk * 3 + 2, none⟩ (.int .i64 x.2.2)) b 0 (zs.set kk x) ∧ FreeRow (((w.setCell ⟨b, kk * 3, none⟩ (.int .i64 x.1)).setCell ⟨b, kk * 3 + 1, none⟩ (.int .i64 x.2.1)).setCell ⟨b, kk * 3 + 2, none⟩ (.int .i64 x.2.2)) b (n * 3) := by
  have f1 := free_set hf (o := kk * 3) (by omega) (.int .i64 x.1)
  have f2 := free_set f1 (o := kk * 3 + 1) (by omega) (.int .i64 x.2.1)
  have f3 := free_set f2 (o := kk * 3 + 2) (by omega) (.int .i64 x.2.2)
  refine ⟨fun j hj => ?_, f3⟩
  rw [List.length_set] at hj
  have c : ∀ p : Nat, ((((w.setCell ⟨b, kk * 3, none⟩ (.int .i64 x.1)).setCell ⟨b, kk * 3 + 1, none⟩ (.int .i64 x.2.1)).setCell ⟨b, kk * 3 + 2, none⟩ (.int .i64 x.2.2))).cell? ⟨b, p, none⟩ = if kk * 3 + 2 = p then some (.int .i64 x.2.2) else if kk * 3 + 1 = p then some (.int .i64 x.2.1) else if kk * 3 = p then some (.int .i64 x.1) else w.cell? ⟨b, p, none⟩ := fun p => by rw [cset _ _ _ _ _ (f2 _ (by omega)).1, cset _ _ _ _ _ (f1 _ (by omega)).1, cset _ _ _ _ _ (hf _ (by omega)).1]
  simp only [c, Nat.zero_add]
  have hj2 : j < (zs.set kk x).length := by rw [List.length_set]; exact hj
  by_cases e : kk = j
  · subst e
    have ez : (zs.set kk x)[kk]! = x := by rw [getElem!_pos (zs.set kk x) kk hj2]; simp
    rw [ez]
    refine ⟨?_, ?_, ?_⟩
    · rw [if_neg (by omega), if_neg (by omega), if_pos (by omega)]
    · rw [if_neg (by omega), if_pos (by omega)]
    · rw [if_pos (by omega)]
  · have ez : (zs.set kk x)[j]! = zs[j]! := by rw [getElem!_pos (zs.set kk x) j hj2, getElem!_pos zs j hj]; simp [e]
    rw [ez]
    have h := hr j hj
    simp only [Nat.zero_add] at h
    refine ⟨?_, ?_, ?_⟩
    · rw [if_neg (by omega), if_neg (by omega), if_neg (by omega)]; exact h.1
    · rw [if_neg (by omega), if_neg (by omega), if_neg (by omega)]; exact h.2.1
    · rw [if_neg (by omega), if_neg (by omega), if_neg (by omega)]; exact h.2.2
theorem one_cellHalfPlane (z : Int × Int × Int) : ∀ u ∈ ([.int .i64 z.1, .int .i64 z.2.1, .int .i64 z.2.2] : List Value), u.oneCell' = true := by
  intro u hu
  simp at hu
  rcases hu with rfl | rfl | rfl <;> rfl

end Go.Proofs.Ytbfeaiaoelkggaa
