/- Contracts of functions that this seat's statements reach: each is shown to compute a plain Lean function, and to leave what was there as it was. No conditions but those in each theorem. -/
import Derived.Test.YtbfeaiaoelkggaaGn
import Derived.Test.YtbfeaiaoelkggaaRowsP2
import Derived.Deep.AppendLies
import Derived.Laws.MakeOwn
import Derived.OwnWalk
namespace Go.Proofs.Ytbfeaiaoelkggaa
open Go.RowKit
set_option linter.unusedVariables false


theorem grown_below {w w' : World} (b : Below w.heap.size w w') (row : Option Nat) : w.grownBy w' row := ⟨b.os, b.tape, b.output, b.size, fun k hk _ => b.block k hk⟩
theorem grown_but {w w' : World} {R : Nat} (b : But R w w') : w.grownBy w' (some R) := ⟨b.os, b.tape, b.output, b.size, fun k hk hR => b.block k hk (fun e => hR (by rw [e]))⟩
theorem but_grown {w w' : World} {R : Nat} {row : Option Nat} {a : World} (h : But R a w) (g : w.grownBy w' row) (hr : ∀ k, row = some k → k = R ∨ a.heap.size ≤ k) : But R a w' :=
  ⟨g.os.trans h.os, g.tape.trans h.tape, g.output.trans h.output, Nat.le_trans h.size g.size, fun k hk hR => (g.block k (Nat.lt_of_lt_of_le hk h.size) (fun e => by rcases hr k e.symm with h1 | h1 <;> omega)).trans (h.block k hk hR)⟩
theorem own_below {w w' : World} {base : Nat} {e : TypeId} {size : Nat} {v : Value} {n : Nat} {xs : List Value} (h : w.ownsRow base e size v n xs) (b : Below w.heap.size w w') : w'.ownsRow base e size v n xs :=
  h.kept (grown_below b none) (by cases hv : v.ownBlock <;> simp)
theorem own_but {w w' : World} {base R : Nat} {e : TypeId} {size g n cap m : Nat} {xs : List Value} (h : w.ownsRow base e size (.slice (some ⟨g, 0, none⟩) m cap) n xs) (b : But R w w') (hg : ¬ g = R) : w'.ownsRow base e size (.slice (some ⟨g, 0, none⟩) m cap) n xs :=
  h.kept (grown_but b) (.inr (by simp [Value.ownBlock]; exact hg))

theorem infPoint : (Try.prog.info? 30).map (fun i => (i.zero, i.size, i.bytes)) = some (some (Value.agg #[.int .i64 0, .int .i64 0]), 2, 16) := by kernel_rfl
def flatPoint (zs : List (Int × Int)) : List Value := zs.flatMap fun z => [.int .i64 z.1, .int .i64 z.2]
theorem flatPoint_len (zs : List (Int × Int)) : (flatPoint zs).length = zs.length * 2 := by
  unfold flatPoint
  induction zs with
  | nil => rfl
  | cons z zs ih => simp only [List.flatMap_cons, List.length_append, ih, List.length_cons, List.length_nil]; omega
theorem flatPoint_snoc (zs : List (Int × Int)) (z : Int × Int) : flatPoint (zs ++ [z]) = flatPoint zs ++ [.int .i64 z.1, .int .i64 z.2] := by unfold flatPoint; simp
theorem flatPoint_at : ∀ (zs : List (Int × Int)) (j : Nat), j < zs.length → (flatPoint zs)[j * 2]? = some (.int .i64 zs[j]!.1) ∧ (flatPoint zs)[j * 2 + 1]? = some (.int .i64 zs[j]!.2)
  | [], j, h => absurd h (Nat.not_lt_zero _)
  | z :: zs, 0, _ => by unfold flatPoint; simp
  | z :: zs, j + 1, h => by
    have ih := flatPoint_at zs j (by simpa using h)
    have e : flatPoint (z :: zs) = [.int .i64 z.1, .int .i64 z.2] ++ flatPoint zs := by unfold flatPoint; rw [List.flatMap_cons]
    have ez : (z :: zs)[j + 1]! = zs[j]! := rfl
    rw [e, ez]
    refine ⟨?_, ?_⟩
    · rw [List.getElem?_append_right (by simp; omega), show (j + 1) * 2 - ([.int .i64 z.1, .int .i64 z.2] : List Value).length = j * 2 by simp; omega]; exact ih.1
    · rw [List.getElem?_append_right (by simp; omega), show (j + 1) * 2 + 1 - ([.int .i64 z.1, .int .i64 z.2] : List Value).length = j * 2 + 1 by simp; omega]; exact ih.2
theorem own_rowPoint {w : World} {base g n cap : Nat} {zs : List (Int × Int)} (h : w.ownsRow base 30 2 (.slice (some ⟨g, 0, none⟩) n cap) n (flatPoint zs)) : zs.length = n ∧ base ≤ g ∧ g < w.heap.size ∧ rowOfPoint w g 0 zs := by
  have hl := h.1
  rw [flatPoint_len] at hl
  obtain ⟨h1, h2⟩ := h.lt g rfl
  refine ⟨by omega, h1, h2, fun j hj => ?_⟩
  have f := flatPoint_at zs j hj
  have c := fun i u (hu : (flatPoint zs)[i]? = some u) => h.cells (g := g) rfl i u hu
  simp only [Addr.add_lit] at c
  exact ⟨c _ _ f.1, c _ _ f.2⟩
theorem own_freePoint {w : World} {base g n cap : Nat} {zs : List (Int × Int)} (h : w.ownsRow base 30 2 (.slice (some ⟨g, 0, none⟩) n cap) n (flatPoint zs)) : FreeRow w g (n * 2) := by
  rcases h.2 with ⟨h0, _⟩ | ⟨g', cap', cur, hv, _, hg, hn, _, hs, _⟩
  · cases h0
  · obtain ⟨rfl, rfl⟩ : g = g' ∧ cap = cap' := by simpa using hv
    intro o ho
    have hc : o < cur.size := by rw [hs]; exact Nat.lt_of_lt_of_le ho (Nat.mul_le_mul_right _ hn)
    exact ⟨⟨cur[o], by rw [cell_of_row w g o cur _ _ hg]; simp [hc]⟩, frozen_of_row w g o cur _ hg⟩
theorem row_putPoint {w : World} {b kk n : Nat} {zs : List (Int × Int)} {x : Int × Int} (hk : kk < n) (hz : zs.length = n) (hf : FreeRow w b (n * 2)) (hr : rowOfPoint w b 0 zs) : rowOfPoint ((w.setCell ⟨b, kk * 2, none⟩ (.int .i64 x.1)).setCell ⟨b, kk * 2 + 1, none⟩ (.int .i64 x.2)) b 0 (zs.set kk x) ∧ FreeRow ((w.setCell ⟨b, kk * 2, none⟩ (.int .i64 x.1)).setCell ⟨b, kk * 2 + 1, none⟩ (.int .i64 x.2)) b (n * 2) := by
  have f1 := free_set hf (o := kk * 2) (by omega) (.int .i64 x.1)
  have f2 := free_set f1 (o := kk * 2 + 1) (by omega) (.int .i64 x.2)
  refine ⟨fun j hj => ?_, f2⟩
  rw [List.length_set] at hj
  have c : ∀ p : Nat, (((w.setCell ⟨b, kk * 2, none⟩ (.int .i64 x.1)).setCell ⟨b, kk * 2 + 1, none⟩ (.int .i64 x.2))).cell? ⟨b, p, none⟩ = if kk * 2 + 1 = p then some (.int .i64 x.2) else if kk * 2 = p then some (.int .i64 x.1) else w.cell? ⟨b, p, none⟩ := fun p => by rw [cset _ _ _ _ _ (f1 _ (by omega)).1, cset _ _ _ _ _ (hf _ (by omega)).1]
  simp only [c, Nat.zero_add]
  have hj2 : j < (zs.set kk x).length := by rw [List.length_set]; exact hj
  by_cases e : kk = j
  · subst e
    have ez : (zs.set kk x)[kk]! = x := by rw [getElem!_pos (zs.set kk x) kk hj2]; simp
    rw [ez]
    refine ⟨?_, ?_⟩
    · rw [if_neg (by omega), if_pos (by omega)]
    · rw [if_pos (by omega)]
  · have ez : (zs.set kk x)[j]! = zs[j]! := by rw [getElem!_pos (zs.set kk x) j hj2, getElem!_pos zs j hj]; simp [e]
    rw [ez]
    have h := hr j hj
    simp only [Nat.zero_add] at h
    refine ⟨?_, ?_⟩
    · rw [if_neg (by omega), if_neg (by omega)]; exact h.1
    · rw [if_neg (by omega), if_neg (by omega)]; exact h.2
theorem one_cellPoint (z : Int × Int) : ∀ u ∈ ([.int .i64 z.1, .int .i64 z.2] : List Value), u.oneCell' = true := by
  intro u hu
  simp at hu
  rcases hu with rfl | rfl <;> rfl

end Go.Proofs.Ytbfeaiaoelkggaa
