/- Contracts of functions that this seat's statements reach: each is shown to compute a plain Lean function, and to leave what was there as it was. No conditions but those in each theorem. -/
import Derived.Test.YtbfeaiaoelkggaaCtnH
import Derived.Test.YtbfeaiaoelkggaaRowsP2
namespace Go.Proofs.Ytbfeaiaoelkggaa
open Go.RowKit
set_option linter.unusedVariables false

def SlOfHalfPlane (w : World) (a : Option Addr) (n : Nat) (zs : List (Int × Int × Int)) : Prop := zs.length = n ∧ (n = 0 ∨ ∃ b off : Nat, a = some ⟨b, off, none⟩ ∧ b < w.heap.size ∧ rowOfHalfPlane w b off zs)
def NewHalfPlane (w : World) (n : Nat) (zs : List (Int × Int × Int)) (e : Ending) (w' : World) : Prop := ∃ b : Nat, e = .returned (.slice (some ⟨b, 0, none⟩) n n) ∧ w.heap.size ≤ b ∧ b < w'.heap.size ∧ rowOfHalfPlane w' b 0 zs ∧ Below w.heap.size w w'
def PreHalfPlane (w : World) (b : Nat) (zs : List (Int × Int × Int)) (kk : Nat) : Prop := ∀ j, j < kk → w.cell? ⟨b, 0 + j * 3, none⟩ = some (.int .i64 zs[j]!.1) ∧ w.cell? ⟨b, 0 + j * 3 + 1, none⟩ = some (.int .i64 zs[j]!.2.1) ∧ w.cell? ⟨b, 0 + j * 3 + 2, none⟩ = some (.int .i64 zs[j]!.2.2)
theorem row_belowHalfPlane {w w' : World} {b off : Nat} {zs : List (Int × Int × Int)} (h : rowOfHalfPlane w b off zs) (hb : b < w.heap.size) (B : Below w.heap.size w w') : rowOfHalfPlane w' b off zs := by
  intro j hj
  simp only [B.cell (p := ⟨b, _, none⟩) hb]
  exact h j hj
theorem sl_belowHalfPlane {w w' : World} {a : Option Addr} {n : Nat} {zs : List (Int × Int × Int)} (h : SlOfHalfPlane w a n zs) (B : Below w.heap.size w w') : SlOfHalfPlane w' a n zs := by
  refine ⟨h.1, ?_⟩
  rcases h.2 with h0 | ⟨b, off, ha, hb, hr⟩
  · exact .inl h0
  · exact .inr ⟨b, off, ha, Nat.lt_of_lt_of_le hb B.size, row_belowHalfPlane hr hb B⟩
theorem pre_belowHalfPlane {w w' : World} {b kk : Nat} {zs : List (Int × Int × Int)} (h : PreHalfPlane w b zs kk) (hb : b < w.heap.size) (B : Below w.heap.size w w') : PreHalfPlane w' b zs kk := by
  intro j hj
  simp only [B.cell (p := ⟨b, _, none⟩) hb]
  exact h j hj
theorem pre_putHalfPlane {w1 : World} {b kk n : Nat} {zs : List (Int × Int × Int)} {x : Int × Int × Int} (hk : kk < n) (hx : zs[kk]! = x) (hf : FreeRow w1 b (n * 3)) (hp : PreHalfPlane w1 b zs kk) :
    FreeRow (((w1.setCell ⟨b, kk * 3, none⟩ (.int .i64 x.1)).setCell ⟨b, kk * 3 + 1, none⟩ (.int .i64 x.2.1)).setCell ⟨b, kk * 3 + 2, none⟩ (.int .i64 x.2.2)) b (n * 3) ∧ PreHalfPlane (((w1.setCell ⟨b, kk * 3, none⟩ (.int .i64 x.1)).setCell ⟨b, kk * 3 + 1, none⟩ (.int .i64 x.2.1)).setCell ⟨b, kk * 3 + 2, none⟩ (.int .i64 x.2.2)) b zs (kk + 1) := by
  have f1 := free_set hf (o := kk * 3) (by omega) (.int .i64 x.1)
  have f2 := free_set f1 (o := kk * 3 + 1) (by omega) (.int .i64 x.2.1)
  have f3 := free_set f2 (o := kk * 3 + 2) (by omega) (.int .i64 x.2.2)
  refine ⟨f3, fun j hj => ?_⟩
  have c : ∀ p : Nat, ((((w1.setCell ⟨b, kk * 3, none⟩ (.int .i64 x.1)).setCell ⟨b, kk * 3 + 1, none⟩ (.int .i64 x.2.1)).setCell ⟨b, kk * 3 + 2, none⟩ (.int .i64 x.2.2))).cell? ⟨b, p, none⟩ = if kk * 3 + 2 = p then some (.int .i64 x.2.2) else if kk * 3 + 1 = p then some (.int .i64 x.2.1) else if kk * 3 = p then some (.int .i64 x.1) else w1.cell? ⟨b, p, none⟩ := fun p => by rw [cset _ _ _ _ _ (f2 _ (by omega)).1, cset _ _ _ _ _ (f1 _ (by omega)).1, cset _ _ _ _ _ (hf _ (by omega)).1]
  simp only [c]
  by_cases e : j = kk
  · subst e
    rw [hx]
    refine ⟨?_, ?_, ?_⟩
    · rw [if_neg (by omega), if_neg (by omega), if_pos (by omega)]
    · rw [if_neg (by omega), if_pos (by omega)]
    · rw [if_pos (by omega)]
  · have h := hp j (by omega)
    refine ⟨?_, ?_, ?_⟩
    · rw [if_neg (by omega), if_neg (by omega), if_neg (by omega)]; exact h.1
    · rw [if_neg (by omega), if_neg (by omega), if_neg (by omega)]; exact h.2.1
    · rw [if_neg (by omega), if_neg (by omega), if_neg (by omega)]; exact h.2.2

end Go.Proofs.Ytbfeaiaoelkggaa
