/- Contracts of functions that this seat's statements reach: each is shown to compute a plain Lean function, and to leave what was there as it was. No conditions but those in each theorem. -/
import Derived.Test.YtbfeaiaoelkggaaCtn
namespace Go.Proofs.Ytbfeaiaoelkggaa
open Go.RowKit
set_option linter.unusedVariables false


def FreeRow (w : World) (b m : Nat) : Prop := ∀ o, o < m → (∃ v, w.cell? ⟨b, o, none⟩ = some v) ∧ w.frozen? ⟨b, o, none⟩ = false
theorem free_below {w w' : World} {b m : Nat} (h : FreeRow w b m) (hb : b < w.heap.size) (B : Below w.heap.size w w') : FreeRow w' b m := fun o ho => by
  rw [B.cell (p := ⟨b, o, none⟩) hb, B.frozen (p := ⟨b, o, none⟩) hb]; exact h o ho
theorem cset (w : World) (b o o' : Nat) (v : Value) (h : ∃ u, w.cell? ⟨b, o, none⟩ = some u) : (w.setCell ⟨b, o, none⟩ v).cell? ⟨b, o', none⟩ = if o = o' then some v else w.cell? ⟨b, o', none⟩ := by
  obtain ⟨u, hu⟩ := h
  by_cases e : o = o'
  · subst e; rw [if_pos rfl]; exact World.cell?_setCell_same (h := hu) ..
  · rw [if_neg e]; exact World.cell?_setCell_other (h := fun h => e (by injection h)) ..
theorem free_set {w : World} {b m : Nat} (h : FreeRow w b m) {o : Nat} (ho : o < m) (v : Value) : FreeRow (w.setCell ⟨b, o, none⟩ v) b m := fun p hp => by
  rw [cset _ _ _ _ _ (h o ho).1, World.frozen?_setCell]
  refine ⟨?_, (h p hp).2⟩
  by_cases e : o = p
  · rw [if_pos e]; exact ⟨_, rfl⟩
  · rw [if_neg e]; exact (h p hp).1
theorem free_alloc (w : World) (C : Array Value) (t : TypeId) (m : Nat) (hm : C.size = m) : FreeRow (w.alloc (.cells C t)) w.heap.size m := fun o ho => by
  have h : o < C.size := by omega
  exact ⟨⟨C[o], by simp [h]⟩, by simp [go_sem]⟩

def SlOfPoint (w : World) (a : Option Addr) (n : Nat) (zs : List (Int × Int)) : Prop := zs.length = n ∧ (n = 0 ∨ ∃ b off : Nat, a = some ⟨b, off, none⟩ ∧ b < w.heap.size ∧ rowOfPoint w b off zs)
def NewPoint (w : World) (n : Nat) (zs : List (Int × Int)) (e : Ending) (w' : World) : Prop := ∃ b : Nat, e = .returned (.slice (some ⟨b, 0, none⟩) n n) ∧ w.heap.size ≤ b ∧ b < w'.heap.size ∧ rowOfPoint w' b 0 zs ∧ Below w.heap.size w w'
def PrePoint (w : World) (b : Nat) (zs : List (Int × Int)) (kk : Nat) : Prop := ∀ j, j < kk → w.cell? ⟨b, 0 + j * 2, none⟩ = some (.int .i64 zs[j]!.1) ∧ w.cell? ⟨b, 0 + j * 2 + 1, none⟩ = some (.int .i64 zs[j]!.2)
theorem row_belowPoint {w w' : World} {b off : Nat} {zs : List (Int × Int)} (h : rowOfPoint w b off zs) (hb : b < w.heap.size) (B : Below w.heap.size w w') : rowOfPoint w' b off zs := by
  intro j hj
  simp only [B.cell (p := ⟨b, _, none⟩) hb]
  exact h j hj
theorem sl_belowPoint {w w' : World} {a : Option Addr} {n : Nat} {zs : List (Int × Int)} (h : SlOfPoint w a n zs) (B : Below w.heap.size w w') : SlOfPoint w' a n zs := by
  refine ⟨h.1, ?_⟩
  rcases h.2 with h0 | ⟨b, off, ha, hb, hr⟩
  · exact .inl h0
  · exact .inr ⟨b, off, ha, Nat.lt_of_lt_of_le hb B.size, row_belowPoint hr hb B⟩
theorem pre_belowPoint {w w' : World} {b kk : Nat} {zs : List (Int × Int)} (h : PrePoint w b zs kk) (hb : b < w.heap.size) (B : Below w.heap.size w w') : PrePoint w' b zs kk := by
  intro j hj
  simp only [B.cell (p := ⟨b, _, none⟩) hb]
  exact h j hj
theorem pre_putPoint {w1 : World} {b kk n : Nat} {zs : List (Int × Int)} {x : Int × Int} (hk : kk < n) (hx : zs[kk]! = x) (hf : FreeRow w1 b (n * 2)) (hp : PrePoint w1 b zs kk) :
    FreeRow ((w1.setCell ⟨b, kk * 2, none⟩ (.int .i64 x.1)).setCell ⟨b, kk * 2 + 1, none⟩ (.int .i64 x.2)) b (n * 2) ∧ PrePoint ((w1.setCell ⟨b, kk * 2, none⟩ (.int .i64 x.1)).setCell ⟨b, kk * 2 + 1, none⟩ (.int .i64 x.2)) b zs (kk + 1) := by
  have f1 := free_set hf (o := kk * 2) (by omega) (.int .i64 x.1)
  have f2 := free_set f1 (o := kk * 2 + 1) (by omega) (.int .i64 x.2)
  refine ⟨f2, fun j hj => ?_⟩
  have c : ∀ p : Nat, (((w1.setCell ⟨b, kk * 2, none⟩ (.int .i64 x.1)).setCell ⟨b, kk * 2 + 1, none⟩ (.int .i64 x.2))).cell? ⟨b, p, none⟩ = if kk * 2 + 1 = p then some (.int .i64 x.2) else if kk * 2 = p then some (.int .i64 x.1) else w1.cell? ⟨b, p, none⟩ := fun p => by rw [cset _ _ _ _ _ (f1 _ (by omega)).1, cset _ _ _ _ _ (hf _ (by omega)).1]
  simp only [c]
  by_cases e : j = kk
  · subst e
    rw [hx]
    refine ⟨?_, ?_⟩
    · rw [if_neg (by omega), if_pos (by omega)]
    · rw [if_pos (by omega)]
  · have h := hp j (by omega)
    refine ⟨?_, ?_⟩
    · rw [if_neg (by omega), if_neg (by omega)]; exact h.1
    · rw [if_neg (by omega), if_neg (by omega)]; exact h.2

end Go.Proofs.Ytbfeaiaoelkggaa
