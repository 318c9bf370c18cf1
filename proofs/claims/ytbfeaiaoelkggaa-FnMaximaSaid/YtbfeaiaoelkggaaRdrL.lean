/- What the draws of lists yield. -/
import Derived.Test.YtbfeaiaoelkggaaRdr3
import Derived.Test.YtbfeaiaoelkggaaOwn
namespace Go.Proofs.Ytbfeaiaoelkggaa
open Go.RowKit
set_option linter.unusedVariables false


theorem new_at {w : World} {o : Obj} {H : Nat} (h : w.heap.size = H) : (w.alloc o).heap[H]? = some o := by subst h; exact heap_alloc_new w o
theorem rdr_grown {w w' : World} {B R : Nat} {a : Option Addr} {n c p : Nat} {row : Option Nat} (h : Rdr w B R a n c p) (g : w.grownBy w' row) (hr : ∀ k, row = some k → B ≤ k ∧ ¬ k = R) : Rdr w' B R a n c p := by
  have hne : some R ≠ row := fun e => (hr R e.symm).2 rfl
  refine ⟨Nat.lt_of_lt_of_le h.lt g.size, g.cell h.c0 hne, g.cell h.c1 hne, (World.frozen?_of_block (w := w) (a := ⟨R, 1, none⟩) (g.block R h.lt hne)).trans h.f1, h.le, h.bR, ?_⟩
  rcases h.row with h0 | ⟨b, off, ha, hb, hc⟩
  · exact .inl h0
  · refine .inr ⟨b, off, ha, hb, fun j hj => ?_⟩
    obtain ⟨u, h1, h2, h3⟩ := hc j hj
    exact ⟨u, h1, h2, g.cell h3 (fun e => by have := (hr b e.symm).1; omega)⟩
theorem row_butPoint {w w' : World} {R b off : Nat} {zs : List (Int × Int)} (h : rowOfPoint w b off zs) (hb : b < w.heap.size) (hR : ¬ b = R) (B : But R w w') : rowOfPoint w' b off zs := by
  intro j hj
  simp only [B.cell (p := ⟨b, _, none⟩) hb hR]
  exact h j hj
/-- What a draw of a list of points leaves, the list being the draw's own. -/
def ROwn (B R : Nat) (a : Option Addr) (n c : Nat) (k K : Nat) (w : World) (e : Ending) (w' : World) : Prop := ∃ (g cap q : Nat) (zs : List (Int × Int)), e = .returned (.slice (some ⟨g, 0, none⟩) zs.length cap) ∧ w'.ownsRow w.heap.size 30 2 (.slice (some ⟨g, 0, none⟩) zs.length cap) zs.length (flatPoint zs) ∧ zs.length ≤ K ∧ q ≤ k ∧ Rdr w' B R a n c q ∧ But R w w'
def RPts (B R : Nat) (a : Option Addr) (n c : Nat) (k K : Nat) (w : World) (e : Ending) (w' : World) : Prop := ∃ (g cap q : Nat) (zs : List (Int × Int)), e = .returned (.slice (some ⟨g, 0, none⟩) zs.length cap) ∧ w.heap.size ≤ g ∧ g < w'.heap.size ∧ rowOfPoint w' g 0 zs ∧ zs.length ≤ K ∧ q ≤ k ∧ Rdr w' B R a n c q ∧ But R w w'

end Go.Proofs.Ytbfeaiaoelkggaa
