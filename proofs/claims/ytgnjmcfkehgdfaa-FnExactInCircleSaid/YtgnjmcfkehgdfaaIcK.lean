/- Contracts of functions that this seat's statements reach: each is shown to compute a plain Lean function, and to leave what was there as it was. No conditions but those in each theorem. -/
import Derived.Test.YtgnjmcfkehgdfaaGn
import Derived.Test.YtgnjmcfkehgdfaaCut
namespace Go.Proofs.Ytgnjmcfkehgdfaa
open Go.RowKit
set_option linter.unusedVariables false


/-- A box of two ints in block g, not below block B. -/
def Box2 (B : Nat) (w : World) (g : Nat) (u v : Int) : Prop := B ≤ g ∧ g < w.heap.size ∧ w.cell? ⟨g, 0, none⟩ = some (.int .i64 u) ∧ w.cell? ⟨g, 1, none⟩ = some (.int .i64 v) ∧ w.frozen? ⟨g, 0, none⟩ = false ∧ w.frozen? ⟨g, 1, none⟩ = false
theorem Box2.below {B : Nat} {w w2 : World} {g : Nat} {u v : Int} (h : Box2 B w g u v) (b : Below w.heap.size w w2) : Box2 B w2 g u v :=
  ⟨h.1, Nat.lt_of_lt_of_le h.2.1 b.size, (b.cell (p := ⟨g, 0, none⟩) h.2.1).trans h.2.2.1, (b.cell (p := ⟨g, 1, none⟩) h.2.1).trans h.2.2.2.1, (b.frozen (p := ⟨g, 0, none⟩) h.2.1).trans h.2.2.2.2.1, (b.frozen (p := ⟨g, 1, none⟩) h.2.1).trans h.2.2.2.2.2⟩
theorem Box2.alloc {B : Nat} {w : World} {g : Nat} {u v : Int} (h : Box2 B w g u v) (o : Obj) : Box2 B (w.alloc o) g u v := h.below (bl_alloc (Below.refl _ _) o)
theorem Box2.new {B : Nat} {w : World} (hB : B ≤ w.heap.size) (u v : Int) (t : TypeId) : Box2 B (w.alloc (.cells #[.int .i64 u, .int .i64 v] t)) w.heap.size u v :=
  ⟨hB, by simp, by simp [go_sem], by simp [go_sem], by simp [go_sem], by simp [go_sem]⟩
theorem Box2.own {B : Nat} {w : World} {g : Nat} {u v : Int} (h : Box2 B w g u v) (x y : Int) : Box2 B ((w.setCell ⟨g, 0, none⟩ (.int .i64 x)).setCell ⟨g, 1, none⟩ (.int .i64 y)) g x y := by
  refine ⟨h.1, by simpa [World.setCell] using h.2.1, csetN _ (csetS h.2.2.1 _) (by omega), csetS (csetN _ h.2.2.2.1 (by omega)) _, ?_, ?_⟩
  · rw [World.frozen?_setCell, World.frozen?_setCell]; exact h.2.2.2.2.1
  · rw [World.frozen?_setCell, World.frozen?_setCell]; exact h.2.2.2.2.2
theorem Box2.other {B : Nat} {w : World} {g k : Nat} {u v : Int} (h : Box2 B w g u v) (hk : ¬ k = g) (x y : Value) : Box2 B ((w.setCell ⟨k, 0, none⟩ x).setCell ⟨k, 1, none⟩ y) g u v := by
  refine ⟨h.1, by simpa [World.setCell] using h.2.1, csetO hk (csetO hk h.2.2.1), csetO hk (csetO hk h.2.2.2.1), ?_, ?_⟩
  · rw [World.frozen?_setCell, World.frozen?_setCell]; exact h.2.2.2.2.1
  · rw [World.frozen?_setCell, World.frozen?_setCell]; exact h.2.2.2.2.2
theorem Box2.ne {B : Nat} {w : World} {g : Nat} {u v : Int} (h : Box2 B w g u v) : ¬ g = w.heap.size := Nat.ne_of_lt h.2.1
/-- What is left of a region, by a name. -/
theorem with_any {P : Program} {md : Region.Mode} {ops : Array Oper} {Q : Exit → Act → World → Prop} {S : World → Prop} {fuel : Nat} {listed : Array Bool} {a : Act} {w : World}
    (h : ∀ R : Nat → Array Bool → Act → World → Prop, Hid (R = wpAnyH P md ops Q S) → R fuel listed a w) : wpAnyH P md ops Q S fuel listed a w := h _ rfl

end Go.Proofs.Ytgnjmcfkehgdfaa
