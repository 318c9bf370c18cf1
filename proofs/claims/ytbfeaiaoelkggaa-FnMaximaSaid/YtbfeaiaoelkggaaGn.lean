/- Facts on worlds. -/
import Derived.Test.YtbfeaiaoelkggaaBase
namespace Go.Proofs.Ytbfeaiaoelkggaa
open Go.RowKit
set_option linter.unusedVariables false


/-- But for block R all that was there is as it was. -/
structure But (R : Nat) (w w' : World) : Prop where
  os : w'.os = w.os
  tape : w'.tape = w.tape
  output : w'.output = w.output
  size : w.heap.size ≤ w'.heap.size
  block : ∀ k, k < w.heap.size → k ≠ R → w'.heap[k]? = w.heap[k]?
theorem But.refl (R : Nat) (w : World) : But R w w := ⟨rfl, rfl, rfl, Nat.le_refl _, fun _ _ _ => rfl⟩
theorem But.trans {R : Nat} {a b c : World} (h : But R a b) (k : But R b c) : But R a c :=
  ⟨k.os.trans h.os, k.tape.trans h.tape, k.output.trans h.output, Nat.le_trans h.size k.size, fun i hi hR => (k.block i (Nat.lt_of_lt_of_le hi h.size) hR).trans (h.block i hi hR)⟩
theorem But.below {R : Nat} {a b c : World} (h : But R a b) (k : Below b.heap.size b c) : But R a c :=
  ⟨k.os.trans h.os, k.tape.trans h.tape, k.output.trans h.output, Nat.le_trans h.size k.size, fun i hi hR => (k.block i (Nat.lt_of_lt_of_le hi h.size)).trans (h.block i hi hR)⟩
theorem But.drew {R : Nat} {a w : World} (h : But R a w) : But R a w.drew := ⟨h.os, h.tape, h.output, h.size, h.block⟩
theorem But.drewN {R : Nat} {a w : World} (h : But R a w) (n : Nat) : But R a (w.drewN n) := ⟨h.os, h.tape, h.output, h.size, h.block⟩
theorem But.alloc {R : Nat} {a w : World} (h : But R a w) (o : Obj) : But R a (w.alloc o) :=
  h.below ((Below.refl _ _).alloc (Nat.le_refl _) _)
theorem But.set {R : Nat} {a w : World} (h : But R a w) {p : Addr} (hp : p.block = R ∨ a.heap.size ≤ p.block) (u : Value) : But R a (w.setCell p u) :=
  ⟨h.os, h.tape, h.output, by simpa [World.setCell] using h.size, fun k hk hR => (Below.heap_setCell _ _ _ _ (by omega)).trans (h.block k hk hR)⟩
theorem But.out {R B : Nat} {w w' : World} (h : But R w w') (hB : B ≤ w.heap.size) (hR : B ≤ R) : Below B w w' :=
  ⟨h.os, h.tape, h.output, h.size, fun k hk => h.block k (by omega) (by omega)⟩
theorem But.cell {R : Nat} {w w' : World} (h : But R w w') {p : Addr} (hp : p.block < w.heap.size) (hR : p.block ≠ R) : w'.cell? p = w.cell? p := World.cell?_of_block (w := w) (h.block p.block hp hR)
theorem But.frozen {R : Nat} {w w' : World} (h : But R w w') {p : Addr} (hp : p.block < w.heap.size) (hR : p.block ≠ R) : w'.frozen? p = w.frozen? p := World.frozen?_of_block (w := w) (h.block p.block hp hR)
theorem csetR {w : World} {b o : Nat} {u : Value} (h : w.cell? ⟨b, o, none⟩ = some u) (o' : Nat) (v : Value) : (w.setCell ⟨b, o, none⟩ v).cell? ⟨b, o', none⟩ = if o = o' then some v else w.cell? ⟨b, o', none⟩ := by
  by_cases e : o = o'
  · subst e; rw [if_pos rfl]; exact World.cell?_setCell_same (h := h) ..
  · rw [if_neg e]; exact World.cell?_setCell_other (h := fun h => e (by injection h)) ..
theorem csetO {w : World} {b o b' o' : Nat} {v x : Value} (hb : ¬ b = b') (h : w.cell? ⟨b', o', none⟩ = some x) : (w.setCell ⟨b, o, none⟩ v).cell? ⟨b', o', none⟩ = some x :=
  (World.cell?_setCell_other (h := fun h => hb (by injection h)) ..).trans h
theorem csetS {w : World} {b o : Nat} {u : Value} (h : w.cell? ⟨b, o, none⟩ = some u) (v : Value) : (w.setCell ⟨b, o, none⟩ v).cell? ⟨b, o, none⟩ = some v := by rw [csetR h, if_pos rfl]
theorem csetN {w : World} {b o o' : Nat} {x : Value} (v : Value) (h : w.cell? ⟨b, o', none⟩ = some x) (e : ¬ o = o') : (w.setCell ⟨b, o, none⟩ v).cell? ⟨b, o', none⟩ = some x :=
  (World.cell?_setCell_other (h := fun h => e (by injection h)) ..).trans h
theorem calloc {w : World} {a : Addr} {v : Value} (h : w.cell? a = some v) (o : Obj) : (w.alloc o).cell? a = some v := (World.cell?_alloc_lt _ _ _ (World.block_lt_of_cell? w a h)).trans h
theorem falloc {w : World} {p : Addr} {x : Bool} (h : w.frozen? p = x) (hp : p.block < w.heap.size) (o : Obj) : (w.alloc o).frozen? p = x := (((Below.refl _ w).alloc (Nat.le_refl _) o).frozen hp).trans h
/-- From block lo on, what W0 had is as it was. -/
def HldHi (lo : Nat) (W0 w' : World) : Prop := W0.heap.size ≤ w'.heap.size ∧ ∀ k, lo ≤ k → k < W0.heap.size → w'.heap[k]? = W0.heap[k]?
theorem HldHi.start (lo : Nat) (W : World) : HldHi lo W W.drew := ⟨Nat.le_refl _, fun _ _ _ => rfl⟩
theorem HldHi.refl (lo : Nat) (W : World) : HldHi lo W W := ⟨Nat.le_refl _, fun _ _ _ => rfl⟩
theorem HldHi.drew {lo : Nat} {W0 a : World} (h : HldHi lo W0 a) : HldHi lo W0 a.drew := h
theorem HldHi.call {lo R : Nat} {W0 a b : World} (h : HldHi lo W0 a) (hb : But R a b) (hR : R < lo) : HldHi lo W0 b :=
  ⟨Nat.le_trans h.1 hb.size, fun k h1 h2 => (hb.block k (Nat.lt_of_lt_of_le h2 h.1) (by omega)).trans (h.2 k h1 h2)⟩
theorem HldHi.set {lo : Nat} {W0 a : World} (h : HldHi lo W0 a) {q : Addr} (hq : q.block < lo) (u : Value) : HldHi lo W0 (a.setCell q u) :=
  ⟨by simpa [World.setCell] using h.1, fun k h1 h2 => (Below.heap_setCell _ _ _ _ (by omega)).trans (h.2 k h1 h2)⟩
theorem HldHi.alloc {lo : Nat} {W0 a : World} (h : HldHi lo W0 a) (o : Obj) : HldHi lo W0 (a.alloc o) :=
  ⟨Nat.le_trans h.1 (by simp), fun k h1 h2 => (Below.heap_alloc a o k (Nat.lt_of_lt_of_le h2 h.1)).trans (h.2 k h1 h2)⟩
theorem HldHi.setN {lo : Nat} {W0 a : World} (h : HldHi lo W0 a) {q : Addr} (hq : W0.heap.size ≤ q.block) (u : Value) : HldHi lo W0 (a.setCell q u) :=
  ⟨by simpa [World.setCell] using h.1, fun k h1 h2 => (Below.heap_setCell _ _ _ _ (by omega)).trans (h.2 k h1 h2)⟩
theorem HldHi.cell {lo : Nat} {W0 w' : World} (h : HldHi lo W0 w') {b o : Nat} {v : Value} (h1 : lo ≤ b) (h2 : b < W0.heap.size) (hv : W0.cell? ⟨b, o, none⟩ = some v) : w'.cell? ⟨b, o, none⟩ = some v :=
  (World.cell?_of_block (w := W0) (a := ⟨b, o, none⟩) (h.2 b h1 h2)).trans hv
/-- Below block hi, what W0 had is as it was. -/
def HldLo (hi : Nat) (W0 w' : World) : Prop := Below hi W0 w'
theorem HldLo.start (hi : Nat) (W : World) : HldLo hi W W.drew := ⟨rfl, rfl, rfl, Nat.le_refl _, fun _ _ => rfl⟩
theorem HldLo.drew {hi : Nat} {W0 a : World} (h : HldLo hi W0 a) : HldLo hi W0 a.drew := ⟨h.os, h.tape, h.output, h.size, h.block⟩
theorem HldLo.call {hi : Nat} {W0 a b : World} (h : HldLo hi W0 a) (hb : Below a.heap.size a b) (hs : hi ≤ W0.heap.size) : HldLo hi W0 b :=
  Below.trans h (hb.mono (Nat.le_trans hs (Below.size h)))
theorem HldLo.set {hi : Nat} {W0 a : World} (h : HldLo hi W0 a) {q : Addr} (hq : hi ≤ q.block) (u : Value) : HldLo hi W0 (a.setCell q u) := Below.setCell h hq u
theorem HldLo.cell {hi : Nat} {W0 w' : World} (h : HldLo hi W0 w') {b o : Nat} {v : Value} (h1 : b < hi) (hv : W0.cell? ⟨b, o, none⟩ = some v) : w'.cell? ⟨b, o, none⟩ = some v :=
  (Below.cell h (p := ⟨b, o, none⟩) h1).trans hv

end Go.Proofs.Ytbfeaiaoelkggaa
