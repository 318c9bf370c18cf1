/- A region whose orders meet again. -/
import Derived.Test.YtbfeaiaoelkggaaBase
import Derived.Deep.DeepCutAuto
namespace Go.Proofs.Ytbfeaiaoelkggaa
open Go.RowKit
set_option linter.unusedVariables false


def Hld (W0 w' : World) : Prop := Below W0.heap.size W0 w'
theorem Hld.start (W : World) : Hld W W.drew := bl_drew (Below.refl _ _)
theorem Hld.refl (W : World) : Hld W W := Below.refl _ _
theorem Hld.drew {W0 a : World} (h : Hld W0 a) : Hld W0 a.drew := bl_drew h
theorem Hld.call {W0 a b : World} (h : Hld W0 a) (hb : Below a.heap.size a b) : Hld W0 b := bl_call hb h
theorem Hld.alloc {W0 a : World} (h : Hld W0 a) (o : Obj) : Hld W0 (a.alloc o) := bl_alloc h o
theorem Hld.set {W0 a : World} (h : Hld W0 a) {p : Addr} (hp : W0.heap.size ≤ p.block) (u : Value) : Hld W0 (a.setCell p u) := bl_set h hp u
theorem Hld.size {W0 a : World} (h : Hld W0 a) : W0.heap.size ≤ a.heap.size := Below.size h
theorem lt_ald {v u : World} {X : Obj} (h : Below (v.alloc X).drew.heap.size (v.alloc X).drew u) : v.heap.size < u.heap.size := by
  have h1 : (v.alloc X).heap.size ≤ u.heap.size := h.size
  simp at h1
  omega
theorem lt_al2 {v u : World} {X Y : Obj} (h : Below ((v.alloc X).alloc Y).heap.size ((v.alloc X).alloc Y) u) : v.heap.size < u.heap.size ∧ v.heap.size + 1 < u.heap.size := by
  have h1 := h.size
  simp at h1
  omega
theorem lt_al2d {v u : World} {X Y : Obj} (h : Below ((v.alloc X).alloc Y).drew.heap.size ((v.alloc X).alloc Y).drew u) : v.heap.size < u.heap.size ∧ v.heap.size + 1 < u.heap.size := by
  have h1 : ((v.alloc X).alloc Y).heap.size ≤ u.heap.size := h.size
  simp at h1
  omega
theorem lt_al {v u : World} {X : Obj} (h : Below (v.alloc X).heap.size (v.alloc X) u) : v.heap.size < u.heap.size := by
  have := h.size
  simp at this
  omega

end Go.Proofs.Ytbfeaiaoelkggaa
