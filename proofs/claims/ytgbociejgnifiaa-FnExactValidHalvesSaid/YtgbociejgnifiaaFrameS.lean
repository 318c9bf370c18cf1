/- Contracts of functions that this seat's statements reach: each is shown to compute a plain Lean function, and to leave what was there as it was. No conditions but those in each theorem. -/
import Derived.Test.YtgbociejgnifiaaFrame
import Derived.Test.YtgbociejgnifiaaRows2
import Derived.Deep.Slices
import Derived.Deep.Fields
import Derived.ChangeSame
import Derived.Lib.QuietBelow
namespace Go.Proofs.Ytgbociejgnifiaa
open Go.RowKit
set_option linter.unusedVariables false

open Go.ChangeShapes Go.WideShapes Go.Deep

theorem trod_intsHalfPlane {H : Type} {enc : TypeId × Value → H} {P : Program} {w : World} {base : Nat} {spare : Nat → Bool} {held : Bool} {n e : Nat} {f0 f1 f2 : Field} {cs : List Value} {x : DataW H × List MemPlace}
    (hs : P.underlying e = some (.struct #[f0, f1, f2])) (hone : oneCellFields P #[f0, f1, f2] = true) (hC : P.cellsOf e = 3) (t0 : P.underlying f0.type = some (.int .i64)) (t1 : P.underlying f1.type = some (.int .i64)) (t2 : P.underlying f2.type = some (.int .i64)) (h : DataW.trod enc P w base spare held n e cs = some x) :
    ∃ x0 x1 x2 : Int, cs = [.int .i64 x0, .int .i64 x1, .int .i64 x2] := by
  obtain ⟨ys, m, _, _, hlen, hyl, hg⟩ := DataW.trod_struct hs h
  match cs, hlen.trans hC with
  | [c0, c1, c2], _ =>
    obtain ⟨o0, k0⟩ := hone_of hone 0 f0 rfl
    have e0 := hg 0 f0 rfl
    rw [o0, k0, List.getElem?_eq_getElem (by rw [hyl]; simp)] at e0
    obtain ⟨x0, hx0, _⟩ := DataW.trod_int t0 e0
    simp at hx0
    subst hx0
    obtain ⟨o1, k1⟩ := hone_of hone 1 f1 rfl
    have e1 := hg 1 f1 rfl
    rw [o1, k1, List.getElem?_eq_getElem (by rw [hyl]; simp)] at e1
    obtain ⟨x1, hx1, _⟩ := DataW.trod_int t1 e1
    simp at hx1
    subst hx1
    obtain ⟨o2, k2⟩ := hone_of hone 2 f2 rfl
    have e2 := hg 2 f2 rfl
    rw [o2, k2, List.getElem?_eq_getElem (by rw [hyl]; simp)] at e2
    obtain ⟨x2, hx2, _⟩ := DataW.trod_int t2 e2
    simp at hx2
    subst hx2
    exact ⟨x0, x1, x2, rfl⟩
def getHalfPlane (w : World) (b off i : Nat) : Int × Int × Int := (intOf ((w.cell? ⟨b, off + i * 3, none⟩).getD undef), intOf ((w.cell? ⟨b, off + i * 3 + 1, none⟩).getD undef), intOf ((w.cell? ⟨b, off + i * 3 + 2, none⟩).getD undef))
theorem open_slHalfPlane {H : Type} {enc : TypeId × Value → H} {P : Program} {w : World} {held : Bool} {t e : Nat} {f0 f1 f2 : Field} {a : Option Addr} {len cap : Nat} {d : DataW H} {p : List MemPlace}
    (ht : P.underlying t = some (.slice e)) (hs : P.underlying e = some (.struct #[f0, f1, f2])) (hone : oneCellFields P #[f0, f1, f2] = true) (hC : P.cellsOf e = 3) (t0 : P.underlying f0.type = some (.int .i64)) (t1 : P.underlying f1.type = some (.int .i64)) (t2 : P.underlying f2.type = some (.int .i64))
    (h : DataW.Trod enc P w 0 (fun _ => true) held t (.slice a len cap) d p) : ∃ zs : List (Int × Int × Int), SlOfHalfPlane w a len zs ∧ len ≤ 9223372036854775807 := by
  obtain ⟨fuel, hf⟩ := h
  rcases Deep.open_slice ht hf with ⟨hcs, _⟩ | ⟨a', len', cap', m, n, D, Pl, hcs, _, hl, hm, hmm, _, hi⟩
  · simp [Value.cells] at hcs
    obtain ⟨rfl, rfl, rfl⟩ := hcs
    exact ⟨[], ⟨rfl, .inl rfl⟩, by omega⟩
  · simp [Value.cells] at hcs
    obtain ⟨rfl, rfl, rfl⟩ := hcs
    unfold maxLen at hm
    have hcap : len ≤ 9223372036854775807 := by omega
    by_cases h0 : len = 0
    · subst h0
      exact ⟨[], ⟨rfl, .inl rfl⟩, by omega⟩
    · obtain ⟨b, off, spot⟩ := a'
      have hsp : spot = none := by
        obtain ⟨cs', hc, htr⟩ := hi 0 (by rw [hmm]; simp only [if_true]; omega)
        obtain ⟨x0, x1, x2, rfl⟩ := trod_intsHalfPlane hs hone hC t0 t1 t2 htr
        rw [hC] at hc
        obtain ⟨_, _, hcell⟩ := World.cells?_some hc
        have h1 := hcell 0 (by omega)
        simp [Addr.add] at h1
        exact World.cell?_spot h1
      subst hsp
      have key : ∀ i, i < len → ∃ x0 x1 x2 : Int, w.cell? ⟨b, off + i * 3, none⟩ = some (.int .i64 x0) ∧ w.cell? ⟨b, off + i * 3 + 1, none⟩ = some (.int .i64 x1) ∧ w.cell? ⟨b, off + i * 3 + 2, none⟩ = some (.int .i64 x2) := by
        intro i hilt
        obtain ⟨cs', hc, htr⟩ := hi i (by rw [hmm]; simp only [if_true]; omega)
        obtain ⟨x0, x1, x2, rfl⟩ := trod_intsHalfPlane hs hone hC t0 t1 t2 htr
        rw [hC] at hc
        obtain ⟨_, _, hcell⟩ := World.cells?_some hc
        rw [Addr.add_lit] at hcell
        exact ⟨x0, x1, x2, by have h := hcell 0 (by omega); rw [Addr.add_lit] at h; exact h, by have h := hcell 1 (by omega); rw [Addr.add_lit] at h; exact h, by have h := hcell 2 (by omega); rw [Addr.add_lit] at h; exact h⟩
      obtain ⟨y0, y1, y2, hk0, _⟩ := key 0 (by omega)
      have hb : b < w.heap.size := block_lt_of_cell hk0
      refine ⟨(List.range len).map (getHalfPlane w b off), ⟨by simp, .inr ⟨b, off, rfl, hb, fun j hj => ?_⟩⟩, hcap⟩
      have hj' : j < len := by simpa using hj
      obtain ⟨x0, x1, x2, q0, q1, q2⟩ := key j hj'
      have e : ((List.range len).map (getHalfPlane w b off))[j]! = getHalfPlane w b off j := by
        rw [getElem!_pos _ j hj]; simp
      rw [e]
      unfold getHalfPlane
      simp only [q0, q1, q2, Option.getD_some, intOf, and_self]

end Go.Proofs.Ytgbociejgnifiaa
