/- Contracts of functions that this seat's statements reach: each is shown to compute a plain Lean function, and to leave what was there as it was. No conditions but those in each theorem. -/
import Derived.Test.YtgnjmcfkehgdfaaFrame
import Derived.Test.YtgnjmcfkehgdfaaRowsH2
import Derived.Deep.Slices
import Derived.Deep.Fields
import Derived.ChangeSame
import Derived.Lib.QuietBelow
namespace Go.Proofs.Ytgnjmcfkehgdfaa
open Go.RowKit
set_option linter.unusedVariables false

open Go.ChangeShapes Go.WideShapes Go.Deep

theorem lenVHalfPlane {cs : List Value} (h : cs.length = 3) : ∃ c0 c1 c2, cs = [c0, c1, c2] := by
  match cs, h with
  | [c0, c1, c2], _ => exact ⟨c0, c1, c2, rfl⟩
theorem trod_HalfPlane {H : Type} {enc : TypeId × Value → H} {w : World} {base : Nat} {spare : Nat → Bool} {held : Bool} {n : Nat} {cs : List Value} {x : DataW H × List MemPlace}
    (h : DataW.trod enc Try.prog w base spare held n 77 cs = some x) : ∃ x0 x1 x2 : Int, cs = [.int .i64 x0, .int .i64 x1, .int .i64 x2] := by
  obtain ⟨ys, m, _, _, hlen, hyl, hg⟩ := DataW.trod_struct Try.underlying77 h
  have hl : cs.length = 3 := hlen.trans (show Try.prog.cellsOf 77 = 3 by kernel_rfl)
  clear h hlen
  obtain ⟨c0, c1, c2, rfl⟩ := lenVHalfPlane hl
  have e0 : DataW.trod enc Try.prog w base spare held m 3 (([c0, c1, c2].drop 0).take (Try.prog.cellsOf 3)) = ys[0]? := hg 0 _ rfl
  have e1 : DataW.trod enc Try.prog w base spare held m 3 (([c0, c1, c2].drop 1).take (Try.prog.cellsOf 3)) = ys[1]? := hg 1 _ rfl
  have e2 : DataW.trod enc Try.prog w base spare held m 3 (([c0, c1, c2].drop 2).take (Try.prog.cellsOf 3)) = ys[2]? := hg 2 _ rfl
  rw [show Try.prog.cellsOf 3 = 1 by kernel_rfl, List.getElem?_eq_getElem (by rw [hyl]; simp)] at e0
  obtain ⟨x0, hx0, _⟩ := DataW.trod_int Try.underlying3 e0
  simp at hx0
  subst hx0
  rw [show Try.prog.cellsOf 3 = 1 by kernel_rfl, List.getElem?_eq_getElem (by rw [hyl]; simp)] at e1
  obtain ⟨x1, hx1, _⟩ := DataW.trod_int Try.underlying3 e1
  simp at hx1
  subst hx1
  rw [show Try.prog.cellsOf 3 = 1 by kernel_rfl, List.getElem?_eq_getElem (by rw [hyl]; simp)] at e2
  obtain ⟨x2, hx2, _⟩ := DataW.trod_int Try.underlying3 e2
  simp at hx2
  subst hx2
  exact ⟨x0, x1, x2, rfl⟩

def getHalfPlane (w : World) (b off i : Nat) : Int × Int × Int := (intOf ((w.cell? ⟨b, off + i * 3, none⟩).getD undef), intOf ((w.cell? ⟨b, off + i * 3 + 1, none⟩).getD undef), intOf ((w.cell? ⟨b, off + i * 3 + 2, none⟩).getD undef))
theorem open_slHalfPlane {H : Type} {enc : TypeId × Value → H} {w : World} {held : Bool} {t : Nat} {a : Option Addr} {len cap : Nat} {d : DataW H} {p : List MemPlace}
    (ht : Try.prog.underlying t = some (.slice 77)) (h : DataW.Trod enc Try.prog w 0 (fun _ => true) held t (.slice a len cap) d p) :
    ∃ zs : List (Int × Int × Int), SlOfHalfPlane w a len zs ∧ len ≤ 9223372036854775807 := by
  have hC : Try.prog.cellsOf 77 = 3 := by kernel_rfl
  obtain ⟨fuel, hf⟩ := h
  rcases Deep.open_slice ht hf with ⟨hcs, _⟩ | ⟨a', len', cap', m, n, D, Pl, hcs, _, hl, hm, hmm, _, hi⟩
  · simp [Value.cells] at hcs
    obtain ⟨rfl, rfl, rfl⟩ := hcs
    exact ⟨[], ⟨rfl, .inl rfl⟩, by omega⟩
  · simp [Value.cells] at hcs
    obtain ⟨rfl, rfl, rfl⟩ := hcs
    unfold maxLen at hm
    have hcap : len ≤ 9223372036854775807 := by omega
    by_cases h0 : len = 0
    · subst h0
      exact ⟨[], ⟨rfl, .inl rfl⟩, by omega⟩
    · obtain ⟨b, off, spot⟩ := a'
      have hsp : spot = none := by
        obtain ⟨cs', hc, htr⟩ := hi 0 (by rw [hmm]; simp only [if_true]; omega)
        obtain ⟨x0, x1, x2, rfl⟩ := trod_HalfPlane htr
        rw [hC] at hc
        obtain ⟨_, _, hcell⟩ := World.cells?_some hc
        have h1 := hcell 0 (by omega)
        simp [Addr.add] at h1
        exact World.cell?_spot h1
      subst hsp
      have key : ∀ i, i < len → ∃ x0 x1 x2 : Int, w.cell? ⟨b, off + i * 3, none⟩ = some (.int .i64 x0) ∧ w.cell? ⟨b, off + i * 3 + 1, none⟩ = some (.int .i64 x1) ∧ w.cell? ⟨b, off + i * 3 + 2, none⟩ = some (.int .i64 x2) := by
        intro i hilt
        obtain ⟨cs', hc, htr⟩ := hi i (by rw [hmm]; simp only [if_true]; omega)
        obtain ⟨x0, x1, x2, rfl⟩ := trod_HalfPlane htr
        rw [hC] at hc
        obtain ⟨_, _, hcell⟩ := World.cells?_some hc
        rw [Addr.add_lit] at hcell
        exact ⟨x0, x1, x2, by have h := hcell 0 (by omega); rw [Addr.add_lit] at h; exact h, by have h := hcell 1 (by omega); rw [Addr.add_lit] at h; exact h, by have h := hcell 2 (by omega); rw [Addr.add_lit] at h; exact h⟩
      obtain ⟨y0, y1, y2, hk0, _⟩ := key 0 (by omega)
      have hb : b < w.heap.size := block_lt_of_cell hk0
      refine ⟨(List.range len).map (getHalfPlane w b off), ⟨by simp, .inr ⟨b, off, rfl, hb, fun j hj => ?_⟩⟩, hcap⟩
      have hj' : j < len := by simpa using hj
      obtain ⟨x0, x1, x2, q0, q1, q2⟩ := key j hj'
      have e : ((List.range len).map (getHalfPlane w b off))[j]! = getHalfPlane w b off j := by
        rw [getElem!_pos _ j hj]; simp
      rw [e]
      unfold getHalfPlane
      simp only [q0, q1, q2, Option.getD_some, intOf, and_self]

end Go.Proofs.Ytgnjmcfkehgdfaa
