/- Contracts of functions that this seat's statements reach: each is shown to compute a plain Lean function, and to leave what was there as it was. No conditions but those in each theorem. -/
import Derived.Test.YtgnjmcfkehgdfaaFrame
import Derived.Test.YtgnjmcfkehgdfaaRowsP2
import Derived.Deep.Slices
import Derived.Deep.Fields
import Derived.ChangeSame
import Derived.Lib.QuietBelow
namespace Go.Proofs.Ytgnjmcfkehgdfaa
open Go.RowKit
set_option linter.unusedVariables false

open Go.ChangeShapes Go.WideShapes Go.Deep

theorem lenVPoint {cs : List Value} (h : cs.length = 2) : ∃ c0 c1, cs = [c0, c1] := by
  match cs, h with
  | [c0, c1], _ => exact ⟨c0, c1, rfl⟩
theorem trod_Point {H : Type} {enc : TypeId × Value → H} {w : World} {base : Nat} {spare : Nat → Bool} {held : Bool} {n : Nat} {cs : List Value} {x : DataW H × List MemPlace}
    (h : DataW.trod enc Try.prog w base spare held n 23 cs = some x) : ∃ x0 x1 : Int, cs = [.int .i64 x0, .int .i64 x1] := by
  obtain ⟨ys, m, _, _, hlen, hyl, hg⟩ := DataW.trod_struct Try.underlying23 h
  have hl : cs.length = 2 := hlen.trans (show Try.prog.cellsOf 23 = 2 by kernel_rfl)
  clear h hlen
  obtain ⟨c0, c1, rfl⟩ := lenVPoint hl
  have e0 : DataW.trod enc Try.prog w base spare held m 3 (([c0, c1].drop 0).take (Try.prog.cellsOf 3)) = ys[0]? := hg 0 _ rfl
  have e1 : DataW.trod enc Try.prog w base spare held m 3 (([c0, c1].drop 1).take (Try.prog.cellsOf 3)) = ys[1]? := hg 1 _ rfl
  rw [show Try.prog.cellsOf 3 = 1 by kernel_rfl, List.getElem?_eq_getElem (by rw [hyl]; simp)] at e0
  obtain ⟨x0, hx0, _⟩ := DataW.trod_int Try.underlying3 e0
  simp at hx0
  subst hx0
  rw [show Try.prog.cellsOf 3 = 1 by kernel_rfl, List.getElem?_eq_getElem (by rw [hyl]; simp)] at e1
  obtain ⟨x1, hx1, _⟩ := DataW.trod_int Try.underlying3 e1
  simp at hx1
  subst hx1
  exact ⟨x0, x1, rfl⟩

def getPoint (w : World) (b off i : Nat) : Int × Int := (intOf ((w.cell? ⟨b, off + i * 2, none⟩).getD undef), intOf ((w.cell? ⟨b, off + i * 2 + 1, none⟩).getD undef))
theorem open_slPoint {H : Type} {enc : TypeId × Value → H} {w : World} {held : Bool} {t : Nat} {a : Option Addr} {len cap : Nat} {d : DataW H} {p : List MemPlace}
    (ht : Try.prog.underlying t = some (.slice 23)) (h : DataW.Trod enc Try.prog w 0 (fun _ => true) held t (.slice a len cap) d p) :
    ∃ zs : List (Int × Int), SlOfPoint w a len zs ∧ len ≤ 9223372036854775807 := by
  have hC : Try.prog.cellsOf 23 = 2 := by kernel_rfl
  obtain ⟨fuel, hf⟩ := h
  rcases Deep.open_slice ht hf with ⟨hcs, _⟩ | ⟨a', len', cap', m, n, D, Pl, hcs, _, hl, hm, hmm, _, hi⟩
  · simp [Value.cells] at hcs
    obtain ⟨rfl, rfl, rfl⟩ := hcs
    exact ⟨[], ⟨rfl, .inl rfl⟩, by omega⟩
  · simp [Value.cells] at hcs
    obtain ⟨rfl, rfl, rfl⟩ := hcs
    unfold maxLen at hm
    have hcap : len ≤ 9223372036854775807 := by omega
    by_cases h0 : len = 0
    · subst h0
      exact ⟨[], ⟨rfl, .inl rfl⟩, by omega⟩
    · obtain ⟨b, off, spot⟩ := a'
      have hsp : spot = none := by
        obtain ⟨cs', hc, htr⟩ := hi 0 (by rw [hmm]; simp only [if_true]; omega)
        obtain ⟨x0, x1, rfl⟩ := trod_Point htr
        rw [hC] at hc
        obtain ⟨_, _, hcell⟩ := World.cells?_some hc
        have h1 := hcell 0 (by omega)
        simp [Addr.add] at h1
        exact World.cell?_spot h1
      subst hsp
      have key : ∀ i, i < len → ∃ x0 x1 : Int, w.cell? ⟨b, off + i * 2, none⟩ = some (.int .i64 x0) ∧ w.cell? ⟨b, off + i * 2 + 1, none⟩ = some (.int .i64 x1) := by
        intro i hilt
        obtain ⟨cs', hc, htr⟩ := hi i (by rw [hmm]; simp only [if_true]; omega)
        obtain ⟨x0, x1, rfl⟩ := trod_Point htr
        rw [hC] at hc
        obtain ⟨_, _, hcell⟩ := World.cells?_some hc
        rw [Addr.add_lit] at hcell
        exact ⟨x0, x1, by have h := hcell 0 (by omega); rw [Addr.add_lit] at h; exact h, by have h := hcell 1 (by omega); rw [Addr.add_lit] at h; exact h⟩
      obtain ⟨y0, y1, hk0, _⟩ := key 0 (by omega)
      have hb : b < w.heap.size := block_lt_of_cell hk0
      refine ⟨(List.range len).map (getPoint w b off), ⟨by simp, .inr ⟨b, off, rfl, hb, fun j hj => ?_⟩⟩, hcap⟩
      have hj' : j < len := by simpa using hj
      obtain ⟨x0, x1, q0, q1⟩ := key j hj'
      have e : ((List.range len).map (getPoint w b off))[j]! = getPoint w b off j := by
        rw [getElem!_pos _ j hj]; simp
      rw [e]
      unfold getPoint
      simp only [q0, q1, Option.getD_some, intOf, and_self]

end Go.Proofs.Ytgnjmcfkehgdfaa
