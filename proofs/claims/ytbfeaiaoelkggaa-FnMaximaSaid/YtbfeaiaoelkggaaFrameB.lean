/- The opening of arguments that are slices of bytes. -/
import Derived.Test.YtbfeaiaoelkggaaFrame
import Derived.Test.YtbfeaiaoelkggaaRdr
import Derived.ChangeSlices
namespace Go.Proofs.Ytbfeaiaoelkggaa
open Go.RowKit
set_option linter.unusedVariables false


open Go.ChangeShapes Go.WideShapes Go.ChangeAt
/-- An argument that is a slice of bytes: each can be read; its length and capacity are in range. -/
theorem open_bytes {H : Type} {enc : TypeId × Value → H} {P : Program} {w : World} {held : Bool} {t e : Nat} {a : Option Addr} {len cap : Nat} {d : DataW H} {p : List MemPlace}
    (ht : P.underlying t = some (.slice e)) (he : P.underlying e = some (.int .u8)) (hc : P.cellsOf e = 1) (h : DataW.Trod enc P w 0 (fun _ => true) held t (.slice a len cap) d p) :
    BytesOf w.heap.size w a len ∧ len ≤ cap ∧ cap ≤ 9223372036854775807 := by
  obtain ⟨fuel, hf⟩ := h
  rcases open_ints ht he hc hf with ⟨hcs, _⟩ | ⟨a', len', cap', zs, hcs, _, hl, hm, hz, _, hcell, hwf⟩
  · simp [Value.cells] at hcs
    obtain ⟨rfl, rfl, rfl⟩ := hcs
    exact ⟨.inl rfl, by omega, by omega⟩
  · simp [Value.cells] at hcs
    obtain ⟨rfl, rfl, rfl⟩ := hcs
    unfold maxLen at hm
    refine ⟨?_, hl, by omega⟩
    by_cases h0 : len = 0
    · exact .inl h0
    · obtain ⟨b, off, spot⟩ := a'
      simp at hz
      have h1 := hcell 0 (by omega)
      have hsp : spot = none := by
        have h2 := World.cell?_spot h1
        simpa [Addr.add] using h2
      subst hsp
      refine .inr ⟨b, off, rfl, ?_, fun j hj => ?_⟩
      · rw [Addr.add_lit] at h1
        exact block_lt_of_cell h1
      · have h2 := hcell j (by omega)
        rw [Addr.add_lit] at h2
        have h3 := bounds_u8 (hwf (zs.getD j 0) (by rw [List.getD_eq_getElem?_getD, List.getElem?_eq_getElem (by omega)]; simp))
        exact ⟨_, h3.1, h3.2, h2⟩

end Go.Proofs.Ytbfeaiaoelkggaa
