/- The opening of the arguments. -/
import Derived.Test.YtkhocfoggjdccaaBase
import Derived.Test.YtkhocfoggjdccaaRows
import Derived.ProofKit
import Derived.OpenShut
import Derived.ChangeOld
import Derived.Carry
import Derived.Test.YtkhocfoggjdccaaRdr
import Derived.ChangeSlices
namespace Go.Proofs.Ytkhocfoggjdccaa
open Go.RowKit
set_option linter.unusedVariables false


open Go.ChangeShapes Go.WideShapes Go.ChangeAt
/-- A struct argument whose cells are all ints: it is an aggregate of ints, each in int64's range. -/
theorem open_flat {P : Program} {w : World} {r : Reach} {base : Nat} {t i n : Nat} {fs : Array Field} {v : Value} (hs : P.underlying t = some (.struct fs)) (hsz : P.cellsOf t = n)
    (hct : P.cellTypes P.depth t = some (List.replicate n i)) (hi : P.underlying i = some (.int .i64)) (hv : Value.okWide P w r base t v) :
    ∃ xs : List Int, xs.length = n ∧ v = .agg (xs.map (Value.int .i64)).toArray ∧ ∀ x ∈ xs, -9223372036854775808 ≤ x ∧ x ≤ 9223372036854775807 := by
  unfold Value.okWide at hv
  rw [hs] at hv
  obtain ⟨cs, rfl, hz, ts, hts, _, hc⟩ := hv
  rw [hct] at hts
  obtain rfl := Option.some.inj hts
  have key : ∀ c ∈ cs.toList, ∃ x : Int, c = .int .i64 x ∧ -9223372036854775808 ≤ x ∧ x ≤ 9223372036854775807 := by
    intro c hm
    obtain ⟨k, hk, rfl⟩ := List.getElem_of_mem hm
    have hk' : k < cs.size := by simpa using hk
    obtain ⟨u, hu, hok⟩ := hc k cs[k] (by simp [hk'])
    have hmem := List.mem_of_getElem? hu
    rw [List.mem_replicate] at hmem
    obtain ⟨_, rfl⟩ := hmem
    unfold Cell.okWide at hok
    rw [hi] at hok
    simp only [Array.getElem_toList]
    unfold Cell.ok at hok
    rw [hi] at hok
    generalize cs[k] = c at hok
    cases c with
    | int k' x =>
      obtain ⟨rfl, h1, h2⟩ := hok
      exact ⟨x, rfl, h1, h2⟩
    | _ => exact hok.elim
  refine ⟨cs.toList.map fun c => match c with | .int _ x => x | _ => 0, by simpa using hz.trans hsz, ?_, ?_⟩
  · congr 1
    rw [List.map_map, ← Array.toList_inj]
    refine Eq.symm ((List.map_congr_left (g := id) fun c hm => ?_).trans (List.map_id _))
    obtain ⟨x, rfl, _⟩ := key c hm
    rfl
  · intro x hx
    obtain ⟨c, hm, rfl⟩ := List.mem_map.1 hx
    obtain ⟨x, rfl, h⟩ := key c hm
    exact h

theorem len1 {xs : List Int} (h : xs.length = 1) : ∃ a, xs = [a] := by
  match xs, h with
  | [a], _ => exact ⟨a, rfl⟩
theorem len2 {xs : List Int} (h : xs.length = 2) : ∃ a b, xs = [a, b] := by
  match xs, h with
  | [a, b], _ => exact ⟨a, b, rfl⟩
theorem len3 {xs : List Int} (h : xs.length = 3) : ∃ a b c, xs = [a, b, c] := by
  match xs, h with
  | [a, b, c], _ => exact ⟨a, b, c, rfl⟩
theorem len4 {xs : List Int} (h : xs.length = 4) : ∃ a b c d, xs = [a, b, c, d] := by
  match xs, h with
  | [a, b, c, d], _ => exact ⟨a, b, c, d, rfl⟩
theorem own : ownKnob Try.prog.godebug = none := by kernel_rfl
theorem laidOut : laidOutB Try.prog = true := by kernel_rfl


open Go.ChangeShapes Go.WideShapes Go.ChangeAt
/-- An argument that is a slice of bytes: each can be read; its length and capacity are in range. -/
theorem open_bytes {H : Type} {enc : TypeId × Value → H} {P : Program} {w : World} {held : Bool} {t e : Nat} {a : Option Addr} {len cap : Nat} {d : DataW H} {p : List MemPlace}
    (ht : P.underlying t = some (.slice e)) (he : P.underlying e = some (.int .u8)) (hc : P.cellsOf e = 1) (h : DataW.Trod enc P w 0 (fun _ => true) held t (.slice a len cap) d p) :
    BytesOf w.heap.size w a len ∧ len ≤ cap ∧ cap ≤ 9223372036854775807 := by
  obtain ⟨fuel, hf⟩ := h
  rcases open_ints ht he hc hf with ⟨hcs, _⟩ | ⟨a', len', cap', zs, hcs, _, hl, hm, hz, _, hcell, hwf⟩
  · simp [Value.cells] at hcs
    obtain ⟨rfl, rfl, rfl⟩ := hcs
    exact ⟨.inl rfl, by omega, by omega⟩
  · simp [Value.cells] at hcs
    obtain ⟨rfl, rfl, rfl⟩ := hcs
    unfold maxLen at hm
    refine ⟨?_, hl, by omega⟩
    by_cases h0 : len = 0
    · exact .inl h0
    · obtain ⟨b, off, spot⟩ := a'
      simp at hz
      have h1 := hcell 0 (by omega)
      have hsp : spot = none := by
        have h2 := World.cell?_spot h1
        simpa [Addr.add] using h2
      subst hsp
      refine .inr ⟨b, off, rfl, ?_, fun j hj => ?_⟩
      · rw [Addr.add_lit] at h1
        exact block_lt_of_cell h1
      · have h2 := hcell j (by omega)
        rw [Addr.add_lit] at h2
        have h3 := bounds_u8 (hwf (zs.getD j 0) (by rw [List.getD_eq_getElem?_getD, List.getElem?_eq_getElem (by omega)]; simp))
        exact ⟨_, h3.1, h3.2, h2⟩

end Go.Proofs.Ytkhocfoggjdccaa
