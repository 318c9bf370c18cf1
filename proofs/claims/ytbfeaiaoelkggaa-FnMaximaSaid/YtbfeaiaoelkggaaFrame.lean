/- The opening of arguments that are structs of ints. -/
import Derived.Test.YtbfeaiaoelkggaaBase
import Derived.Test.YtbfeaiaoelkggaaRows
import Derived.ProofKit
import Derived.OpenShut
import Derived.ChangeOld
import Derived.Carry
namespace Go.Proofs.Ytbfeaiaoelkggaa
open Go.RowKit
set_option linter.unusedVariables false


open Go.ChangeShapes Go.WideShapes Go.ChangeAt
/-- A struct argument whose cells are all ints: it is an aggregate of ints, each in int64's range. -/
theorem open_flat {P : Program} {w : World} {r : Reach} {base : Nat} {t i n : Nat} {fs : Array Field} {v : Value} (hs : P.underlying t = some (.struct fs)) (hsz : P.cellsOf t = n)
    (hct : P.cellTypes P.depth t = some (List.replicate n i)) (hi : P.underlying i = some (.int .i64)) (hv : Value.okWide P w r base t v) :
    ∃ xs : List Int, xs.length = n ∧ v = .agg (xs.map (Value.int .i64)).toArray ∧ ∀ x ∈ xs, -9223372036854775808 ≤ x ∧ x ≤ 9223372036854775807 := by
  unfold Value.okWide at hv
  rw [hs] at hv
  obtain ⟨cs, rfl, hz, ts, hts, _, hc⟩ := hv
  rw [hct] at hts
  obtain rfl := Option.some.inj hts
  have key : ∀ c ∈ cs.toList, ∃ x : Int, c = .int .i64 x ∧ -9223372036854775808 ≤ x ∧ x ≤ 9223372036854775807 := by
    intro c hm
    obtain ⟨k, hk, rfl⟩ := List.getElem_of_mem hm
    have hk' : k < cs.size := by simpa using hk
    obtain ⟨u, hu, hok⟩ := hc k cs[k] (by simp [hk'])
    have hmem := List.mem_of_getElem? hu
    rw [List.mem_replicate] at hmem
    obtain ⟨_, rfl⟩ := hmem
    unfold Cell.okWide at hok
    rw [hi] at hok
    simp only [Array.getElem_toList]
    unfold Cell.ok at hok
    rw [hi] at hok
    generalize cs[k] = c at hok
    cases c with
    | int k' x =>
      obtain ⟨rfl, h1, h2⟩ := hok
      exact ⟨x, rfl, h1, h2⟩
    | _ => exact hok.elim
  refine ⟨cs.toList.map fun c => match c with | .int _ x => x | _ => 0, by simpa using hz.trans hsz, ?_, ?_⟩
  · congr 1
    rw [List.map_map, ← Array.toList_inj]
    refine Eq.symm ((List.map_congr_left (g := id) fun c hm => ?_).trans (List.map_id _))
    obtain ⟨x, rfl, _⟩ := key c hm
    rfl
  · intro x hx
    obtain ⟨c, hm, rfl⟩ := List.mem_map.1 hx
    obtain ⟨x, rfl, h⟩ := key c hm
    exact h

theorem len1 {xs : List Int} (h : xs.length = 1) : ∃ a, xs = [a] := by
  match xs, h with
  | [a], _ => exact ⟨a, rfl⟩
theorem len2 {xs : List Int} (h : xs.length = 2) : ∃ a b, xs = [a, b] := by
  match xs, h with
  | [a, b], _ => exact ⟨a, b, rfl⟩
theorem len3 {xs : List Int} (h : xs.length = 3) : ∃ a b c, xs = [a, b, c] := by
  match xs, h with
  | [a, b, c], _ => exact ⟨a, b, c, rfl⟩
theorem len4 {xs : List Int} (h : xs.length = 4) : ∃ a b c d, xs = [a, b, c, d] := by
  match xs, h with
  | [a, b, c, d], _ => exact ⟨a, b, c, d, rfl⟩
theorem own : ownKnob Try.prog.godebug = none := by kernel_rfl
theorem laidOut : laidOutB Try.prog = true := by kernel_rfl

end Go.Proofs.Ytbfeaiaoelkggaa
