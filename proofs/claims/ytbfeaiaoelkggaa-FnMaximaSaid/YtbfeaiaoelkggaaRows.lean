/-
  No cell of these rows narrows 'for every input' (looked for: loops, veiled, ifaces, maps, wideKeys, modest, calm, conditions, laid).
  DERIVED. THE GIVEN ROWS OF THIS SEAT. 4 by the template 'for every input the law returns true; each argument reads behind the call as it read before'; 0 by the template 'total and deterministic' (their statements: YtbfeaiaoelkggaaTotals.lean).
  GIVEN WITH THE SEED: the statements are not yours to turn. If you find one false, say at which input.
  Laid BY PROGRAM, IN A SANDBOX (cutbox-rows.mjs): the forced cells as the released guide's own fill.sh prints them over the translation 09d90f1243093e71… (all of the seat's roots in one cut). By AI agents, Wed Nov 11 2026. No macro, syntax, notation, axiom, sorry.
-/
import Derived.Test.YtbfeaiaoelkggaaChecked
import GoSem.Claim
import GoSem.ClaimJoined
import GoSem.ClaimMapViews
import Derived.JoinedTies
import Derived.KernelRfl
namespace Go.Proofs.Ytbfeaiaoelkggaa
/- THE CELL 'sum', in the pinned program and in every row, IS THE sha256 OF THE DUMP (.gsa) THAT YtbfeaiaoelkggaaProg.lean LOADS. Nothing in Lean hashes anything: it is a label: what it is worth is what the hold of that sum in a sandbox is worth. -/
noncomputable def Try.pinned : Pinned := { name := "ytbfeaiaoelkggaa", sum := "09d90f1243093e71d7624caba31ef2d4536fea678693ff0874f8fa9c238daf8d", checked := Try.checked }
namespace Rows
def none {H : Type} : Left H := { results := [], args := [] }

/-- 'laws.FnComposeMatrices': WHATEVER THE INPUT: true; the input reads as it did. -/
def fnComposeMatricesSpec : ChangeSpec := { name := "fnComposeMatrices", fn := fun _ => fun
  | [d1, d2] => { results := [.lit (.bool true)], args := [d1, d2] }
  | _ => none }
def fnComposeMatricesRow : OpenClaim := { program := "ytbfeaiaoelkggaa", sum := "09d90f1243093e71d7624caba31ef2d4536fea678693ff0874f8fa9c238daf8d", func := "loop.example/planargeometry/laws.FnComposeMatrices", spec := "fnComposeMatrices", unfollowed := true, recurses := true, apart := false }
def FnComposeMatricesSaid : Prop := fnComposeMatricesRow.holds Try.pinned (OpenSpec.ofChange fnComposeMatricesSpec)

/-- ITS FALSE NEIGHBOUR: 'it returns false'. Refute it at one input. -/
def fnComposeMatricesWrong : ChangeSpec := { name := "fnComposeMatrices", fn := fun _ => fun
  | [d1, d2] => { results := [.lit (.bool false)], args := [d1, d2] }
  | _ => none }
def FnComposeMatricesWrongFalsely : Prop := fnComposeMatricesRow.holds Try.pinned (OpenSpec.ofChange fnComposeMatricesWrong)

/-- 'laws.FnMaxima': WHATEVER THE INPUT: true; the input reads as it did. -/
def fnMaximaSpec : ChangeSpec := { name := "fnMaxima", fn := fun _ => fun
  | [d] => { results := [.lit (.bool true)], args := [d] }
  | _ => none }
def fnMaximaRow : OpenClaim := { program := "ytbfeaiaoelkggaa", sum := "09d90f1243093e71d7624caba31ef2d4536fea678693ff0874f8fa9c238daf8d", func := "loop.example/planargeometry/laws.FnMaxima", spec := "fnMaxima", unfollowed := true, recurses := true, apart := false }
def FnMaximaSaid : Prop := fnMaximaRow.holds Try.pinned (OpenSpec.ofChange fnMaximaSpec)

/-- ITS FALSE NEIGHBOUR: 'it returns false'. Refute it at one input. -/
def fnMaximaWrong : ChangeSpec := { name := "fnMaxima", fn := fun _ => fun
  | [d] => { results := [.lit (.bool false)], args := [d] }
  | _ => none }
def FnMaximaWrongFalsely : Prop := fnMaximaRow.holds Try.pinned (OpenSpec.ofChange fnMaximaWrong)

/-- 'laws.FnCountWithin': WHATEVER THE INPUT: true; the input reads as it did. -/
def fnCountWithinSpec : ChangeSpec := { name := "fnCountWithin", fn := fun _ => fun
  | [d1, d2] => { results := [.lit (.bool true)], args := [d1, d2] }
  | _ => none }
def fnCountWithinRow : OpenClaim := { program := "ytbfeaiaoelkggaa", sum := "09d90f1243093e71d7624caba31ef2d4536fea678693ff0874f8fa9c238daf8d", func := "loop.example/planargeometry/laws.FnCountWithin", spec := "fnCountWithin", unfollowed := true, recurses := true, apart := false }
def FnCountWithinSaid : Prop := fnCountWithinRow.holds Try.pinned (OpenSpec.ofChange fnCountWithinSpec)

/-- ITS FALSE NEIGHBOUR: 'it returns false'. Refute it at one input. -/
def fnCountWithinWrong : ChangeSpec := { name := "fnCountWithin", fn := fun _ => fun
  | [d1, d2] => { results := [.lit (.bool false)], args := [d1, d2] }
  | _ => none }
def FnCountWithinWrongFalsely : Prop := fnCountWithinRow.holds Try.pinned (OpenSpec.ofChange fnCountWithinWrong)

/-- 'laws.FnInRegion': WHATEVER THE INPUT: true; the input reads as it did. -/
def fnInRegionSpec : ChangeSpec := { name := "fnInRegion", fn := fun _ => fun
  | [d] => { results := [.lit (.bool true)], args := [d] }
  | _ => none }
def fnInRegionRow : OpenClaim := { program := "ytbfeaiaoelkggaa", sum := "09d90f1243093e71d7624caba31ef2d4536fea678693ff0874f8fa9c238daf8d", func := "loop.example/planargeometry/laws.FnInRegion", spec := "fnInRegion", unfollowed := true, recurses := true, apart := false }
def FnInRegionSaid : Prop := fnInRegionRow.holds Try.pinned (OpenSpec.ofChange fnInRegionSpec)

/-- ITS FALSE NEIGHBOUR: 'it returns false'. Refute it at one input. -/
def fnInRegionWrong : ChangeSpec := { name := "fnInRegion", fn := fun _ => fun
  | [d] => { results := [.lit (.bool false)], args := [d] }
  | _ => none }
def FnInRegionWrongFalsely : Prop := fnInRegionRow.holds Try.pinned (OpenSpec.ofChange fnInRegionWrong)

/- THE SECOND FORM. 'bulk': how many values and letters a reading holds, each counted each time it is reached (what is shared counts as often as it is met; a slice's spare places count too). A statement '..UptoSaid' is the law's where the arguments, and the package variables that the reading takes, are together of bulk at most 1048576: NARROWER than '..Said'. Prove '..Said' where nothing that the law and all that it calls make is longer than what came in: it says more and counts as full. Else prove '..UptoSaid'. A law counts once. -/
mutual
def uptoBulk {H : Type} : DataW H → Nat
  | .lit (.string bytes) => bytes.length + 1
  | .lit _ => 1
  | .nil => 1
  | .ptr d => uptoBulk d + 1
  | .slice elems spare => uptoBulkAll elems + uptoBulkAll spare + 1
  | .agg parts => uptoBulkAll parts + 1
  | .iface _ d => uptoBulk d + 1
  | .map entries => uptoBulkEntries entries + 1
  | .held _ => 1
def uptoBulkAll {H : Type} : List (DataW H) → Nat
  | [] => 0
  | d :: r => uptoBulk d + uptoBulkAll r
def uptoBulkEntries {H : Type} : List (Lit × DataW H) → Nat
  | [] => 0
  | x :: r => uptoBulkEntry x + uptoBulkEntries r
def uptoBulkEntry {H : Type} : Lit × DataW H → Nat
  | (.string bytes, d) => bytes.length + uptoBulk d + 1
  | (_, d) => uptoBulk d + 1
 end
def uptoSmall : (H : Type) → List (DataW H) → Bool := fun _ ds => decide (uptoBulkAll ds ≤ 1048576)
def OpenSpec.upto (s : _root_.Go.ChangeSpec) : _root_.Go.OpenSpec := { _root_.Go.OpenSpec.ofChange s with cond := some uptoSmall }

/-- 'laws.FnComposeMatrices', WHERE WHAT IT READS IS OF BULK AT MOST 1048576: true; the input reads as it did. -/
def fnComposeMatricesUptoRow : OpenClaim := { program := "ytbfeaiaoelkggaa", sum := "09d90f1243093e71d7624caba31ef2d4536fea678693ff0874f8fa9c238daf8d", func := "loop.example/planargeometry/laws.FnComposeMatrices", spec := "fnComposeMatrices", unfollowed := true, recurses := true, apart := false, narrowed := true }
def FnComposeMatricesUptoSaid : Prop := fnComposeMatricesUptoRow.holds Try.pinned (OpenSpec.upto fnComposeMatricesSpec)

/-- 'laws.FnMaxima', WHERE WHAT IT READS IS OF BULK AT MOST 1048576: true; the input reads as it did. -/
def fnMaximaUptoRow : OpenClaim := { program := "ytbfeaiaoelkggaa", sum := "09d90f1243093e71d7624caba31ef2d4536fea678693ff0874f8fa9c238daf8d", func := "loop.example/planargeometry/laws.FnMaxima", spec := "fnMaxima", unfollowed := true, recurses := true, apart := false, narrowed := true }
def FnMaximaUptoSaid : Prop := fnMaximaUptoRow.holds Try.pinned (OpenSpec.upto fnMaximaSpec)

/-- 'laws.FnCountWithin', WHERE WHAT IT READS IS OF BULK AT MOST 1048576: true; the input reads as it did. -/
def fnCountWithinUptoRow : OpenClaim := { program := "ytbfeaiaoelkggaa", sum := "09d90f1243093e71d7624caba31ef2d4536fea678693ff0874f8fa9c238daf8d", func := "loop.example/planargeometry/laws.FnCountWithin", spec := "fnCountWithin", unfollowed := true, recurses := true, apart := false, narrowed := true }
def FnCountWithinUptoSaid : Prop := fnCountWithinUptoRow.holds Try.pinned (OpenSpec.upto fnCountWithinSpec)

/-- 'laws.FnInRegion', WHERE WHAT IT READS IS OF BULK AT MOST 1048576: true; the input reads as it did. -/
def fnInRegionUptoRow : OpenClaim := { program := "ytbfeaiaoelkggaa", sum := "09d90f1243093e71d7624caba31ef2d4536fea678693ff0874f8fa9c238daf8d", func := "loop.example/planargeometry/laws.FnInRegion", spec := "fnInRegion", unfollowed := true, recurses := true, apart := false, narrowed := true }
def FnInRegionUptoSaid : Prop := fnInRegionUptoRow.holds Try.pinned (OpenSpec.upto fnInRegionSpec)

end Rows
end Go.Proofs.Ytbfeaiaoelkggaa
