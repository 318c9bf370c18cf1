/-
  No cell of these rows narrows 'for every input' (looked for: loops, veiled, ifaces, maps, wideKeys, modest, calm, conditions, laid).
  DERIVED. THE GIVEN ROWS OF THIS SEAT. 9 by the template 'for every input the law returns true; each argument reads behind the call as it read before'; 0 by the template 'total and deterministic' (their statements: YtgnjmcfkehgdfaaTotals.lean).
  GIVEN WITH THE SEED: the statements are not yours to turn. If you find one false, say at which input.
  Laid BY PROGRAM, IN A SANDBOX (cutbox-rows.mjs): the forced cells as the released guide's own fill.sh prints them over the translation 01b4454a76a7f823… (all of the seat's roots in one cut). By AI agents, Wed Nov 11 2026. No macro, syntax, notation, axiom, sorry.
-/
import Derived.Test.YtgnjmcfkehgdfaaChecked
import GoSem.Claim
import GoSem.ClaimJoined
import GoSem.ClaimMapViews
import Derived.JoinedTies
import Derived.KernelRfl
namespace Go.Proofs.Ytgnjmcfkehgdfaa
/- THE CELL 'sum', in the pinned program and in every row, IS THE sha256 OF THE DUMP (.gsa) THAT YtgnjmcfkehgdfaaProg.lean LOADS. Nothing in Lean hashes anything: it is a label: what it is worth is what the hold of that sum in a sandbox is worth. -/
noncomputable def Try.pinned : Pinned := { name := "ytgnjmcfkehgdfaa", sum := "01b4454a76a7f8237e1bf944ac402415eac91d2272681daf0477108b1f1d2d64", checked := Try.checked }
namespace Rows
def none {H : Type} : Left H := { results := [], args := [] }

/-- 'laws.FnExactLineThrough': WHATEVER THE INPUT: true; the input reads as it did. -/
def fnExactLineThroughSpec : ChangeSpec := { name := "fnExactLineThrough", fn := fun _ => fun
  | [d1, d2] => { results := [.lit (.bool true)], args := [d1, d2] }
  | _ => none }
def fnExactLineThroughRow : OpenClaim := { program := "ytgnjmcfkehgdfaa", sum := "01b4454a76a7f8237e1bf944ac402415eac91d2272681daf0477108b1f1d2d64", func := "loop.example/planargeometry/laws.FnExactLineThrough", spec := "fnExactLineThrough", unfollowed := true, recurses := true, apart := false }
def FnExactLineThroughSaid : Prop := fnExactLineThroughRow.holds Try.pinned (OpenSpec.ofChange fnExactLineThroughSpec)

/-- ITS FALSE NEIGHBOUR: 'it returns false'. Refute it at one input. -/
def fnExactLineThroughWrong : ChangeSpec := { name := "fnExactLineThrough", fn := fun _ => fun
  | [d1, d2] => { results := [.lit (.bool false)], args := [d1, d2] }
  | _ => none }
def FnExactLineThroughWrongFalsely : Prop := fnExactLineThroughRow.holds Try.pinned (OpenSpec.ofChange fnExactLineThroughWrong)

/-- 'laws.FnExactCountWithin': WHATEVER THE INPUT: true; the input reads as it did. -/
def fnExactCountWithinSpec : ChangeSpec := { name := "fnExactCountWithin", fn := fun _ => fun
  | [d1, d2, d3] => { results := [.lit (.bool true)], args := [d1, d2, d3] }
  | _ => none }
def fnExactCountWithinRow : OpenClaim := { program := "ytgnjmcfkehgdfaa", sum := "01b4454a76a7f8237e1bf944ac402415eac91d2272681daf0477108b1f1d2d64", func := "loop.example/planargeometry/laws.FnExactCountWithin", spec := "fnExactCountWithin", unfollowed := true, recurses := true, apart := false }
def FnExactCountWithinSaid : Prop := fnExactCountWithinRow.holds Try.pinned (OpenSpec.ofChange fnExactCountWithinSpec)

/-- ITS FALSE NEIGHBOUR: 'it returns false'. Refute it at one input. -/
def fnExactCountWithinWrong : ChangeSpec := { name := "fnExactCountWithin", fn := fun _ => fun
  | [d1, d2, d3] => { results := [.lit (.bool false)], args := [d1, d2, d3] }
  | _ => none }
def FnExactCountWithinWrongFalsely : Prop := fnExactCountWithinRow.holds Try.pinned (OpenSpec.ofChange fnExactCountWithinWrong)

/-- 'laws.FnExactNearestTo': WHATEVER THE INPUT: true; the input reads as it did. -/
def fnExactNearestToSpec : ChangeSpec := { name := "fnExactNearestTo", fn := fun _ => fun
  | [d1, d2] => { results := [.lit (.bool true)], args := [d1, d2] }
  | _ => none }
def fnExactNearestToRow : OpenClaim := { program := "ytgnjmcfkehgdfaa", sum := "01b4454a76a7f8237e1bf944ac402415eac91d2272681daf0477108b1f1d2d64", func := "loop.example/planargeometry/laws.FnExactNearestTo", spec := "fnExactNearestTo", unfollowed := true, recurses := true, apart := false }
def FnExactNearestToSaid : Prop := fnExactNearestToRow.holds Try.pinned (OpenSpec.ofChange fnExactNearestToSpec)

/-- ITS FALSE NEIGHBOUR: 'it returns false'. Refute it at one input. -/
def fnExactNearestToWrong : ChangeSpec := { name := "fnExactNearestTo", fn := fun _ => fun
  | [d1, d2] => { results := [.lit (.bool false)], args := [d1, d2] }
  | _ => none }
def FnExactNearestToWrongFalsely : Prop := fnExactNearestToRow.holds Try.pinned (OpenSpec.ofChange fnExactNearestToWrong)

/-- 'laws.FnExactExtreme': WHATEVER THE INPUT: true; the input reads as it did. -/
def fnExactExtremeSpec : ChangeSpec := { name := "fnExactExtreme", fn := fun _ => fun
  | [d1, d2] => { results := [.lit (.bool true)], args := [d1, d2] }
  | _ => none }
def fnExactExtremeRow : OpenClaim := { program := "ytgnjmcfkehgdfaa", sum := "01b4454a76a7f8237e1bf944ac402415eac91d2272681daf0477108b1f1d2d64", func := "loop.example/planargeometry/laws.FnExactExtreme", spec := "fnExactExtreme", unfollowed := true, recurses := true, apart := false }
def FnExactExtremeSaid : Prop := fnExactExtremeRow.holds Try.pinned (OpenSpec.ofChange fnExactExtremeSpec)

/-- ITS FALSE NEIGHBOUR: 'it returns false'. Refute it at one input. -/
def fnExactExtremeWrong : ChangeSpec := { name := "fnExactExtreme", fn := fun _ => fun
  | [d1, d2] => { results := [.lit (.bool false)], args := [d1, d2] }
  | _ => none }
def FnExactExtremeWrongFalsely : Prop := fnExactExtremeRow.holds Try.pinned (OpenSpec.ofChange fnExactExtremeWrong)

/-- 'laws.FnExactInRegion': WHATEVER THE INPUT: true; the input reads as it did. -/
def fnExactInRegionSpec : ChangeSpec := { name := "fnExactInRegion", fn := fun _ => fun
  | [d1, d2] => { results := [.lit (.bool true)], args := [d1, d2] }
  | _ => none }
def fnExactInRegionRow : OpenClaim := { program := "ytgnjmcfkehgdfaa", sum := "01b4454a76a7f8237e1bf944ac402415eac91d2272681daf0477108b1f1d2d64", func := "loop.example/planargeometry/laws.FnExactInRegion", spec := "fnExactInRegion", unfollowed := true, recurses := true, apart := false }
def FnExactInRegionSaid : Prop := fnExactInRegionRow.holds Try.pinned (OpenSpec.ofChange fnExactInRegionSpec)

/-- ITS FALSE NEIGHBOUR: 'it returns false'. Refute it at one input. -/
def fnExactInRegionWrong : ChangeSpec := { name := "fnExactInRegion", fn := fun _ => fun
  | [d1, d2] => { results := [.lit (.bool false)], args := [d1, d2] }
  | _ => none }
def FnExactInRegionWrongFalsely : Prop := fnExactInRegionRow.holds Try.pinned (OpenSpec.ofChange fnExactInRegionWrong)

/-- 'laws.FnExactInCircle': WHATEVER THE INPUT: true; the input reads as it did. -/
def fnExactInCircleSpec : ChangeSpec := { name := "fnExactInCircle", fn := fun _ => fun
  | [d1, d2, d3, d4] => { results := [.lit (.bool true)], args := [d1, d2, d3, d4] }
  | _ => none }
def fnExactInCircleRow : OpenClaim := { program := "ytgnjmcfkehgdfaa", sum := "01b4454a76a7f8237e1bf944ac402415eac91d2272681daf0477108b1f1d2d64", func := "loop.example/planargeometry/laws.FnExactInCircle", spec := "fnExactInCircle", unfollowed := true, recurses := true, apart := false }
def FnExactInCircleSaid : Prop := fnExactInCircleRow.holds Try.pinned (OpenSpec.ofChange fnExactInCircleSpec)

/-- ITS FALSE NEIGHBOUR: 'it returns false'. Refute it at one input. -/
def fnExactInCircleWrong : ChangeSpec := { name := "fnExactInCircle", fn := fun _ => fun
  | [d1, d2, d3, d4] => { results := [.lit (.bool false)], args := [d1, d2, d3, d4] }
  | _ => none }
def FnExactInCircleWrongFalsely : Prop := fnExactInCircleRow.holds Try.pinned (OpenSpec.ofChange fnExactInCircleWrong)

/-- 'laws.FnExactClosestPair': WHATEVER THE INPUT: true; the input reads as it did. -/
def fnExactClosestPairSpec : ChangeSpec := { name := "fnExactClosestPair", fn := fun _ => fun
  | [d] => { results := [.lit (.bool true)], args := [d] }
  | _ => none }
def fnExactClosestPairRow : OpenClaim := { program := "ytgnjmcfkehgdfaa", sum := "01b4454a76a7f8237e1bf944ac402415eac91d2272681daf0477108b1f1d2d64", func := "loop.example/planargeometry/laws.FnExactClosestPair", spec := "fnExactClosestPair", unfollowed := true, recurses := true, apart := false }
def FnExactClosestPairSaid : Prop := fnExactClosestPairRow.holds Try.pinned (OpenSpec.ofChange fnExactClosestPairSpec)

/-- ITS FALSE NEIGHBOUR: 'it returns false'. Refute it at one input. -/
def fnExactClosestPairWrong : ChangeSpec := { name := "fnExactClosestPair", fn := fun _ => fun
  | [d] => { results := [.lit (.bool false)], args := [d] }
  | _ => none }
def FnExactClosestPairWrongFalsely : Prop := fnExactClosestPairRow.holds Try.pinned (OpenSpec.ofChange fnExactClosestPairWrong)

/-- 'laws.FnExactDiameter': WHATEVER THE INPUT: true; the input reads as it did. -/
def fnExactDiameterSpec : ChangeSpec := { name := "fnExactDiameter", fn := fun _ => fun
  | [d] => { results := [.lit (.bool true)], args := [d] }
  | _ => none }
def fnExactDiameterRow : OpenClaim := { program := "ytgnjmcfkehgdfaa", sum := "01b4454a76a7f8237e1bf944ac402415eac91d2272681daf0477108b1f1d2d64", func := "loop.example/planargeometry/laws.FnExactDiameter", spec := "fnExactDiameter", unfollowed := true, recurses := true, apart := false }
def FnExactDiameterSaid : Prop := fnExactDiameterRow.holds Try.pinned (OpenSpec.ofChange fnExactDiameterSpec)

/-- ITS FALSE NEIGHBOUR: 'it returns false'. Refute it at one input. -/
def fnExactDiameterWrong : ChangeSpec := { name := "fnExactDiameter", fn := fun _ => fun
  | [d] => { results := [.lit (.bool false)], args := [d] }
  | _ => none }
def FnExactDiameterWrongFalsely : Prop := fnExactDiameterRow.holds Try.pinned (OpenSpec.ofChange fnExactDiameterWrong)

/-- 'laws.FnExactSideOfRat': WHATEVER THE INPUT: true; the input reads as it did. -/
def fnExactSideOfRatSpec : ChangeSpec := { name := "fnExactSideOfRat", fn := fun _ => fun
  | [d1, d2] => { results := [.lit (.bool true)], args := [d1, d2] }
  | _ => none }
def fnExactSideOfRatRow : OpenClaim := { program := "ytgnjmcfkehgdfaa", sum := "01b4454a76a7f8237e1bf944ac402415eac91d2272681daf0477108b1f1d2d64", func := "loop.example/planargeometry/laws.FnExactSideOfRat", spec := "fnExactSideOfRat", apart := false }
def FnExactSideOfRatSaid : Prop := fnExactSideOfRatRow.holds Try.pinned (OpenSpec.ofChange fnExactSideOfRatSpec)

/-- ITS FALSE NEIGHBOUR: 'it returns false'. Refute it at one input. -/
def fnExactSideOfRatWrong : ChangeSpec := { name := "fnExactSideOfRat", fn := fun _ => fun
  | [d1, d2] => { results := [.lit (.bool false)], args := [d1, d2] }
  | _ => none }
def FnExactSideOfRatWrongFalsely : Prop := fnExactSideOfRatRow.holds Try.pinned (OpenSpec.ofChange fnExactSideOfRatWrong)

/- THE SECOND FORM. 'bulk': how many values and letters a reading holds, each counted each time it is reached (what is shared counts as often as it is met; a slice's spare places count too). A statement '..UptoSaid' is the law's where the arguments, and the package variables that the reading takes, are together of bulk at most 1048576: NARROWER than '..Said'. Prove '..Said' where nothing that the law and all that it calls make is longer than what came in: it says more and counts as full. Else prove '..UptoSaid'. A law counts once. -/
mutual
def uptoBulk {H : Type} : DataW H → Nat
  | .lit (.string bytes) => bytes.length + 1
  | .lit _ => 1
  | .nil => 1
  | .ptr d => uptoBulk d + 1
  | .slice elems spare => uptoBulkAll elems + uptoBulkAll spare + 1
  | .agg parts => uptoBulkAll parts + 1
  | .iface _ d => uptoBulk d + 1
  | .map entries => uptoBulkEntries entries + 1
  | .held _ => 1
def uptoBulkAll {H : Type} : List (DataW H) → Nat
  | [] => 0
  | d :: r => uptoBulk d + uptoBulkAll r
def uptoBulkEntries {H : Type} : List (Lit × DataW H) → Nat
  | [] => 0
  | x :: r => uptoBulkEntry x + uptoBulkEntries r
def uptoBulkEntry {H : Type} : Lit × DataW H → Nat
  | (.string bytes, d) => bytes.length + uptoBulk d + 1
  | (_, d) => uptoBulk d + 1
 end
def uptoSmall : (H : Type) → List (DataW H) → Bool := fun _ ds => decide (uptoBulkAll ds ≤ 1048576)
def OpenSpec.upto (s : _root_.Go.ChangeSpec) : _root_.Go.OpenSpec := { _root_.Go.OpenSpec.ofChange s with cond := some uptoSmall }

/-- 'laws.FnExactLineThrough', WHERE WHAT IT READS IS OF BULK AT MOST 1048576: true; the input reads as it did. -/
def fnExactLineThroughUptoRow : OpenClaim := { program := "ytgnjmcfkehgdfaa", sum := "01b4454a76a7f8237e1bf944ac402415eac91d2272681daf0477108b1f1d2d64", func := "loop.example/planargeometry/laws.FnExactLineThrough", spec := "fnExactLineThrough", unfollowed := true, recurses := true, apart := false, narrowed := true }
def FnExactLineThroughUptoSaid : Prop := fnExactLineThroughUptoRow.holds Try.pinned (OpenSpec.upto fnExactLineThroughSpec)

/-- 'laws.FnExactCountWithin', WHERE WHAT IT READS IS OF BULK AT MOST 1048576: true; the input reads as it did. -/
def fnExactCountWithinUptoRow : OpenClaim := { program := "ytgnjmcfkehgdfaa", sum := "01b4454a76a7f8237e1bf944ac402415eac91d2272681daf0477108b1f1d2d64", func := "loop.example/planargeometry/laws.FnExactCountWithin", spec := "fnExactCountWithin", unfollowed := true, recurses := true, apart := false, narrowed := true }
def FnExactCountWithinUptoSaid : Prop := fnExactCountWithinUptoRow.holds Try.pinned (OpenSpec.upto fnExactCountWithinSpec)

/-- 'laws.FnExactNearestTo', WHERE WHAT IT READS IS OF BULK AT MOST 1048576: true; the input reads as it did. -/
def fnExactNearestToUptoRow : OpenClaim := { program := "ytgnjmcfkehgdfaa", sum := "01b4454a76a7f8237e1bf944ac402415eac91d2272681daf0477108b1f1d2d64", func := "loop.example/planargeometry/laws.FnExactNearestTo", spec := "fnExactNearestTo", unfollowed := true, recurses := true, apart := false, narrowed := true }
def FnExactNearestToUptoSaid : Prop := fnExactNearestToUptoRow.holds Try.pinned (OpenSpec.upto fnExactNearestToSpec)

/-- 'laws.FnExactExtreme', WHERE WHAT IT READS IS OF BULK AT MOST 1048576: true; the input reads as it did. -/
def fnExactExtremeUptoRow : OpenClaim := { program := "ytgnjmcfkehgdfaa", sum := "01b4454a76a7f8237e1bf944ac402415eac91d2272681daf0477108b1f1d2d64", func := "loop.example/planargeometry/laws.FnExactExtreme", spec := "fnExactExtreme", unfollowed := true, recurses := true, apart := false, narrowed := true }
def FnExactExtremeUptoSaid : Prop := fnExactExtremeUptoRow.holds Try.pinned (OpenSpec.upto fnExactExtremeSpec)

/-- 'laws.FnExactInRegion', WHERE WHAT IT READS IS OF BULK AT MOST 1048576: true; the input reads as it did. -/
def fnExactInRegionUptoRow : OpenClaim := { program := "ytgnjmcfkehgdfaa", sum := "01b4454a76a7f8237e1bf944ac402415eac91d2272681daf0477108b1f1d2d64", func := "loop.example/planargeometry/laws.FnExactInRegion", spec := "fnExactInRegion", unfollowed := true, recurses := true, apart := false, narrowed := true }
def FnExactInRegionUptoSaid : Prop := fnExactInRegionUptoRow.holds Try.pinned (OpenSpec.upto fnExactInRegionSpec)

/-- 'laws.FnExactInCircle', WHERE WHAT IT READS IS OF BULK AT MOST 1048576: true; the input reads as it did. -/
def fnExactInCircleUptoRow : OpenClaim := { program := "ytgnjmcfkehgdfaa", sum := "01b4454a76a7f8237e1bf944ac402415eac91d2272681daf0477108b1f1d2d64", func := "loop.example/planargeometry/laws.FnExactInCircle", spec := "fnExactInCircle", unfollowed := true, recurses := true, apart := false, narrowed := true }
def FnExactInCircleUptoSaid : Prop := fnExactInCircleUptoRow.holds Try.pinned (OpenSpec.upto fnExactInCircleSpec)

/-- 'laws.FnExactClosestPair', WHERE WHAT IT READS IS OF BULK AT MOST 1048576: true; the input reads as it did. -/
def fnExactClosestPairUptoRow : OpenClaim := { program := "ytgnjmcfkehgdfaa", sum := "01b4454a76a7f8237e1bf944ac402415eac91d2272681daf0477108b1f1d2d64", func := "loop.example/planargeometry/laws.FnExactClosestPair", spec := "fnExactClosestPair", unfollowed := true, recurses := true, apart := false, narrowed := true }
def FnExactClosestPairUptoSaid : Prop := fnExactClosestPairUptoRow.holds Try.pinned (OpenSpec.upto fnExactClosestPairSpec)

/-- 'laws.FnExactDiameter', WHERE WHAT IT READS IS OF BULK AT MOST 1048576: true; the input reads as it did. -/
def fnExactDiameterUptoRow : OpenClaim := { program := "ytgnjmcfkehgdfaa", sum := "01b4454a76a7f8237e1bf944ac402415eac91d2272681daf0477108b1f1d2d64", func := "loop.example/planargeometry/laws.FnExactDiameter", spec := "fnExactDiameter", unfollowed := true, recurses := true, apart := false, narrowed := true }
def FnExactDiameterUptoSaid : Prop := fnExactDiameterUptoRow.holds Try.pinned (OpenSpec.upto fnExactDiameterSpec)

/-- 'laws.FnExactSideOfRat', WHERE WHAT IT READS IS OF BULK AT MOST 1048576: true; the input reads as it did. -/
def fnExactSideOfRatUptoRow : OpenClaim := { program := "ytgnjmcfkehgdfaa", sum := "01b4454a76a7f8237e1bf944ac402415eac91d2272681daf0477108b1f1d2d64", func := "loop.example/planargeometry/laws.FnExactSideOfRat", spec := "fnExactSideOfRat", apart := false, narrowed := true }
def FnExactSideOfRatUptoSaid : Prop := fnExactSideOfRatUptoRow.holds Try.pinned (OpenSpec.upto fnExactSideOfRatSpec)

end Rows
end Go.Proofs.Ytgnjmcfkehgdfaa
