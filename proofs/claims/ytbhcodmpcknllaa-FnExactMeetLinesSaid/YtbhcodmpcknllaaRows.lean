/-
  No cell of these rows narrows 'for every input' (looked for: loops, veiled, ifaces, maps, wideKeys, modest, calm, conditions, laid).
  DERIVED. THE GIVEN ROWS OF THIS SEAT. 12 by the template 'for every input the law returns true; each argument reads behind the call as it read before'; 0 by the template 'total and deterministic' (their statements: YtbhcodmpcknllaaTotals.lean).
  GIVEN WITH THE SEED: the statements are not yours to turn. If you find one false, say at which input.
  Laid BY PROGRAM, IN A SANDBOX (cutbox-rows.mjs): the forced cells as the released guide's own fill.sh prints them over the translation a248083bd926a807… (all of the seat's roots in one cut). By AI agents, Wed Nov 11 2026. No macro, syntax, notation, axiom, sorry.
-/
import Derived.Test.YtbhcodmpcknllaaChecked
import GoSem.Claim
import GoSem.ClaimJoined
import GoSem.ClaimMapViews
import Derived.JoinedTies
import Derived.KernelRfl
namespace Go.Proofs.Ytbhcodmpcknllaa
/- THE CELL 'sum', in the pinned program and in every row, IS THE sha256 OF THE DUMP (.gsa) THAT YtbhcodmpcknllaaProg.lean LOADS. Nothing in Lean hashes anything: it is a label: what it is worth is what the hold of that sum in a sandbox is worth. -/
noncomputable def Try.pinned : Pinned := { name := "ytbhcodmpcknllaa", sum := "a248083bd926a8078b68f908937fd760a2349debde9684eeb013132ccac3d947", checked := Try.checked }
namespace Rows
def none {H : Type} : Left H := { results := [], args := [] }

/-- 'laws.FnExactMulRats': WHATEVER THE INPUT: true; the input reads as it did. -/
def fnExactMulRatsSpec : ChangeSpec := { name := "fnExactMulRats", fn := fun _ => fun
  | [d1, d2] => { results := [.lit (.bool true)], args := [d1, d2] }
  | _ => none }
def fnExactMulRatsRow : OpenClaim := { program := "ytbhcodmpcknllaa", sum := "a248083bd926a8078b68f908937fd760a2349debde9684eeb013132ccac3d947", func := "loop.example/planargeometry/laws.FnExactMulRats", spec := "fnExactMulRats", apart := false }
def FnExactMulRatsSaid : Prop := fnExactMulRatsRow.holds Try.pinned (OpenSpec.ofChange fnExactMulRatsSpec)

/-- ITS FALSE NEIGHBOUR: 'it returns false'. Refute it at one input. -/
def fnExactMulRatsWrong : ChangeSpec := { name := "fnExactMulRats", fn := fun _ => fun
  | [d1, d2] => { results := [.lit (.bool false)], args := [d1, d2] }
  | _ => none }
def FnExactMulRatsWrongFalsely : Prop := fnExactMulRatsRow.holds Try.pinned (OpenSpec.ofChange fnExactMulRatsWrong)

/-- 'laws.FnExactValidRects': WHATEVER THE INPUT: true; the input reads as it did. -/
def fnExactValidRectsSpec : ChangeSpec := { name := "fnExactValidRects", fn := fun _ => fun
  | [d] => { results := [.lit (.bool true)], args := [d] }
  | _ => none }
def fnExactValidRectsRow : OpenClaim := { program := "ytbhcodmpcknllaa", sum := "a248083bd926a8078b68f908937fd760a2349debde9684eeb013132ccac3d947", func := "loop.example/planargeometry/laws.FnExactValidRects", spec := "fnExactValidRects", unfollowed := true, recurses := true, apart := false }
def FnExactValidRectsSaid : Prop := fnExactValidRectsRow.holds Try.pinned (OpenSpec.ofChange fnExactValidRectsSpec)

/-- ITS FALSE NEIGHBOUR: 'it returns false'. Refute it at one input. -/
def fnExactValidRectsWrong : ChangeSpec := { name := "fnExactValidRects", fn := fun _ => fun
  | [d] => { results := [.lit (.bool false)], args := [d] }
  | _ => none }
def FnExactValidRectsWrongFalsely : Prop := fnExactValidRectsRow.holds Try.pinned (OpenSpec.ofChange fnExactValidRectsWrong)

/-- 'laws.FnExactInTriangle': WHATEVER THE INPUT: true; the input reads as it did. -/
def fnExactInTriangleSpec : ChangeSpec := { name := "fnExactInTriangle", fn := fun _ => fun
  | [d1, d2, d3, d4] => { results := [.lit (.bool true)], args := [d1, d2, d3, d4] }
  | _ => none }
def fnExactInTriangleRow : OpenClaim := { program := "ytbhcodmpcknllaa", sum := "a248083bd926a8078b68f908937fd760a2349debde9684eeb013132ccac3d947", func := "loop.example/planargeometry/laws.FnExactInTriangle", spec := "fnExactInTriangle", unfollowed := true, recurses := true, apart := false }
def FnExactInTriangleSaid : Prop := fnExactInTriangleRow.holds Try.pinned (OpenSpec.ofChange fnExactInTriangleSpec)

/-- ITS FALSE NEIGHBOUR: 'it returns false'. Refute it at one input. -/
def fnExactInTriangleWrong : ChangeSpec := { name := "fnExactInTriangle", fn := fun _ => fun
  | [d1, d2, d3, d4] => { results := [.lit (.bool false)], args := [d1, d2, d3, d4] }
  | _ => none }
def FnExactInTriangleWrongFalsely : Prop := fnExactInTriangleRow.holds Try.pinned (OpenSpec.ofChange fnExactInTriangleWrong)

/-- 'laws.FnExactCountWithin': WHATEVER THE INPUT: true; the input reads as it did. -/
def fnExactCountWithinSpec : ChangeSpec := { name := "fnExactCountWithin", fn := fun _ => fun
  | [d1, d2, d3] => { results := [.lit (.bool true)], args := [d1, d2, d3] }
  | _ => none }
def fnExactCountWithinRow : OpenClaim := { program := "ytbhcodmpcknllaa", sum := "a248083bd926a8078b68f908937fd760a2349debde9684eeb013132ccac3d947", func := "loop.example/planargeometry/laws.FnExactCountWithin", spec := "fnExactCountWithin", unfollowed := true, recurses := true, apart := false }
def FnExactCountWithinSaid : Prop := fnExactCountWithinRow.holds Try.pinned (OpenSpec.ofChange fnExactCountWithinSpec)

/-- ITS FALSE NEIGHBOUR: 'it returns false'. Refute it at one input. -/
def fnExactCountWithinWrong : ChangeSpec := { name := "fnExactCountWithin", fn := fun _ => fun
  | [d1, d2, d3] => { results := [.lit (.bool false)], args := [d1, d2, d3] }
  | _ => none }
def FnExactCountWithinWrongFalsely : Prop := fnExactCountWithinRow.holds Try.pinned (OpenSpec.ofChange fnExactCountWithinWrong)

/-- 'laws.FnExactInRegion': WHATEVER THE INPUT: true; the input reads as it did. -/
def fnExactInRegionSpec : ChangeSpec := { name := "fnExactInRegion", fn := fun _ => fun
  | [d1, d2] => { results := [.lit (.bool true)], args := [d1, d2] }
  | _ => none }
def fnExactInRegionRow : OpenClaim := { program := "ytbhcodmpcknllaa", sum := "a248083bd926a8078b68f908937fd760a2349debde9684eeb013132ccac3d947", func := "loop.example/planargeometry/laws.FnExactInRegion", spec := "fnExactInRegion", unfollowed := true, recurses := true, apart := false }
def FnExactInRegionSaid : Prop := fnExactInRegionRow.holds Try.pinned (OpenSpec.ofChange fnExactInRegionSpec)

/-- ITS FALSE NEIGHBOUR: 'it returns false'. Refute it at one input. -/
def fnExactInRegionWrong : ChangeSpec := { name := "fnExactInRegion", fn := fun _ => fun
  | [d1, d2] => { results := [.lit (.bool false)], args := [d1, d2] }
  | _ => none }
def FnExactInRegionWrongFalsely : Prop := fnExactInRegionRow.holds Try.pinned (OpenSpec.ofChange fnExactInRegionWrong)

/-- 'laws.FnExactNearestTo': WHATEVER THE INPUT: true; the input reads as it did. -/
def fnExactNearestToSpec : ChangeSpec := { name := "fnExactNearestTo", fn := fun _ => fun
  | [d1, d2] => { results := [.lit (.bool true)], args := [d1, d2] }
  | _ => none }
def fnExactNearestToRow : OpenClaim := { program := "ytbhcodmpcknllaa", sum := "a248083bd926a8078b68f908937fd760a2349debde9684eeb013132ccac3d947", func := "loop.example/planargeometry/laws.FnExactNearestTo", spec := "fnExactNearestTo", unfollowed := true, recurses := true, apart := false }
def FnExactNearestToSaid : Prop := fnExactNearestToRow.holds Try.pinned (OpenSpec.ofChange fnExactNearestToSpec)

/-- ITS FALSE NEIGHBOUR: 'it returns false'. Refute it at one input. -/
def fnExactNearestToWrong : ChangeSpec := { name := "fnExactNearestTo", fn := fun _ => fun
  | [d1, d2] => { results := [.lit (.bool false)], args := [d1, d2] }
  | _ => none }
def FnExactNearestToWrongFalsely : Prop := fnExactNearestToRow.holds Try.pinned (OpenSpec.ofChange fnExactNearestToWrong)

/-- 'laws.FnExactInCircle': WHATEVER THE INPUT: true; the input reads as it did. -/
def fnExactInCircleSpec : ChangeSpec := { name := "fnExactInCircle", fn := fun _ => fun
  | [d1, d2, d3, d4] => { results := [.lit (.bool true)], args := [d1, d2, d3, d4] }
  | _ => none }
def fnExactInCircleRow : OpenClaim := { program := "ytbhcodmpcknllaa", sum := "a248083bd926a8078b68f908937fd760a2349debde9684eeb013132ccac3d947", func := "loop.example/planargeometry/laws.FnExactInCircle", spec := "fnExactInCircle", unfollowed := true, recurses := true, apart := false }
def FnExactInCircleSaid : Prop := fnExactInCircleRow.holds Try.pinned (OpenSpec.ofChange fnExactInCircleSpec)

/-- ITS FALSE NEIGHBOUR: 'it returns false'. Refute it at one input. -/
def fnExactInCircleWrong : ChangeSpec := { name := "fnExactInCircle", fn := fun _ => fun
  | [d1, d2, d3, d4] => { results := [.lit (.bool false)], args := [d1, d2, d3, d4] }
  | _ => none }
def FnExactInCircleWrongFalsely : Prop := fnExactInCircleRow.holds Try.pinned (OpenSpec.ofChange fnExactInCircleWrong)

/-- 'laws.FnExactExtreme': WHATEVER THE INPUT: true; the input reads as it did. -/
def fnExactExtremeSpec : ChangeSpec := { name := "fnExactExtreme", fn := fun _ => fun
  | [d1, d2] => { results := [.lit (.bool true)], args := [d1, d2] }
  | _ => none }
def fnExactExtremeRow : OpenClaim := { program := "ytbhcodmpcknllaa", sum := "a248083bd926a8078b68f908937fd760a2349debde9684eeb013132ccac3d947", func := "loop.example/planargeometry/laws.FnExactExtreme", spec := "fnExactExtreme", unfollowed := true, recurses := true, apart := false }
def FnExactExtremeSaid : Prop := fnExactExtremeRow.holds Try.pinned (OpenSpec.ofChange fnExactExtremeSpec)

/-- ITS FALSE NEIGHBOUR: 'it returns false'. Refute it at one input. -/
def fnExactExtremeWrong : ChangeSpec := { name := "fnExactExtreme", fn := fun _ => fun
  | [d1, d2] => { results := [.lit (.bool false)], args := [d1, d2] }
  | _ => none }
def FnExactExtremeWrongFalsely : Prop := fnExactExtremeRow.holds Try.pinned (OpenSpec.ofChange fnExactExtremeWrong)

/-- 'laws.FnExactSideOf': WHATEVER THE INPUT: true; the input reads as it did. -/
def fnExactSideOfSpec : ChangeSpec := { name := "fnExactSideOf", fn := fun _ => fun
  | [d1, d2] => { results := [.lit (.bool true)], args := [d1, d2] }
  | _ => none }
def fnExactSideOfRow : OpenClaim := { program := "ytbhcodmpcknllaa", sum := "a248083bd926a8078b68f908937fd760a2349debde9684eeb013132ccac3d947", func := "loop.example/planargeometry/laws.FnExactSideOf", spec := "fnExactSideOf", apart := false }
def FnExactSideOfSaid : Prop := fnExactSideOfRow.holds Try.pinned (OpenSpec.ofChange fnExactSideOfSpec)

/-- ITS FALSE NEIGHBOUR: 'it returns false'. Refute it at one input. -/
def fnExactSideOfWrong : ChangeSpec := { name := "fnExactSideOf", fn := fun _ => fun
  | [d1, d2] => { results := [.lit (.bool false)], args := [d1, d2] }
  | _ => none }
def FnExactSideOfWrongFalsely : Prop := fnExactSideOfRow.holds Try.pinned (OpenSpec.ofChange fnExactSideOfWrong)

/-- 'laws.FnExactMeetLines': WHATEVER THE INPUT: true; the input reads as it did. -/
def fnExactMeetLinesSpec : ChangeSpec := { name := "fnExactMeetLines", fn := fun _ => fun
  | [d1, d2] => { results := [.lit (.bool true)], args := [d1, d2] }
  | _ => none }
def fnExactMeetLinesRow : OpenClaim := { program := "ytbhcodmpcknllaa", sum := "a248083bd926a8078b68f908937fd760a2349debde9684eeb013132ccac3d947", func := "loop.example/planargeometry/laws.FnExactMeetLines", spec := "fnExactMeetLines", apart := false }
def FnExactMeetLinesSaid : Prop := fnExactMeetLinesRow.holds Try.pinned (OpenSpec.ofChange fnExactMeetLinesSpec)

/-- ITS FALSE NEIGHBOUR: 'it returns false'. Refute it at one input. -/
def fnExactMeetLinesWrong : ChangeSpec := { name := "fnExactMeetLines", fn := fun _ => fun
  | [d1, d2] => { results := [.lit (.bool false)], args := [d1, d2] }
  | _ => none }
def FnExactMeetLinesWrongFalsely : Prop := fnExactMeetLinesRow.holds Try.pinned (OpenSpec.ofChange fnExactMeetLinesWrong)

/-- 'laws.FnExactClosestPair': WHATEVER THE INPUT: true; the input reads as it did. -/
def fnExactClosestPairSpec : ChangeSpec := { name := "fnExactClosestPair", fn := fun _ => fun
  | [d] => { results := [.lit (.bool true)], args := [d] }
  | _ => none }
def fnExactClosestPairRow : OpenClaim := { program := "ytbhcodmpcknllaa", sum := "a248083bd926a8078b68f908937fd760a2349debde9684eeb013132ccac3d947", func := "loop.example/planargeometry/laws.FnExactClosestPair", spec := "fnExactClosestPair", unfollowed := true, recurses := true, apart := false }
def FnExactClosestPairSaid : Prop := fnExactClosestPairRow.holds Try.pinned (OpenSpec.ofChange fnExactClosestPairSpec)

/-- ITS FALSE NEIGHBOUR: 'it returns false'. Refute it at one input. -/
def fnExactClosestPairWrong : ChangeSpec := { name := "fnExactClosestPair", fn := fun _ => fun
  | [d] => { results := [.lit (.bool false)], args := [d] }
  | _ => none }
def FnExactClosestPairWrongFalsely : Prop := fnExactClosestPairRow.holds Try.pinned (OpenSpec.ofChange fnExactClosestPairWrong)

/-- 'laws.FnExactDiameter': WHATEVER THE INPUT: true; the input reads as it did. -/
def fnExactDiameterSpec : ChangeSpec := { name := "fnExactDiameter", fn := fun _ => fun
  | [d] => { results := [.lit (.bool true)], args := [d] }
  | _ => none }
def fnExactDiameterRow : OpenClaim := { program := "ytbhcodmpcknllaa", sum := "a248083bd926a8078b68f908937fd760a2349debde9684eeb013132ccac3d947", func := "loop.example/planargeometry/laws.FnExactDiameter", spec := "fnExactDiameter", unfollowed := true, recurses := true, apart := false }
def FnExactDiameterSaid : Prop := fnExactDiameterRow.holds Try.pinned (OpenSpec.ofChange fnExactDiameterSpec)

/-- ITS FALSE NEIGHBOUR: 'it returns false'. Refute it at one input. -/
def fnExactDiameterWrong : ChangeSpec := { name := "fnExactDiameter", fn := fun _ => fun
  | [d] => { results := [.lit (.bool false)], args := [d] }
  | _ => none }
def FnExactDiameterWrongFalsely : Prop := fnExactDiameterRow.holds Try.pinned (OpenSpec.ofChange fnExactDiameterWrong)

/- THE SECOND FORM. 'bulk': how many values and letters a reading holds, each counted each time it is reached (what is shared counts as often as it is met; a slice's spare places count too). A statement '..UptoSaid' is the law's where the arguments, and the package variables that the reading takes, are together of bulk at most 1048576: NARROWER than '..Said'. Prove '..Said' where nothing that the law and all that it calls make is longer than what came in: it says more and counts as full. Else prove '..UptoSaid'. A law counts once. -/
mutual
def uptoBulk {H : Type} : DataW H → Nat
  | .lit (.string bytes) => bytes.length + 1
  | .lit _ => 1
  | .nil => 1
  | .ptr d => uptoBulk d + 1
  | .slice elems spare => uptoBulkAll elems + uptoBulkAll spare + 1
  | .agg parts => uptoBulkAll parts + 1
  | .iface _ d => uptoBulk d + 1
  | .map entries => uptoBulkEntries entries + 1
  | .held _ => 1
def uptoBulkAll {H : Type} : List (DataW H) → Nat
  | [] => 0
  | d :: r => uptoBulk d + uptoBulkAll r
def uptoBulkEntries {H : Type} : List (Lit × DataW H) → Nat
  | [] => 0
  | x :: r => uptoBulkEntry x + uptoBulkEntries r
def uptoBulkEntry {H : Type} : Lit × DataW H → Nat
  | (.string bytes, d) => bytes.length + uptoBulk d + 1
  | (_, d) => uptoBulk d + 1
 end
def uptoSmall : (H : Type) → List (DataW H) → Bool := fun _ ds => decide (uptoBulkAll ds ≤ 1048576)
def OpenSpec.upto (s : _root_.Go.ChangeSpec) : _root_.Go.OpenSpec := { _root_.Go.OpenSpec.ofChange s with cond := some uptoSmall }

/-- 'laws.FnExactMulRats', WHERE WHAT IT READS IS OF BULK AT MOST 1048576: true; the input reads as it did. -/
def fnExactMulRatsUptoRow : OpenClaim := { program := "ytbhcodmpcknllaa", sum := "a248083bd926a8078b68f908937fd760a2349debde9684eeb013132ccac3d947", func := "loop.example/planargeometry/laws.FnExactMulRats", spec := "fnExactMulRats", apart := false, narrowed := true }
def FnExactMulRatsUptoSaid : Prop := fnExactMulRatsUptoRow.holds Try.pinned (OpenSpec.upto fnExactMulRatsSpec)

/-- 'laws.FnExactValidRects', WHERE WHAT IT READS IS OF BULK AT MOST 1048576: true; the input reads as it did. -/
def fnExactValidRectsUptoRow : OpenClaim := { program := "ytbhcodmpcknllaa", sum := "a248083bd926a8078b68f908937fd760a2349debde9684eeb013132ccac3d947", func := "loop.example/planargeometry/laws.FnExactValidRects", spec := "fnExactValidRects", unfollowed := true, recurses := true, apart := false, narrowed := true }
def FnExactValidRectsUptoSaid : Prop := fnExactValidRectsUptoRow.holds Try.pinned (OpenSpec.upto fnExactValidRectsSpec)

/-- 'laws.FnExactInTriangle', WHERE WHAT IT READS IS OF BULK AT MOST 1048576: true; the input reads as it did. -/
def fnExactInTriangleUptoRow : OpenClaim := { program := "ytbhcodmpcknllaa", sum := "a248083bd926a8078b68f908937fd760a2349debde9684eeb013132ccac3d947", func := "loop.example/planargeometry/laws.FnExactInTriangle", spec := "fnExactInTriangle", unfollowed := true, recurses := true, apart := false, narrowed := true }
def FnExactInTriangleUptoSaid : Prop := fnExactInTriangleUptoRow.holds Try.pinned (OpenSpec.upto fnExactInTriangleSpec)

/-- 'laws.FnExactCountWithin', WHERE WHAT IT READS IS OF BULK AT MOST 1048576: true; the input reads as it did. -/
def fnExactCountWithinUptoRow : OpenClaim := { program := "ytbhcodmpcknllaa", sum := "a248083bd926a8078b68f908937fd760a2349debde9684eeb013132ccac3d947", func := "loop.example/planargeometry/laws.FnExactCountWithin", spec := "fnExactCountWithin", unfollowed := true, recurses := true, apart := false, narrowed := true }
def FnExactCountWithinUptoSaid : Prop := fnExactCountWithinUptoRow.holds Try.pinned (OpenSpec.upto fnExactCountWithinSpec)

/-- 'laws.FnExactInRegion', WHERE WHAT IT READS IS OF BULK AT MOST 1048576: true; the input reads as it did. -/
def fnExactInRegionUptoRow : OpenClaim := { program := "ytbhcodmpcknllaa", sum := "a248083bd926a8078b68f908937fd760a2349debde9684eeb013132ccac3d947", func := "loop.example/planargeometry/laws.FnExactInRegion", spec := "fnExactInRegion", unfollowed := true, recurses := true, apart := false, narrowed := true }
def FnExactInRegionUptoSaid : Prop := fnExactInRegionUptoRow.holds Try.pinned (OpenSpec.upto fnExactInRegionSpec)

/-- 'laws.FnExactNearestTo', WHERE WHAT IT READS IS OF BULK AT MOST 1048576: true; the input reads as it did. -/
def fnExactNearestToUptoRow : OpenClaim := { program := "ytbhcodmpcknllaa", sum := "a248083bd926a8078b68f908937fd760a2349debde9684eeb013132ccac3d947", func := "loop.example/planargeometry/laws.FnExactNearestTo", spec := "fnExactNearestTo", unfollowed := true, recurses := true, apart := false, narrowed := true }
def FnExactNearestToUptoSaid : Prop := fnExactNearestToUptoRow.holds Try.pinned (OpenSpec.upto fnExactNearestToSpec)

/-- 'laws.FnExactInCircle', WHERE WHAT IT READS IS OF BULK AT MOST 1048576: true; the input reads as it did. -/
def fnExactInCircleUptoRow : OpenClaim := { program := "ytbhcodmpcknllaa", sum := "a248083bd926a8078b68f908937fd760a2349debde9684eeb013132ccac3d947", func := "loop.example/planargeometry/laws.FnExactInCircle", spec := "fnExactInCircle", unfollowed := true, recurses := true, apart := false, narrowed := true }
def FnExactInCircleUptoSaid : Prop := fnExactInCircleUptoRow.holds Try.pinned (OpenSpec.upto fnExactInCircleSpec)

/-- 'laws.FnExactExtreme', WHERE WHAT IT READS IS OF BULK AT MOST 1048576: true; the input reads as it did. -/
def fnExactExtremeUptoRow : OpenClaim := { program := "ytbhcodmpcknllaa", sum := "a248083bd926a8078b68f908937fd760a2349debde9684eeb013132ccac3d947", func := "loop.example/planargeometry/laws.FnExactExtreme", spec := "fnExactExtreme", unfollowed := true, recurses := true, apart := false, narrowed := true }
def FnExactExtremeUptoSaid : Prop := fnExactExtremeUptoRow.holds Try.pinned (OpenSpec.upto fnExactExtremeSpec)

/-- 'laws.FnExactSideOf', WHERE WHAT IT READS IS OF BULK AT MOST 1048576: true; the input reads as it did. -/
def fnExactSideOfUptoRow : OpenClaim := { program := "ytbhcodmpcknllaa", sum := "a248083bd926a8078b68f908937fd760a2349debde9684eeb013132ccac3d947", func := "loop.example/planargeometry/laws.FnExactSideOf", spec := "fnExactSideOf", apart := false, narrowed := true }
def FnExactSideOfUptoSaid : Prop := fnExactSideOfUptoRow.holds Try.pinned (OpenSpec.upto fnExactSideOfSpec)

/-- 'laws.FnExactMeetLines', WHERE WHAT IT READS IS OF BULK AT MOST 1048576: true; the input reads as it did. -/
def fnExactMeetLinesUptoRow : OpenClaim := { program := "ytbhcodmpcknllaa", sum := "a248083bd926a8078b68f908937fd760a2349debde9684eeb013132ccac3d947", func := "loop.example/planargeometry/laws.FnExactMeetLines", spec := "fnExactMeetLines", apart := false, narrowed := true }
def FnExactMeetLinesUptoSaid : Prop := fnExactMeetLinesUptoRow.holds Try.pinned (OpenSpec.upto fnExactMeetLinesSpec)

/-- 'laws.FnExactClosestPair', WHERE WHAT IT READS IS OF BULK AT MOST 1048576: true; the input reads as it did. -/
def fnExactClosestPairUptoRow : OpenClaim := { program := "ytbhcodmpcknllaa", sum := "a248083bd926a8078b68f908937fd760a2349debde9684eeb013132ccac3d947", func := "loop.example/planargeometry/laws.FnExactClosestPair", spec := "fnExactClosestPair", unfollowed := true, recurses := true, apart := false, narrowed := true }
def FnExactClosestPairUptoSaid : Prop := fnExactClosestPairUptoRow.holds Try.pinned (OpenSpec.upto fnExactClosestPairSpec)

/-- 'laws.FnExactDiameter', WHERE WHAT IT READS IS OF BULK AT MOST 1048576: true; the input reads as it did. -/
def fnExactDiameterUptoRow : OpenClaim := { program := "ytbhcodmpcknllaa", sum := "a248083bd926a8078b68f908937fd760a2349debde9684eeb013132ccac3d947", func := "loop.example/planargeometry/laws.FnExactDiameter", spec := "fnExactDiameter", unfollowed := true, recurses := true, apart := false, narrowed := true }
def FnExactDiameterUptoSaid : Prop := fnExactDiameterUptoRow.holds Try.pinned (OpenSpec.upto fnExactDiameterSpec)

end Rows
end Go.Proofs.Ytbhcodmpcknllaa
