/-
  No cell of these rows narrows 'for every input' (looked for: loops, veiled, ifaces, maps, wideKeys, modest, calm, conditions, laid).
  DERIVED. THE GIVEN ROWS OF THIS SEAT. 12 by the template 'for every input the law returns true; each argument reads behind the call as it read before'; 0 by the template 'total and deterministic' (their statements: YtnfefhphkjfhjaaTotals.lean).
  GIVEN WITH THE SEED: the statements are not yours to turn. If you find one false, say at which input.
  Laid BY PROGRAM, IN A SANDBOX (cutbox-rows.mjs): the forced cells as the released guide's own fill.sh prints them over the translation 5ec2360fb998114f… (all of the seat's roots in one cut). By AI agents, Wed Nov 11 2026. No macro, syntax, notation, axiom, sorry.
-/
import Derived.Test.YtnfefhphkjfhjaaChecked
import GoSem.Claim
import GoSem.ClaimJoined
import GoSem.ClaimMapViews
import Derived.JoinedTies
import Derived.KernelRfl
namespace Go.Proofs.Ytnfefhphkjfhjaa
/- THE CELL 'sum', in the pinned program and in every row, IS THE sha256 OF THE DUMP (.gsa) THAT YtnfefhphkjfhjaaProg.lean LOADS. Nothing in Lean hashes anything: it is a label: what it is worth is what the hold of that sum in a sandbox is worth. -/
noncomputable def Try.pinned : Pinned := { name := "ytnfefhphkjfhjaa", sum := "5ec2360fb998114f2d89963836ace8c400a90030dc41464be22970dad183f189", checked := Try.checked }
namespace Rows
def none {H : Type} : Left H := { results := [], args := [] }

/-- 'laws.FnCross': WHATEVER THE INPUT: true; the input reads as it did. -/
def fnCrossSpec : ChangeSpec := { name := "fnCross", fn := fun _ => fun
  | [d] => { results := [.lit (.bool true)], args := [d] }
  | _ => none }
def fnCrossRow : OpenClaim := { program := "ytnfefhphkjfhjaa", sum := "5ec2360fb998114f2d89963836ace8c400a90030dc41464be22970dad183f189", func := "loop.example/planargeometry/laws.FnCross", spec := "fnCross", unfollowed := true, recurses := true, apart := false }
def FnCrossSaid : Prop := fnCrossRow.holds Try.pinned (OpenSpec.ofChange fnCrossSpec)

/-- ITS FALSE NEIGHBOUR: 'it returns false'. Refute it at one input. -/
def fnCrossWrong : ChangeSpec := { name := "fnCross", fn := fun _ => fun
  | [d] => { results := [.lit (.bool false)], args := [d] }
  | _ => none }
def FnCrossWrongFalsely : Prop := fnCrossRow.holds Try.pinned (OpenSpec.ofChange fnCrossWrong)

/-- 'laws.FnSquaredDistance': WHATEVER THE INPUT: true; the input reads as it did. -/
def fnSquaredDistanceSpec : ChangeSpec := { name := "fnSquaredDistance", fn := fun _ => fun
  | [d] => { results := [.lit (.bool true)], args := [d] }
  | _ => none }
def fnSquaredDistanceRow : OpenClaim := { program := "ytnfefhphkjfhjaa", sum := "5ec2360fb998114f2d89963836ace8c400a90030dc41464be22970dad183f189", func := "loop.example/planargeometry/laws.FnSquaredDistance", spec := "fnSquaredDistance", unfollowed := true, recurses := true, apart := false }
def FnSquaredDistanceSaid : Prop := fnSquaredDistanceRow.holds Try.pinned (OpenSpec.ofChange fnSquaredDistanceSpec)

/-- ITS FALSE NEIGHBOUR: 'it returns false'. Refute it at one input. -/
def fnSquaredDistanceWrong : ChangeSpec := { name := "fnSquaredDistance", fn := fun _ => fun
  | [d] => { results := [.lit (.bool false)], args := [d] }
  | _ => none }
def FnSquaredDistanceWrongFalsely : Prop := fnSquaredDistanceRow.holds Try.pinned (OpenSpec.ofChange fnSquaredDistanceWrong)

/-- 'laws.FnOrient': WHATEVER THE INPUT: true; the input reads as it did. -/
def fnOrientSpec : ChangeSpec := { name := "fnOrient", fn := fun _ => fun
  | [d] => { results := [.lit (.bool true)], args := [d] }
  | _ => none }
def fnOrientRow : OpenClaim := { program := "ytnfefhphkjfhjaa", sum := "5ec2360fb998114f2d89963836ace8c400a90030dc41464be22970dad183f189", func := "loop.example/planargeometry/laws.FnOrient", spec := "fnOrient", unfollowed := true, recurses := true, apart := false }
def FnOrientSaid : Prop := fnOrientRow.holds Try.pinned (OpenSpec.ofChange fnOrientSpec)

/-- ITS FALSE NEIGHBOUR: 'it returns false'. Refute it at one input. -/
def fnOrientWrong : ChangeSpec := { name := "fnOrient", fn := fun _ => fun
  | [d] => { results := [.lit (.bool false)], args := [d] }
  | _ => none }
def FnOrientWrongFalsely : Prop := fnOrientRow.holds Try.pinned (OpenSpec.ofChange fnOrientWrong)

/-- 'laws.FnManhattan': WHATEVER THE INPUT: true; the input reads as it did. -/
def fnManhattanSpec : ChangeSpec := { name := "fnManhattan", fn := fun _ => fun
  | [d] => { results := [.lit (.bool true)], args := [d] }
  | _ => none }
def fnManhattanRow : OpenClaim := { program := "ytnfefhphkjfhjaa", sum := "5ec2360fb998114f2d89963836ace8c400a90030dc41464be22970dad183f189", func := "loop.example/planargeometry/laws.FnManhattan", spec := "fnManhattan", unfollowed := true, recurses := true, apart := false }
def FnManhattanSaid : Prop := fnManhattanRow.holds Try.pinned (OpenSpec.ofChange fnManhattanSpec)

/-- ITS FALSE NEIGHBOUR: 'it returns false'. Refute it at one input. -/
def fnManhattanWrong : ChangeSpec := { name := "fnManhattan", fn := fun _ => fun
  | [d] => { results := [.lit (.bool false)], args := [d] }
  | _ => none }
def FnManhattanWrongFalsely : Prop := fnManhattanRow.holds Try.pinned (OpenSpec.ofChange fnManhattanWrong)

/-- 'laws.FnManhattanTriangle': WHATEVER THE INPUT: true; the input reads as it did. -/
def fnManhattanTriangleSpec : ChangeSpec := { name := "fnManhattanTriangle", fn := fun _ => fun
  | [d1, d2] => { results := [.lit (.bool true)], args := [d1, d2] }
  | _ => none }
def fnManhattanTriangleRow : OpenClaim := { program := "ytnfefhphkjfhjaa", sum := "5ec2360fb998114f2d89963836ace8c400a90030dc41464be22970dad183f189", func := "loop.example/planargeometry/laws.FnManhattanTriangle", spec := "fnManhattanTriangle", unfollowed := true, recurses := true, apart := false }
def FnManhattanTriangleSaid : Prop := fnManhattanTriangleRow.holds Try.pinned (OpenSpec.ofChange fnManhattanTriangleSpec)

/-- ITS FALSE NEIGHBOUR: 'it returns false'. Refute it at one input. -/
def fnManhattanTriangleWrong : ChangeSpec := { name := "fnManhattanTriangle", fn := fun _ => fun
  | [d1, d2] => { results := [.lit (.bool false)], args := [d1, d2] }
  | _ => none }
def FnManhattanTriangleWrongFalsely : Prop := fnManhattanTriangleRow.holds Try.pinned (OpenSpec.ofChange fnManhattanTriangleWrong)

/-- 'laws.FnDual': WHATEVER THE INPUT: true; the input reads as it did. -/
def fnDualSpec : ChangeSpec := { name := "fnDual", fn := fun _ => fun
  | [d] => { results := [.lit (.bool true)], args := [d] }
  | _ => none }
def fnDualRow : OpenClaim := { program := "ytnfefhphkjfhjaa", sum := "5ec2360fb998114f2d89963836ace8c400a90030dc41464be22970dad183f189", func := "loop.example/planargeometry/laws.FnDual", spec := "fnDual", apart := false }
def FnDualSaid : Prop := fnDualRow.holds Try.pinned (OpenSpec.ofChange fnDualSpec)

/-- ITS FALSE NEIGHBOUR: 'it returns false'. Refute it at one input. -/
def fnDualWrong : ChangeSpec := { name := "fnDual", fn := fun _ => fun
  | [d] => { results := [.lit (.bool false)], args := [d] }
  | _ => none }
def FnDualWrongFalsely : Prop := fnDualRow.holds Try.pinned (OpenSpec.ofChange fnDualWrong)

/-- 'laws.FnDualPoint': WHATEVER THE INPUT: true; the input reads as it did. -/
def fnDualPointSpec : ChangeSpec := { name := "fnDualPoint", fn := fun _ => fun
  | [d] => { results := [.lit (.bool true)], args := [d] }
  | _ => none }
def fnDualPointRow : OpenClaim := { program := "ytnfefhphkjfhjaa", sum := "5ec2360fb998114f2d89963836ace8c400a90030dc41464be22970dad183f189", func := "loop.example/planargeometry/laws.FnDualPoint", spec := "fnDualPoint", apart := false }
def FnDualPointSaid : Prop := fnDualPointRow.holds Try.pinned (OpenSpec.ofChange fnDualPointSpec)

/-- ITS FALSE NEIGHBOUR: 'it returns false'. Refute it at one input. -/
def fnDualPointWrong : ChangeSpec := { name := "fnDualPoint", fn := fun _ => fun
  | [d] => { results := [.lit (.bool false)], args := [d] }
  | _ => none }
def FnDualPointWrongFalsely : Prop := fnDualPointRow.holds Try.pinned (OpenSpec.ofChange fnDualPointWrong)

/-- 'laws.FnHeightOver': WHATEVER THE INPUT: true; the input reads as it did. -/
def fnHeightOverSpec : ChangeSpec := { name := "fnHeightOver", fn := fun _ => fun
  | [d1, d2] => { results := [.lit (.bool true)], args := [d1, d2] }
  | _ => none }
def fnHeightOverRow : OpenClaim := { program := "ytnfefhphkjfhjaa", sum := "5ec2360fb998114f2d89963836ace8c400a90030dc41464be22970dad183f189", func := "loop.example/planargeometry/laws.FnHeightOver", spec := "fnHeightOver", apart := false }
def FnHeightOverSaid : Prop := fnHeightOverRow.holds Try.pinned (OpenSpec.ofChange fnHeightOverSpec)

/-- ITS FALSE NEIGHBOUR: 'it returns false'. Refute it at one input. -/
def fnHeightOverWrong : ChangeSpec := { name := "fnHeightOver", fn := fun _ => fun
  | [d1, d2] => { results := [.lit (.bool false)], args := [d1, d2] }
  | _ => none }
def FnHeightOverWrongFalsely : Prop := fnHeightOverRow.holds Try.pinned (OpenSpec.ofChange fnHeightOverWrong)

/-- 'laws.FnDualOrder': WHATEVER THE INPUT: true; the input reads as it did. -/
def fnDualOrderSpec : ChangeSpec := { name := "fnDualOrder", fn := fun _ => fun
  | [d] => { results := [.lit (.bool true)], args := [d] }
  | _ => none }
def fnDualOrderRow : OpenClaim := { program := "ytnfefhphkjfhjaa", sum := "5ec2360fb998114f2d89963836ace8c400a90030dc41464be22970dad183f189", func := "loop.example/planargeometry/laws.FnDualOrder", spec := "fnDualOrder", apart := false }
def FnDualOrderSaid : Prop := fnDualOrderRow.holds Try.pinned (OpenSpec.ofChange fnDualOrderSpec)

/-- ITS FALSE NEIGHBOUR: 'it returns false'. Refute it at one input. -/
def fnDualOrderWrong : ChangeSpec := { name := "fnDualOrder", fn := fun _ => fun
  | [d] => { results := [.lit (.bool false)], args := [d] }
  | _ => none }
def FnDualOrderWrongFalsely : Prop := fnDualOrderRow.holds Try.pinned (OpenSpec.ofChange fnDualOrderWrong)

/-- 'laws.FnOnSegment': WHATEVER THE INPUT: true; the input reads as it did. -/
def fnOnSegmentSpec : ChangeSpec := { name := "fnOnSegment", fn := fun _ => fun
  | [d] => { results := [.lit (.bool true)], args := [d] }
  | _ => none }
def fnOnSegmentRow : OpenClaim := { program := "ytnfefhphkjfhjaa", sum := "5ec2360fb998114f2d89963836ace8c400a90030dc41464be22970dad183f189", func := "loop.example/planargeometry/laws.FnOnSegment", spec := "fnOnSegment", unfollowed := true, recurses := true, apart := false }
def FnOnSegmentSaid : Prop := fnOnSegmentRow.holds Try.pinned (OpenSpec.ofChange fnOnSegmentSpec)

/-- ITS FALSE NEIGHBOUR: 'it returns false'. Refute it at one input. -/
def fnOnSegmentWrong : ChangeSpec := { name := "fnOnSegment", fn := fun _ => fun
  | [d] => { results := [.lit (.bool false)], args := [d] }
  | _ => none }
def FnOnSegmentWrongFalsely : Prop := fnOnSegmentRow.holds Try.pinned (OpenSpec.ofChange fnOnSegmentWrong)

/-- 'laws.FnMeetRects': WHATEVER THE INPUT: true; the input reads as it did. -/
def fnMeetRectsSpec : ChangeSpec := { name := "fnMeetRects", fn := fun _ => fun
  | [d] => { results := [.lit (.bool true)], args := [d] }
  | _ => none }
def fnMeetRectsRow : OpenClaim := { program := "ytnfefhphkjfhjaa", sum := "5ec2360fb998114f2d89963836ace8c400a90030dc41464be22970dad183f189", func := "loop.example/planargeometry/laws.FnMeetRects", spec := "fnMeetRects", unfollowed := true, recurses := true, apart := false }
def FnMeetRectsSaid : Prop := fnMeetRectsRow.holds Try.pinned (OpenSpec.ofChange fnMeetRectsSpec)

/-- ITS FALSE NEIGHBOUR: 'it returns false'. Refute it at one input. -/
def fnMeetRectsWrong : ChangeSpec := { name := "fnMeetRects", fn := fun _ => fun
  | [d] => { results := [.lit (.bool false)], args := [d] }
  | _ => none }
def FnMeetRectsWrongFalsely : Prop := fnMeetRectsRow.holds Try.pinned (OpenSpec.ofChange fnMeetRectsWrong)

/-- 'laws.FnExactLineThrough': WHATEVER THE INPUT: true; the input reads as it did. -/
def fnExactLineThroughSpec : ChangeSpec := { name := "fnExactLineThrough", fn := fun _ => fun
  | [d1, d2] => { results := [.lit (.bool true)], args := [d1, d2] }
  | _ => none }
def fnExactLineThroughRow : OpenClaim := { program := "ytnfefhphkjfhjaa", sum := "5ec2360fb998114f2d89963836ace8c400a90030dc41464be22970dad183f189", func := "loop.example/planargeometry/laws.FnExactLineThrough", spec := "fnExactLineThrough", unfollowed := true, recurses := true, apart := false }
def FnExactLineThroughSaid : Prop := fnExactLineThroughRow.holds Try.pinned (OpenSpec.ofChange fnExactLineThroughSpec)

/-- ITS FALSE NEIGHBOUR: 'it returns false'. Refute it at one input. -/
def fnExactLineThroughWrong : ChangeSpec := { name := "fnExactLineThrough", fn := fun _ => fun
  | [d1, d2] => { results := [.lit (.bool false)], args := [d1, d2] }
  | _ => none }
def FnExactLineThroughWrongFalsely : Prop := fnExactLineThroughRow.holds Try.pinned (OpenSpec.ofChange fnExactLineThroughWrong)

/- THE SECOND FORM. 'bulk': how many values and letters a reading holds, each counted each time it is reached (what is shared counts as often as it is met; a slice's spare places count too). A statement '..UptoSaid' is the law's where the arguments, and the package variables that the reading takes, are together of bulk at most 1048576: NARROWER than '..Said'. Prove '..Said' where nothing that the law and all that it calls make is longer than what came in: it says more and counts as full. Else prove '..UptoSaid'. A law counts once. -/
mutual
def uptoBulk {H : Type} : DataW H → Nat
  | .lit (.string bytes) => bytes.length + 1
  | .lit _ => 1
  | .nil => 1
  | .ptr d => uptoBulk d + 1
  | .slice elems spare => uptoBulkAll elems + uptoBulkAll spare + 1
  | .agg parts => uptoBulkAll parts + 1
  | .iface _ d => uptoBulk d + 1
  | .map entries => uptoBulkEntries entries + 1
  | .held _ => 1
def uptoBulkAll {H : Type} : List (DataW H) → Nat
  | [] => 0
  | d :: r => uptoBulk d + uptoBulkAll r
def uptoBulkEntries {H : Type} : List (Lit × DataW H) → Nat
  | [] => 0
  | x :: r => uptoBulkEntry x + uptoBulkEntries r
def uptoBulkEntry {H : Type} : Lit × DataW H → Nat
  | (.string bytes, d) => bytes.length + uptoBulk d + 1
  | (_, d) => uptoBulk d + 1
 end
def uptoSmall : (H : Type) → List (DataW H) → Bool := fun _ ds => decide (uptoBulkAll ds ≤ 1048576)
def OpenSpec.upto (s : _root_.Go.ChangeSpec) : _root_.Go.OpenSpec := { _root_.Go.OpenSpec.ofChange s with cond := some uptoSmall }

/-- 'laws.FnCross', WHERE WHAT IT READS IS OF BULK AT MOST 1048576: true; the input reads as it did. -/
def fnCrossUptoRow : OpenClaim := { program := "ytnfefhphkjfhjaa", sum := "5ec2360fb998114f2d89963836ace8c400a90030dc41464be22970dad183f189", func := "loop.example/planargeometry/laws.FnCross", spec := "fnCross", unfollowed := true, recurses := true, apart := false, narrowed := true }
def FnCrossUptoSaid : Prop := fnCrossUptoRow.holds Try.pinned (OpenSpec.upto fnCrossSpec)

/-- 'laws.FnSquaredDistance', WHERE WHAT IT READS IS OF BULK AT MOST 1048576: true; the input reads as it did. -/
def fnSquaredDistanceUptoRow : OpenClaim := { program := "ytnfefhphkjfhjaa", sum := "5ec2360fb998114f2d89963836ace8c400a90030dc41464be22970dad183f189", func := "loop.example/planargeometry/laws.FnSquaredDistance", spec := "fnSquaredDistance", unfollowed := true, recurses := true, apart := false, narrowed := true }
def FnSquaredDistanceUptoSaid : Prop := fnSquaredDistanceUptoRow.holds Try.pinned (OpenSpec.upto fnSquaredDistanceSpec)

/-- 'laws.FnOrient', WHERE WHAT IT READS IS OF BULK AT MOST 1048576: true; the input reads as it did. -/
def fnOrientUptoRow : OpenClaim := { program := "ytnfefhphkjfhjaa", sum := "5ec2360fb998114f2d89963836ace8c400a90030dc41464be22970dad183f189", func := "loop.example/planargeometry/laws.FnOrient", spec := "fnOrient", unfollowed := true, recurses := true, apart := false, narrowed := true }
def FnOrientUptoSaid : Prop := fnOrientUptoRow.holds Try.pinned (OpenSpec.upto fnOrientSpec)

/-- 'laws.FnManhattan', WHERE WHAT IT READS IS OF BULK AT MOST 1048576: true; the input reads as it did. -/
def fnManhattanUptoRow : OpenClaim := { program := "ytnfefhphkjfhjaa", sum := "5ec2360fb998114f2d89963836ace8c400a90030dc41464be22970dad183f189", func := "loop.example/planargeometry/laws.FnManhattan", spec := "fnManhattan", unfollowed := true, recurses := true, apart := false, narrowed := true }
def FnManhattanUptoSaid : Prop := fnManhattanUptoRow.holds Try.pinned (OpenSpec.upto fnManhattanSpec)

/-- 'laws.FnManhattanTriangle', WHERE WHAT IT READS IS OF BULK AT MOST 1048576: true; the input reads as it did. -/
def fnManhattanTriangleUptoRow : OpenClaim := { program := "ytnfefhphkjfhjaa", sum := "5ec2360fb998114f2d89963836ace8c400a90030dc41464be22970dad183f189", func := "loop.example/planargeometry/laws.FnManhattanTriangle", spec := "fnManhattanTriangle", unfollowed := true, recurses := true, apart := false, narrowed := true }
def FnManhattanTriangleUptoSaid : Prop := fnManhattanTriangleUptoRow.holds Try.pinned (OpenSpec.upto fnManhattanTriangleSpec)

/-- 'laws.FnDual', WHERE WHAT IT READS IS OF BULK AT MOST 1048576: true; the input reads as it did. -/
def fnDualUptoRow : OpenClaim := { program := "ytnfefhphkjfhjaa", sum := "5ec2360fb998114f2d89963836ace8c400a90030dc41464be22970dad183f189", func := "loop.example/planargeometry/laws.FnDual", spec := "fnDual", apart := false, narrowed := true }
def FnDualUptoSaid : Prop := fnDualUptoRow.holds Try.pinned (OpenSpec.upto fnDualSpec)

/-- 'laws.FnDualPoint', WHERE WHAT IT READS IS OF BULK AT MOST 1048576: true; the input reads as it did. -/
def fnDualPointUptoRow : OpenClaim := { program := "ytnfefhphkjfhjaa", sum := "5ec2360fb998114f2d89963836ace8c400a90030dc41464be22970dad183f189", func := "loop.example/planargeometry/laws.FnDualPoint", spec := "fnDualPoint", apart := false, narrowed := true }
def FnDualPointUptoSaid : Prop := fnDualPointUptoRow.holds Try.pinned (OpenSpec.upto fnDualPointSpec)

/-- 'laws.FnHeightOver', WHERE WHAT IT READS IS OF BULK AT MOST 1048576: true; the input reads as it did. -/
def fnHeightOverUptoRow : OpenClaim := { program := "ytnfefhphkjfhjaa", sum := "5ec2360fb998114f2d89963836ace8c400a90030dc41464be22970dad183f189", func := "loop.example/planargeometry/laws.FnHeightOver", spec := "fnHeightOver", apart := false, narrowed := true }
def FnHeightOverUptoSaid : Prop := fnHeightOverUptoRow.holds Try.pinned (OpenSpec.upto fnHeightOverSpec)

/-- 'laws.FnDualOrder', WHERE WHAT IT READS IS OF BULK AT MOST 1048576: true; the input reads as it did. -/
def fnDualOrderUptoRow : OpenClaim := { program := "ytnfefhphkjfhjaa", sum := "5ec2360fb998114f2d89963836ace8c400a90030dc41464be22970dad183f189", func := "loop.example/planargeometry/laws.FnDualOrder", spec := "fnDualOrder", apart := false, narrowed := true }
def FnDualOrderUptoSaid : Prop := fnDualOrderUptoRow.holds Try.pinned (OpenSpec.upto fnDualOrderSpec)

/-- 'laws.FnOnSegment', WHERE WHAT IT READS IS OF BULK AT MOST 1048576: true; the input reads as it did. -/
def fnOnSegmentUptoRow : OpenClaim := { program := "ytnfefhphkjfhjaa", sum := "5ec2360fb998114f2d89963836ace8c400a90030dc41464be22970dad183f189", func := "loop.example/planargeometry/laws.FnOnSegment", spec := "fnOnSegment", unfollowed := true, recurses := true, apart := false, narrowed := true }
def FnOnSegmentUptoSaid : Prop := fnOnSegmentUptoRow.holds Try.pinned (OpenSpec.upto fnOnSegmentSpec)

/-- 'laws.FnMeetRects', WHERE WHAT IT READS IS OF BULK AT MOST 1048576: true; the input reads as it did. -/
def fnMeetRectsUptoRow : OpenClaim := { program := "ytnfefhphkjfhjaa", sum := "5ec2360fb998114f2d89963836ace8c400a90030dc41464be22970dad183f189", func := "loop.example/planargeometry/laws.FnMeetRects", spec := "fnMeetRects", unfollowed := true, recurses := true, apart := false, narrowed := true }
def FnMeetRectsUptoSaid : Prop := fnMeetRectsUptoRow.holds Try.pinned (OpenSpec.upto fnMeetRectsSpec)

/-- 'laws.FnExactLineThrough', WHERE WHAT IT READS IS OF BULK AT MOST 1048576: true; the input reads as it did. -/
def fnExactLineThroughUptoRow : OpenClaim := { program := "ytnfefhphkjfhjaa", sum := "5ec2360fb998114f2d89963836ace8c400a90030dc41464be22970dad183f189", func := "loop.example/planargeometry/laws.FnExactLineThrough", spec := "fnExactLineThrough", unfollowed := true, recurses := true, apart := false, narrowed := true }
def FnExactLineThroughUptoSaid : Prop := fnExactLineThroughUptoRow.holds Try.pinned (OpenSpec.upto fnExactLineThroughSpec)

end Rows
end Go.Proofs.Ytnfefhphkjfhjaa
