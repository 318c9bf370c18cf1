/-
  No cell of these rows narrows 'for every input' (looked for: loops, veiled, ifaces, maps, wideKeys, modest, calm, conditions, laid).
  DERIVED. THE GIVEN ROWS OF THIS SEAT. 12 by the template 'for every input the law returns true; each argument reads behind the call as it read before'; 0 by the template 'total and deterministic' (their statements: YtckaikammpiliaaTotals.lean).
  GIVEN WITH THE SEED: the statements are not yours to turn. If you find one false, say at which input.
  Laid BY PROGRAM, IN A SANDBOX (cutbox-rows.mjs): the forced cells as the released guide's own fill.sh prints them over the translation 91e39ee223afb6db… (all of the seat's roots in one cut). By AI agents, Wed Nov 11 2026. No macro, syntax, notation, axiom, sorry.
-/
import Derived.Test.YtckaikammpiliaaChecked
import GoSem.Claim
import GoSem.ClaimJoined
import GoSem.ClaimMapViews
import Derived.JoinedTies
import Derived.KernelRfl
namespace Go.Proofs.Ytckaikammpiliaa
/- THE CELL 'sum', in the pinned program and in every row, IS THE sha256 OF THE DUMP (.gsa) THAT YtckaikammpiliaaProg.lean LOADS. Nothing in Lean hashes anything: it is a label: what it is worth is what the hold of that sum in a sandbox is worth. -/
noncomputable def Try.pinned : Pinned := { name := "ytckaikammpiliaa", sum := "91e39ee223afb6dbd0f7aa63c53127138ec07030683583c6ed787445400b6c62", checked := Try.checked }
namespace Rows
def none {H : Type} : Left H := { results := [], args := [] }

/-- 'laws.FnExactConstants': WHATEVER THE INPUT: true; the input reads as it did. -/
def fnExactConstantsSpec : ChangeSpec := { name := "fnExactConstants", fn := fun _ => fun
  | [] => { results := [.lit (.bool true)], args := [] }
  | _ => none }
def fnExactConstantsRow : OpenClaim := { program := "ytckaikammpiliaa", sum := "91e39ee223afb6dbd0f7aa63c53127138ec07030683583c6ed787445400b6c62", func := "loop.example/planargeometry/laws.FnExactConstants", spec := "fnExactConstants", apart := false }
def FnExactConstantsSaid : Prop := fnExactConstantsRow.holds Try.pinned (OpenSpec.ofChange fnExactConstantsSpec)

/-- ITS FALSE NEIGHBOUR: 'it returns false'. Refute it at one input. -/
def fnExactConstantsWrong : ChangeSpec := { name := "fnExactConstants", fn := fun _ => fun
  | [] => { results := [.lit (.bool false)], args := [] }
  | _ => none }
def FnExactConstantsWrongFalsely : Prop := fnExactConstantsRow.holds Try.pinned (OpenSpec.ofChange fnExactConstantsWrong)

/-- 'laws.FnExactValidGraph': WHATEVER THE INPUT: true; the input reads as it did. -/
def fnExactValidGraphSpec : ChangeSpec := { name := "fnExactValidGraph", fn := fun _ => fun
  | [d] => { results := [.lit (.bool true)], args := [d] }
  | _ => none }
def fnExactValidGraphRow : OpenClaim := { program := "ytckaikammpiliaa", sum := "91e39ee223afb6dbd0f7aa63c53127138ec07030683583c6ed787445400b6c62", func := "loop.example/planargeometry/laws.FnExactValidGraph", spec := "fnExactValidGraph", apart := false }
def FnExactValidGraphSaid : Prop := fnExactValidGraphRow.holds Try.pinned (OpenSpec.ofChange fnExactValidGraphSpec)

/-- ITS FALSE NEIGHBOUR: 'it returns false'. Refute it at one input. -/
def fnExactValidGraphWrong : ChangeSpec := { name := "fnExactValidGraph", fn := fun _ => fun
  | [d] => { results := [.lit (.bool false)], args := [d] }
  | _ => none }
def FnExactValidGraphWrongFalsely : Prop := fnExactValidGraphRow.holds Try.pinned (OpenSpec.ofChange fnExactValidGraphWrong)

/-- 'laws.FnExactValidPoint': WHATEVER THE INPUT: true; the input reads as it did. -/
def fnExactValidPointSpec : ChangeSpec := { name := "fnExactValidPoint", fn := fun _ => fun
  | [d] => { results := [.lit (.bool true)], args := [d] }
  | _ => none }
def fnExactValidPointRow : OpenClaim := { program := "ytckaikammpiliaa", sum := "91e39ee223afb6dbd0f7aa63c53127138ec07030683583c6ed787445400b6c62", func := "loop.example/planargeometry/laws.FnExactValidPoint", spec := "fnExactValidPoint", apart := false }
def FnExactValidPointSaid : Prop := fnExactValidPointRow.holds Try.pinned (OpenSpec.ofChange fnExactValidPointSpec)

/-- ITS FALSE NEIGHBOUR: 'it returns false'. Refute it at one input. -/
def fnExactValidPointWrong : ChangeSpec := { name := "fnExactValidPoint", fn := fun _ => fun
  | [d] => { results := [.lit (.bool false)], args := [d] }
  | _ => none }
def FnExactValidPointWrongFalsely : Prop := fnExactValidPointRow.holds Try.pinned (OpenSpec.ofChange fnExactValidPointWrong)

/-- 'laws.FnExactDeterminant': WHATEVER THE INPUT: true; the input reads as it did. -/
def fnExactDeterminantSpec : ChangeSpec := { name := "fnExactDeterminant", fn := fun _ => fun
  | [d] => { results := [.lit (.bool true)], args := [d] }
  | _ => none }
def fnExactDeterminantRow : OpenClaim := { program := "ytckaikammpiliaa", sum := "91e39ee223afb6dbd0f7aa63c53127138ec07030683583c6ed787445400b6c62", func := "loop.example/planargeometry/laws.FnExactDeterminant", spec := "fnExactDeterminant", apart := false }
def FnExactDeterminantSaid : Prop := fnExactDeterminantRow.holds Try.pinned (OpenSpec.ofChange fnExactDeterminantSpec)

/-- ITS FALSE NEIGHBOUR: 'it returns false'. Refute it at one input. -/
def fnExactDeterminantWrong : ChangeSpec := { name := "fnExactDeterminant", fn := fun _ => fun
  | [d] => { results := [.lit (.bool false)], args := [d] }
  | _ => none }
def FnExactDeterminantWrongFalsely : Prop := fnExactDeterminantRow.holds Try.pinned (OpenSpec.ofChange fnExactDeterminantWrong)

/-- 'laws.FnExactDualGraph': WHATEVER THE INPUT: true; the input reads as it did. -/
def fnExactDualGraphSpec : ChangeSpec := { name := "fnExactDualGraph", fn := fun _ => fun
  | [d] => { results := [.lit (.bool true)], args := [d] }
  | _ => none }
def fnExactDualGraphRow : OpenClaim := { program := "ytckaikammpiliaa", sum := "91e39ee223afb6dbd0f7aa63c53127138ec07030683583c6ed787445400b6c62", func := "loop.example/planargeometry/laws.FnExactDualGraph", spec := "fnExactDualGraph", apart := false }
def FnExactDualGraphSaid : Prop := fnExactDualGraphRow.holds Try.pinned (OpenSpec.ofChange fnExactDualGraphSpec)

/-- ITS FALSE NEIGHBOUR: 'it returns false'. Refute it at one input. -/
def fnExactDualGraphWrong : ChangeSpec := { name := "fnExactDualGraph", fn := fun _ => fun
  | [d] => { results := [.lit (.bool false)], args := [d] }
  | _ => none }
def FnExactDualGraphWrongFalsely : Prop := fnExactDualGraphRow.holds Try.pinned (OpenSpec.ofChange fnExactDualGraphWrong)

/-- 'laws.FnExactDualPoint': WHATEVER THE INPUT: true; the input reads as it did. -/
def fnExactDualPointSpec : ChangeSpec := { name := "fnExactDualPoint", fn := fun _ => fun
  | [d] => { results := [.lit (.bool true)], args := [d] }
  | _ => none }
def fnExactDualPointRow : OpenClaim := { program := "ytckaikammpiliaa", sum := "91e39ee223afb6dbd0f7aa63c53127138ec07030683583c6ed787445400b6c62", func := "loop.example/planargeometry/laws.FnExactDualPoint", spec := "fnExactDualPoint", apart := false }
def FnExactDualPointSaid : Prop := fnExactDualPointRow.holds Try.pinned (OpenSpec.ofChange fnExactDualPointSpec)

/-- ITS FALSE NEIGHBOUR: 'it returns false'. Refute it at one input. -/
def fnExactDualPointWrong : ChangeSpec := { name := "fnExactDualPoint", fn := fun _ => fun
  | [d] => { results := [.lit (.bool false)], args := [d] }
  | _ => none }
def FnExactDualPointWrongFalsely : Prop := fnExactDualPointRow.holds Try.pinned (OpenSpec.ofChange fnExactDualPointWrong)

/-- 'laws.FnExactValidRat': WHATEVER THE INPUT: true; the input reads as it did. -/
def fnExactValidRatSpec : ChangeSpec := { name := "fnExactValidRat", fn := fun _ => fun
  | [d] => { results := [.lit (.bool true)], args := [d] }
  | _ => none }
def fnExactValidRatRow : OpenClaim := { program := "ytckaikammpiliaa", sum := "91e39ee223afb6dbd0f7aa63c53127138ec07030683583c6ed787445400b6c62", func := "loop.example/planargeometry/laws.FnExactValidRat", spec := "fnExactValidRat", apart := false }
def FnExactValidRatSaid : Prop := fnExactValidRatRow.holds Try.pinned (OpenSpec.ofChange fnExactValidRatSpec)

/-- ITS FALSE NEIGHBOUR: 'it returns false'. Refute it at one input. -/
def fnExactValidRatWrong : ChangeSpec := { name := "fnExactValidRat", fn := fun _ => fun
  | [d] => { results := [.lit (.bool false)], args := [d] }
  | _ => none }
def FnExactValidRatWrongFalsely : Prop := fnExactValidRatRow.holds Try.pinned (OpenSpec.ofChange fnExactValidRatWrong)

/-- 'laws.FnExactValidSegment': WHATEVER THE INPUT: true; the input reads as it did. -/
def fnExactValidSegmentSpec : ChangeSpec := { name := "fnExactValidSegment", fn := fun _ => fun
  | [d] => { results := [.lit (.bool true)], args := [d] }
  | _ => none }
def fnExactValidSegmentRow : OpenClaim := { program := "ytckaikammpiliaa", sum := "91e39ee223afb6dbd0f7aa63c53127138ec07030683583c6ed787445400b6c62", func := "loop.example/planargeometry/laws.FnExactValidSegment", spec := "fnExactValidSegment", unfollowed := true, recurses := true, apart := false }
def FnExactValidSegmentSaid : Prop := fnExactValidSegmentRow.holds Try.pinned (OpenSpec.ofChange fnExactValidSegmentSpec)

/-- ITS FALSE NEIGHBOUR: 'it returns false'. Refute it at one input. -/
def fnExactValidSegmentWrong : ChangeSpec := { name := "fnExactValidSegment", fn := fun _ => fun
  | [d] => { results := [.lit (.bool false)], args := [d] }
  | _ => none }
def FnExactValidSegmentWrongFalsely : Prop := fnExactValidSegmentRow.holds Try.pinned (OpenSpec.ofChange fnExactValidSegmentWrong)

/-- 'laws.FnExactValidLine': WHATEVER THE INPUT: true; the input reads as it did. -/
def fnExactValidLineSpec : ChangeSpec := { name := "fnExactValidLine", fn := fun _ => fun
  | [d] => { results := [.lit (.bool true)], args := [d] }
  | _ => none }
def fnExactValidLineRow : OpenClaim := { program := "ytckaikammpiliaa", sum := "91e39ee223afb6dbd0f7aa63c53127138ec07030683583c6ed787445400b6c62", func := "loop.example/planargeometry/laws.FnExactValidLine", spec := "fnExactValidLine", apart := false }
def FnExactValidLineSaid : Prop := fnExactValidLineRow.holds Try.pinned (OpenSpec.ofChange fnExactValidLineSpec)

/-- ITS FALSE NEIGHBOUR: 'it returns false'. Refute it at one input. -/
def fnExactValidLineWrong : ChangeSpec := { name := "fnExactValidLine", fn := fun _ => fun
  | [d] => { results := [.lit (.bool false)], args := [d] }
  | _ => none }
def FnExactValidLineWrongFalsely : Prop := fnExactValidLineRow.holds Try.pinned (OpenSpec.ofChange fnExactValidLineWrong)

/-- 'laws.FnExactCross': WHATEVER THE INPUT: true; the input reads as it did. -/
def fnExactCrossSpec : ChangeSpec := { name := "fnExactCross", fn := fun _ => fun
  | [d1, d2, d3] => { results := [.lit (.bool true)], args := [d1, d2, d3] }
  | _ => none }
def fnExactCrossRow : OpenClaim := { program := "ytckaikammpiliaa", sum := "91e39ee223afb6dbd0f7aa63c53127138ec07030683583c6ed787445400b6c62", func := "loop.example/planargeometry/laws.FnExactCross", spec := "fnExactCross", unfollowed := true, recurses := true, apart := false }
def FnExactCrossSaid : Prop := fnExactCrossRow.holds Try.pinned (OpenSpec.ofChange fnExactCrossSpec)

/-- ITS FALSE NEIGHBOUR: 'it returns false'. Refute it at one input. -/
def fnExactCrossWrong : ChangeSpec := { name := "fnExactCross", fn := fun _ => fun
  | [d1, d2, d3] => { results := [.lit (.bool false)], args := [d1, d2, d3] }
  | _ => none }
def FnExactCrossWrongFalsely : Prop := fnExactCrossRow.holds Try.pinned (OpenSpec.ofChange fnExactCrossWrong)

/-- 'laws.FnExactSquaredDistance': WHATEVER THE INPUT: true; the input reads as it did. -/
def fnExactSquaredDistanceSpec : ChangeSpec := { name := "fnExactSquaredDistance", fn := fun _ => fun
  | [d1, d2] => { results := [.lit (.bool true)], args := [d1, d2] }
  | _ => none }
def fnExactSquaredDistanceRow : OpenClaim := { program := "ytckaikammpiliaa", sum := "91e39ee223afb6dbd0f7aa63c53127138ec07030683583c6ed787445400b6c62", func := "loop.example/planargeometry/laws.FnExactSquaredDistance", spec := "fnExactSquaredDistance", unfollowed := true, recurses := true, apart := false }
def FnExactSquaredDistanceSaid : Prop := fnExactSquaredDistanceRow.holds Try.pinned (OpenSpec.ofChange fnExactSquaredDistanceSpec)

/-- ITS FALSE NEIGHBOUR: 'it returns false'. Refute it at one input. -/
def fnExactSquaredDistanceWrong : ChangeSpec := { name := "fnExactSquaredDistance", fn := fun _ => fun
  | [d1, d2] => { results := [.lit (.bool false)], args := [d1, d2] }
  | _ => none }
def FnExactSquaredDistanceWrongFalsely : Prop := fnExactSquaredDistanceRow.holds Try.pinned (OpenSpec.ofChange fnExactSquaredDistanceWrong)

/-- 'laws.FnExactManhattan': WHATEVER THE INPUT: true; the input reads as it did. -/
def fnExactManhattanSpec : ChangeSpec := { name := "fnExactManhattan", fn := fun _ => fun
  | [d1, d2] => { results := [.lit (.bool true)], args := [d1, d2] }
  | _ => none }
def fnExactManhattanRow : OpenClaim := { program := "ytckaikammpiliaa", sum := "91e39ee223afb6dbd0f7aa63c53127138ec07030683583c6ed787445400b6c62", func := "loop.example/planargeometry/laws.FnExactManhattan", spec := "fnExactManhattan", unfollowed := true, recurses := true, apart := false }
def FnExactManhattanSaid : Prop := fnExactManhattanRow.holds Try.pinned (OpenSpec.ofChange fnExactManhattanSpec)

/-- ITS FALSE NEIGHBOUR: 'it returns false'. Refute it at one input. -/
def fnExactManhattanWrong : ChangeSpec := { name := "fnExactManhattan", fn := fun _ => fun
  | [d1, d2] => { results := [.lit (.bool false)], args := [d1, d2] }
  | _ => none }
def FnExactManhattanWrongFalsely : Prop := fnExactManhattanRow.holds Try.pinned (OpenSpec.ofChange fnExactManhattanWrong)

/- THE SECOND FORM. 'bulk': how many values and letters a reading holds, each counted each time it is reached (what is shared counts as often as it is met; a slice's spare places count too). A statement '..UptoSaid' is the law's where the arguments, and the package variables that the reading takes, are together of bulk at most 1048576: NARROWER than '..Said'. Prove '..Said' where nothing that the law and all that it calls make is longer than what came in: it says more and counts as full. Else prove '..UptoSaid'. A law counts once. -/
mutual
def uptoBulk {H : Type} : DataW H → Nat
  | .lit (.string bytes) => bytes.length + 1
  | .lit _ => 1
  | .nil => 1
  | .ptr d => uptoBulk d + 1
  | .slice elems spare => uptoBulkAll elems + uptoBulkAll spare + 1
  | .agg parts => uptoBulkAll parts + 1
  | .iface _ d => uptoBulk d + 1
  | .map entries => uptoBulkEntries entries + 1
  | .held _ => 1
def uptoBulkAll {H : Type} : List (DataW H) → Nat
  | [] => 0
  | d :: r => uptoBulk d + uptoBulkAll r
def uptoBulkEntries {H : Type} : List (Lit × DataW H) → Nat
  | [] => 0
  | x :: r => uptoBulkEntry x + uptoBulkEntries r
def uptoBulkEntry {H : Type} : Lit × DataW H → Nat
  | (.string bytes, d) => bytes.length + uptoBulk d + 1
  | (_, d) => uptoBulk d + 1
 end
def uptoSmall : (H : Type) → List (DataW H) → Bool := fun _ ds => decide (uptoBulkAll ds ≤ 1048576)
def OpenSpec.upto (s : _root_.Go.ChangeSpec) : _root_.Go.OpenSpec := { _root_.Go.OpenSpec.ofChange s with cond := some uptoSmall }

/-- 'laws.FnExactConstants', WHERE WHAT IT READS IS OF BULK AT MOST 1048576: true; the input reads as it did. -/
def fnExactConstantsUptoRow : OpenClaim := { program := "ytckaikammpiliaa", sum := "91e39ee223afb6dbd0f7aa63c53127138ec07030683583c6ed787445400b6c62", func := "loop.example/planargeometry/laws.FnExactConstants", spec := "fnExactConstants", apart := false, narrowed := true }
def FnExactConstantsUptoSaid : Prop := fnExactConstantsUptoRow.holds Try.pinned (OpenSpec.upto fnExactConstantsSpec)

/-- 'laws.FnExactValidGraph', WHERE WHAT IT READS IS OF BULK AT MOST 1048576: true; the input reads as it did. -/
def fnExactValidGraphUptoRow : OpenClaim := { program := "ytckaikammpiliaa", sum := "91e39ee223afb6dbd0f7aa63c53127138ec07030683583c6ed787445400b6c62", func := "loop.example/planargeometry/laws.FnExactValidGraph", spec := "fnExactValidGraph", apart := false, narrowed := true }
def FnExactValidGraphUptoSaid : Prop := fnExactValidGraphUptoRow.holds Try.pinned (OpenSpec.upto fnExactValidGraphSpec)

/-- 'laws.FnExactValidPoint', WHERE WHAT IT READS IS OF BULK AT MOST 1048576: true; the input reads as it did. -/
def fnExactValidPointUptoRow : OpenClaim := { program := "ytckaikammpiliaa", sum := "91e39ee223afb6dbd0f7aa63c53127138ec07030683583c6ed787445400b6c62", func := "loop.example/planargeometry/laws.FnExactValidPoint", spec := "fnExactValidPoint", apart := false, narrowed := true }
def FnExactValidPointUptoSaid : Prop := fnExactValidPointUptoRow.holds Try.pinned (OpenSpec.upto fnExactValidPointSpec)

/-- 'laws.FnExactDeterminant', WHERE WHAT IT READS IS OF BULK AT MOST 1048576: true; the input reads as it did. -/
def fnExactDeterminantUptoRow : OpenClaim := { program := "ytckaikammpiliaa", sum := "91e39ee223afb6dbd0f7aa63c53127138ec07030683583c6ed787445400b6c62", func := "loop.example/planargeometry/laws.FnExactDeterminant", spec := "fnExactDeterminant", apart := false, narrowed := true }
def FnExactDeterminantUptoSaid : Prop := fnExactDeterminantUptoRow.holds Try.pinned (OpenSpec.upto fnExactDeterminantSpec)

/-- 'laws.FnExactDualGraph', WHERE WHAT IT READS IS OF BULK AT MOST 1048576: true; the input reads as it did. -/
def fnExactDualGraphUptoRow : OpenClaim := { program := "ytckaikammpiliaa", sum := "91e39ee223afb6dbd0f7aa63c53127138ec07030683583c6ed787445400b6c62", func := "loop.example/planargeometry/laws.FnExactDualGraph", spec := "fnExactDualGraph", apart := false, narrowed := true }
def FnExactDualGraphUptoSaid : Prop := fnExactDualGraphUptoRow.holds Try.pinned (OpenSpec.upto fnExactDualGraphSpec)

/-- 'laws.FnExactDualPoint', WHERE WHAT IT READS IS OF BULK AT MOST 1048576: true; the input reads as it did. -/
def fnExactDualPointUptoRow : OpenClaim := { program := "ytckaikammpiliaa", sum := "91e39ee223afb6dbd0f7aa63c53127138ec07030683583c6ed787445400b6c62", func := "loop.example/planargeometry/laws.FnExactDualPoint", spec := "fnExactDualPoint", apart := false, narrowed := true }
def FnExactDualPointUptoSaid : Prop := fnExactDualPointUptoRow.holds Try.pinned (OpenSpec.upto fnExactDualPointSpec)

/-- 'laws.FnExactValidRat', WHERE WHAT IT READS IS OF BULK AT MOST 1048576: true; the input reads as it did. -/
def fnExactValidRatUptoRow : OpenClaim := { program := "ytckaikammpiliaa", sum := "91e39ee223afb6dbd0f7aa63c53127138ec07030683583c6ed787445400b6c62", func := "loop.example/planargeometry/laws.FnExactValidRat", spec := "fnExactValidRat", apart := false, narrowed := true }
def FnExactValidRatUptoSaid : Prop := fnExactValidRatUptoRow.holds Try.pinned (OpenSpec.upto fnExactValidRatSpec)

/-- 'laws.FnExactValidSegment', WHERE WHAT IT READS IS OF BULK AT MOST 1048576: true; the input reads as it did. -/
def fnExactValidSegmentUptoRow : OpenClaim := { program := "ytckaikammpiliaa", sum := "91e39ee223afb6dbd0f7aa63c53127138ec07030683583c6ed787445400b6c62", func := "loop.example/planargeometry/laws.FnExactValidSegment", spec := "fnExactValidSegment", unfollowed := true, recurses := true, apart := false, narrowed := true }
def FnExactValidSegmentUptoSaid : Prop := fnExactValidSegmentUptoRow.holds Try.pinned (OpenSpec.upto fnExactValidSegmentSpec)

/-- 'laws.FnExactValidLine', WHERE WHAT IT READS IS OF BULK AT MOST 1048576: true; the input reads as it did. -/
def fnExactValidLineUptoRow : OpenClaim := { program := "ytckaikammpiliaa", sum := "91e39ee223afb6dbd0f7aa63c53127138ec07030683583c6ed787445400b6c62", func := "loop.example/planargeometry/laws.FnExactValidLine", spec := "fnExactValidLine", apart := false, narrowed := true }
def FnExactValidLineUptoSaid : Prop := fnExactValidLineUptoRow.holds Try.pinned (OpenSpec.upto fnExactValidLineSpec)

/-- 'laws.FnExactCross', WHERE WHAT IT READS IS OF BULK AT MOST 1048576: true; the input reads as it did. -/
def fnExactCrossUptoRow : OpenClaim := { program := "ytckaikammpiliaa", sum := "91e39ee223afb6dbd0f7aa63c53127138ec07030683583c6ed787445400b6c62", func := "loop.example/planargeometry/laws.FnExactCross", spec := "fnExactCross", unfollowed := true, recurses := true, apart := false, narrowed := true }
def FnExactCrossUptoSaid : Prop := fnExactCrossUptoRow.holds Try.pinned (OpenSpec.upto fnExactCrossSpec)

/-- 'laws.FnExactSquaredDistance', WHERE WHAT IT READS IS OF BULK AT MOST 1048576: true; the input reads as it did. -/
def fnExactSquaredDistanceUptoRow : OpenClaim := { program := "ytckaikammpiliaa", sum := "91e39ee223afb6dbd0f7aa63c53127138ec07030683583c6ed787445400b6c62", func := "loop.example/planargeometry/laws.FnExactSquaredDistance", spec := "fnExactSquaredDistance", unfollowed := true, recurses := true, apart := false, narrowed := true }
def FnExactSquaredDistanceUptoSaid : Prop := fnExactSquaredDistanceUptoRow.holds Try.pinned (OpenSpec.upto fnExactSquaredDistanceSpec)

/-- 'laws.FnExactManhattan', WHERE WHAT IT READS IS OF BULK AT MOST 1048576: true; the input reads as it did. -/
def fnExactManhattanUptoRow : OpenClaim := { program := "ytckaikammpiliaa", sum := "91e39ee223afb6dbd0f7aa63c53127138ec07030683583c6ed787445400b6c62", func := "loop.example/planargeometry/laws.FnExactManhattan", spec := "fnExactManhattan", unfollowed := true, recurses := true, apart := false, narrowed := true }
def FnExactManhattanUptoSaid : Prop := fnExactManhattanUptoRow.holds Try.pinned (OpenSpec.upto fnExactManhattanSpec)

end Rows
end Go.Proofs.Ytckaikammpiliaa
