/-
  No cell of these rows narrows 'for every input' (looked for: loops, veiled, ifaces, maps, wideKeys, modest, calm, conditions, laid).
  DERIVED. THE GIVEN ROWS OF THIS SEAT. 12 by the template 'for every input the law returns true; each argument reads behind the call as it read before'; 0 by the template 'total and deterministic' (their statements: YtgbociejgnifiaaTotals.lean).
  GIVEN WITH THE SEED: the statements are not yours to turn. If you find one false, say at which input.
  Laid BY PROGRAM, IN A SANDBOX (cutbox-rows.mjs): the forced cells as the released guide's own fill.sh prints them over the translation e091eab06b571fee… (all of the seat's roots in one cut). By AI agents, Wed Nov 11 2026. No macro, syntax, notation, axiom, sorry.
-/
import Derived.Test.YtgbociejgnifiaaChecked
import GoSem.Claim
import GoSem.ClaimJoined
import GoSem.ClaimMapViews
import Derived.JoinedTies
import Derived.KernelRfl
namespace Go.Proofs.Ytgbociejgnifiaa
/- THE CELL 'sum', in the pinned program and in every row, IS THE sha256 OF THE DUMP (.gsa) THAT YtgbociejgnifiaaProg.lean LOADS. Nothing in Lean hashes anything: it is a label: what it is worth is what the hold of that sum in a sandbox is worth. -/
noncomputable def Try.pinned : Pinned := { name := "ytgbociejgnifiaa", sum := "e091eab06b571fee2b799e8002207821032e79acee4e8e27ff6fabdc37178296", checked := Try.checked }
namespace Rows
def none {H : Type} : Left H := { results := [], args := [] }

/-- 'laws.FnExactComposeMatrices': WHATEVER THE INPUT: true; the input reads as it did. -/
def fnExactComposeMatricesSpec : ChangeSpec := { name := "fnExactComposeMatrices", fn := fun _ => fun
  | [d1, d2] => { results := [.lit (.bool true)], args := [d1, d2] }
  | _ => none }
def fnExactComposeMatricesRow : OpenClaim := { program := "ytgbociejgnifiaa", sum := "e091eab06b571fee2b799e8002207821032e79acee4e8e27ff6fabdc37178296", func := "loop.example/planargeometry/laws.FnExactComposeMatrices", spec := "fnExactComposeMatrices", apart := false }
def FnExactComposeMatricesSaid : Prop := fnExactComposeMatricesRow.holds Try.pinned (OpenSpec.ofChange fnExactComposeMatricesSpec)

/-- ITS FALSE NEIGHBOUR: 'it returns false'. Refute it at one input. -/
def fnExactComposeMatricesWrong : ChangeSpec := { name := "fnExactComposeMatrices", fn := fun _ => fun
  | [d1, d2] => { results := [.lit (.bool false)], args := [d1, d2] }
  | _ => none }
def FnExactComposeMatricesWrongFalsely : Prop := fnExactComposeMatricesRow.holds Try.pinned (OpenSpec.ofChange fnExactComposeMatricesWrong)

/-- 'laws.FnExactFloorRat': WHATEVER THE INPUT: true; the input reads as it did. -/
def fnExactFloorRatSpec : ChangeSpec := { name := "fnExactFloorRat", fn := fun _ => fun
  | [d] => { results := [.lit (.bool true)], args := [d] }
  | _ => none }
def fnExactFloorRatRow : OpenClaim := { program := "ytgbociejgnifiaa", sum := "e091eab06b571fee2b799e8002207821032e79acee4e8e27ff6fabdc37178296", func := "loop.example/planargeometry/laws.FnExactFloorRat", spec := "fnExactFloorRat", apart := false }
def FnExactFloorRatSaid : Prop := fnExactFloorRatRow.holds Try.pinned (OpenSpec.ofChange fnExactFloorRatSpec)

/-- ITS FALSE NEIGHBOUR: 'it returns false'. Refute it at one input. -/
def fnExactFloorRatWrong : ChangeSpec := { name := "fnExactFloorRat", fn := fun _ => fun
  | [d] => { results := [.lit (.bool false)], args := [d] }
  | _ => none }
def FnExactFloorRatWrongFalsely : Prop := fnExactFloorRatRow.holds Try.pinned (OpenSpec.ofChange fnExactFloorRatWrong)

/-- 'laws.FnExactOnSegment': WHATEVER THE INPUT: true; the input reads as it did. -/
def fnExactOnSegmentSpec : ChangeSpec := { name := "fnExactOnSegment", fn := fun _ => fun
  | [d1, d2] => { results := [.lit (.bool true)], args := [d1, d2] }
  | _ => none }
def fnExactOnSegmentRow : OpenClaim := { program := "ytgbociejgnifiaa", sum := "e091eab06b571fee2b799e8002207821032e79acee4e8e27ff6fabdc37178296", func := "loop.example/planargeometry/laws.FnExactOnSegment", spec := "fnExactOnSegment", unfollowed := true, recurses := true, apart := false }
def FnExactOnSegmentSaid : Prop := fnExactOnSegmentRow.holds Try.pinned (OpenSpec.ofChange fnExactOnSegmentSpec)

/-- ITS FALSE NEIGHBOUR: 'it returns false'. Refute it at one input. -/
def fnExactOnSegmentWrong : ChangeSpec := { name := "fnExactOnSegment", fn := fun _ => fun
  | [d1, d2] => { results := [.lit (.bool false)], args := [d1, d2] }
  | _ => none }
def FnExactOnSegmentWrongFalsely : Prop := fnExactOnSegmentRow.holds Try.pinned (OpenSpec.ofChange fnExactOnSegmentWrong)

/-- 'laws.FnExactInvertMatrix': WHATEVER THE INPUT: true; the input reads as it did. -/
def fnExactInvertMatrixSpec : ChangeSpec := { name := "fnExactInvertMatrix", fn := fun _ => fun
  | [d] => { results := [.lit (.bool true)], args := [d] }
  | _ => none }
def fnExactInvertMatrixRow : OpenClaim := { program := "ytgbociejgnifiaa", sum := "e091eab06b571fee2b799e8002207821032e79acee4e8e27ff6fabdc37178296", func := "loop.example/planargeometry/laws.FnExactInvertMatrix", spec := "fnExactInvertMatrix", apart := false }
def FnExactInvertMatrixSaid : Prop := fnExactInvertMatrixRow.holds Try.pinned (OpenSpec.ofChange fnExactInvertMatrixSpec)

/-- ITS FALSE NEIGHBOUR: 'it returns false'. Refute it at one input. -/
def fnExactInvertMatrixWrong : ChangeSpec := { name := "fnExactInvertMatrix", fn := fun _ => fun
  | [d] => { results := [.lit (.bool false)], args := [d] }
  | _ => none }
def FnExactInvertMatrixWrongFalsely : Prop := fnExactInvertMatrixRow.holds Try.pinned (OpenSpec.ofChange fnExactInvertMatrixWrong)

/-- 'laws.FnExactHeightOver': WHATEVER THE INPUT: true; the input reads as it did. -/
def fnExactHeightOverSpec : ChangeSpec := { name := "fnExactHeightOver", fn := fun _ => fun
  | [d1, d2] => { results := [.lit (.bool true)], args := [d1, d2] }
  | _ => none }
def fnExactHeightOverRow : OpenClaim := { program := "ytgbociejgnifiaa", sum := "e091eab06b571fee2b799e8002207821032e79acee4e8e27ff6fabdc37178296", func := "loop.example/planargeometry/laws.FnExactHeightOver", spec := "fnExactHeightOver", apart := false }
def FnExactHeightOverSaid : Prop := fnExactHeightOverRow.holds Try.pinned (OpenSpec.ofChange fnExactHeightOverSpec)

/-- ITS FALSE NEIGHBOUR: 'it returns false'. Refute it at one input. -/
def fnExactHeightOverWrong : ChangeSpec := { name := "fnExactHeightOver", fn := fun _ => fun
  | [d1, d2] => { results := [.lit (.bool false)], args := [d1, d2] }
  | _ => none }
def FnExactHeightOverWrongFalsely : Prop := fnExactHeightOverRow.holds Try.pinned (OpenSpec.ofChange fnExactHeightOverWrong)

/-- 'laws.FnExactValidHalves': WHATEVER THE INPUT: true; the input reads as it did. -/
def fnExactValidHalvesSpec : ChangeSpec := { name := "fnExactValidHalves", fn := fun _ => fun
  | [d] => { results := [.lit (.bool true)], args := [d] }
  | _ => none }
def fnExactValidHalvesRow : OpenClaim := { program := "ytgbociejgnifiaa", sum := "e091eab06b571fee2b799e8002207821032e79acee4e8e27ff6fabdc37178296", func := "loop.example/planargeometry/laws.FnExactValidHalves", spec := "fnExactValidHalves", unfollowed := true, recurses := true, apart := false }
def FnExactValidHalvesSaid : Prop := fnExactValidHalvesRow.holds Try.pinned (OpenSpec.ofChange fnExactValidHalvesSpec)

/-- ITS FALSE NEIGHBOUR: 'it returns false'. Refute it at one input. -/
def fnExactValidHalvesWrong : ChangeSpec := { name := "fnExactValidHalves", fn := fun _ => fun
  | [d] => { results := [.lit (.bool false)], args := [d] }
  | _ => none }
def FnExactValidHalvesWrongFalsely : Prop := fnExactValidHalvesRow.holds Try.pinned (OpenSpec.ofChange fnExactValidHalvesWrong)

/-- 'laws.FnExactMakeRat': WHATEVER THE INPUT: true; the input reads as it did. -/
def fnExactMakeRatSpec : ChangeSpec := { name := "fnExactMakeRat", fn := fun _ => fun
  | [d1, d2] => { results := [.lit (.bool true)], args := [d1, d2] }
  | _ => none }
def fnExactMakeRatRow : OpenClaim := { program := "ytgbociejgnifiaa", sum := "e091eab06b571fee2b799e8002207821032e79acee4e8e27ff6fabdc37178296", func := "loop.example/planargeometry/laws.FnExactMakeRat", spec := "fnExactMakeRat", apart := false }
def FnExactMakeRatSaid : Prop := fnExactMakeRatRow.holds Try.pinned (OpenSpec.ofChange fnExactMakeRatSpec)

/-- ITS FALSE NEIGHBOUR: 'it returns false'. Refute it at one input. -/
def fnExactMakeRatWrong : ChangeSpec := { name := "fnExactMakeRat", fn := fun _ => fun
  | [d1, d2] => { results := [.lit (.bool false)], args := [d1, d2] }
  | _ => none }
def FnExactMakeRatWrongFalsely : Prop := fnExactMakeRatRow.holds Try.pinned (OpenSpec.ofChange fnExactMakeRatWrong)

/-- 'laws.FnExactMeetRects': WHATEVER THE INPUT: true; the input reads as it did. -/
def fnExactMeetRectsSpec : ChangeSpec := { name := "fnExactMeetRects", fn := fun _ => fun
  | [d1, d2] => { results := [.lit (.bool true)], args := [d1, d2] }
  | _ => none }
def fnExactMeetRectsRow : OpenClaim := { program := "ytgbociejgnifiaa", sum := "e091eab06b571fee2b799e8002207821032e79acee4e8e27ff6fabdc37178296", func := "loop.example/planargeometry/laws.FnExactMeetRects", spec := "fnExactMeetRects", unfollowed := true, recurses := true, apart := false }
def FnExactMeetRectsSaid : Prop := fnExactMeetRectsRow.holds Try.pinned (OpenSpec.ofChange fnExactMeetRectsSpec)

/-- ITS FALSE NEIGHBOUR: 'it returns false'. Refute it at one input. -/
def fnExactMeetRectsWrong : ChangeSpec := { name := "fnExactMeetRects", fn := fun _ => fun
  | [d1, d2] => { results := [.lit (.bool false)], args := [d1, d2] }
  | _ => none }
def FnExactMeetRectsWrongFalsely : Prop := fnExactMeetRectsRow.holds Try.pinned (OpenSpec.ofChange fnExactMeetRectsWrong)

/-- 'laws.FnExactOrient': WHATEVER THE INPUT: true; the input reads as it did. -/
def fnExactOrientSpec : ChangeSpec := { name := "fnExactOrient", fn := fun _ => fun
  | [d1, d2, d3] => { results := [.lit (.bool true)], args := [d1, d2, d3] }
  | _ => none }
def fnExactOrientRow : OpenClaim := { program := "ytgbociejgnifiaa", sum := "e091eab06b571fee2b799e8002207821032e79acee4e8e27ff6fabdc37178296", func := "loop.example/planargeometry/laws.FnExactOrient", spec := "fnExactOrient", unfollowed := true, recurses := true, apart := false }
def FnExactOrientSaid : Prop := fnExactOrientRow.holds Try.pinned (OpenSpec.ofChange fnExactOrientSpec)

/-- ITS FALSE NEIGHBOUR: 'it returns false'. Refute it at one input. -/
def fnExactOrientWrong : ChangeSpec := { name := "fnExactOrient", fn := fun _ => fun
  | [d1, d2, d3] => { results := [.lit (.bool false)], args := [d1, d2, d3] }
  | _ => none }
def FnExactOrientWrongFalsely : Prop := fnExactOrientRow.holds Try.pinned (OpenSpec.ofChange fnExactOrientWrong)

/-- 'laws.FnExactAddRats': WHATEVER THE INPUT: true; the input reads as it did. -/
def fnExactAddRatsSpec : ChangeSpec := { name := "fnExactAddRats", fn := fun _ => fun
  | [d1, d2] => { results := [.lit (.bool true)], args := [d1, d2] }
  | _ => none }
def fnExactAddRatsRow : OpenClaim := { program := "ytgbociejgnifiaa", sum := "e091eab06b571fee2b799e8002207821032e79acee4e8e27ff6fabdc37178296", func := "loop.example/planargeometry/laws.FnExactAddRats", spec := "fnExactAddRats", apart := false }
def FnExactAddRatsSaid : Prop := fnExactAddRatsRow.holds Try.pinned (OpenSpec.ofChange fnExactAddRatsSpec)

/-- ITS FALSE NEIGHBOUR: 'it returns false'. Refute it at one input. -/
def fnExactAddRatsWrong : ChangeSpec := { name := "fnExactAddRats", fn := fun _ => fun
  | [d1, d2] => { results := [.lit (.bool false)], args := [d1, d2] }
  | _ => none }
def FnExactAddRatsWrongFalsely : Prop := fnExactAddRatsRow.holds Try.pinned (OpenSpec.ofChange fnExactAddRatsWrong)

/-- 'laws.FnExactCompareRats': WHATEVER THE INPUT: true; the input reads as it did. -/
def fnExactCompareRatsSpec : ChangeSpec := { name := "fnExactCompareRats", fn := fun _ => fun
  | [d1, d2] => { results := [.lit (.bool true)], args := [d1, d2] }
  | _ => none }
def fnExactCompareRatsRow : OpenClaim := { program := "ytgbociejgnifiaa", sum := "e091eab06b571fee2b799e8002207821032e79acee4e8e27ff6fabdc37178296", func := "loop.example/planargeometry/laws.FnExactCompareRats", spec := "fnExactCompareRats", apart := false }
def FnExactCompareRatsSaid : Prop := fnExactCompareRatsRow.holds Try.pinned (OpenSpec.ofChange fnExactCompareRatsSpec)

/-- ITS FALSE NEIGHBOUR: 'it returns false'. Refute it at one input. -/
def fnExactCompareRatsWrong : ChangeSpec := { name := "fnExactCompareRats", fn := fun _ => fun
  | [d1, d2] => { results := [.lit (.bool false)], args := [d1, d2] }
  | _ => none }
def FnExactCompareRatsWrongFalsely : Prop := fnExactCompareRatsRow.holds Try.pinned (OpenSpec.ofChange fnExactCompareRatsWrong)

/-- 'laws.FnExactLineThrough': WHATEVER THE INPUT: true; the input reads as it did. -/
def fnExactLineThroughSpec : ChangeSpec := { name := "fnExactLineThrough", fn := fun _ => fun
  | [d1, d2] => { results := [.lit (.bool true)], args := [d1, d2] }
  | _ => none }
def fnExactLineThroughRow : OpenClaim := { program := "ytgbociejgnifiaa", sum := "e091eab06b571fee2b799e8002207821032e79acee4e8e27ff6fabdc37178296", func := "loop.example/planargeometry/laws.FnExactLineThrough", spec := "fnExactLineThrough", unfollowed := true, recurses := true, apart := false }
def FnExactLineThroughSaid : Prop := fnExactLineThroughRow.holds Try.pinned (OpenSpec.ofChange fnExactLineThroughSpec)

/-- ITS FALSE NEIGHBOUR: 'it returns false'. Refute it at one input. -/
def fnExactLineThroughWrong : ChangeSpec := { name := "fnExactLineThrough", fn := fun _ => fun
  | [d1, d2] => { results := [.lit (.bool false)], args := [d1, d2] }
  | _ => none }
def FnExactLineThroughWrongFalsely : Prop := fnExactLineThroughRow.holds Try.pinned (OpenSpec.ofChange fnExactLineThroughWrong)

/- THE SECOND FORM. 'bulk': how many values and letters a reading holds, each counted each time it is reached (what is shared counts as often as it is met; a slice's spare places count too). A statement '..UptoSaid' is the law's where the arguments, and the package variables that the reading takes, are together of bulk at most 1048576: NARROWER than '..Said'. Prove '..Said' where nothing that the law and all that it calls make is longer than what came in: it says more and counts as full. Else prove '..UptoSaid'. A law counts once. -/
mutual
def uptoBulk {H : Type} : DataW H → Nat
  | .lit (.string bytes) => bytes.length + 1
  | .lit _ => 1
  | .nil => 1
  | .ptr d => uptoBulk d + 1
  | .slice elems spare => uptoBulkAll elems + uptoBulkAll spare + 1
  | .agg parts => uptoBulkAll parts + 1
  | .iface _ d => uptoBulk d + 1
  | .map entries => uptoBulkEntries entries + 1
  | .held _ => 1
def uptoBulkAll {H : Type} : List (DataW H) → Nat
  | [] => 0
  | d :: r => uptoBulk d + uptoBulkAll r
def uptoBulkEntries {H : Type} : List (Lit × DataW H) → Nat
  | [] => 0
  | x :: r => uptoBulkEntry x + uptoBulkEntries r
def uptoBulkEntry {H : Type} : Lit × DataW H → Nat
  | (.string bytes, d) => bytes.length + uptoBulk d + 1
  | (_, d) => uptoBulk d + 1
 end
def uptoSmall : (H : Type) → List (DataW H) → Bool := fun _ ds => decide (uptoBulkAll ds ≤ 1048576)
def OpenSpec.upto (s : _root_.Go.ChangeSpec) : _root_.Go.OpenSpec := { _root_.Go.OpenSpec.ofChange s with cond := some uptoSmall }

/-- 'laws.FnExactComposeMatrices', WHERE WHAT IT READS IS OF BULK AT MOST 1048576: true; the input reads as it did. -/
def fnExactComposeMatricesUptoRow : OpenClaim := { program := "ytgbociejgnifiaa", sum := "e091eab06b571fee2b799e8002207821032e79acee4e8e27ff6fabdc37178296", func := "loop.example/planargeometry/laws.FnExactComposeMatrices", spec := "fnExactComposeMatrices", apart := false, narrowed := true }
def FnExactComposeMatricesUptoSaid : Prop := fnExactComposeMatricesUptoRow.holds Try.pinned (OpenSpec.upto fnExactComposeMatricesSpec)

/-- 'laws.FnExactFloorRat', WHERE WHAT IT READS IS OF BULK AT MOST 1048576: true; the input reads as it did. -/
def fnExactFloorRatUptoRow : OpenClaim := { program := "ytgbociejgnifiaa", sum := "e091eab06b571fee2b799e8002207821032e79acee4e8e27ff6fabdc37178296", func := "loop.example/planargeometry/laws.FnExactFloorRat", spec := "fnExactFloorRat", apart := false, narrowed := true }
def FnExactFloorRatUptoSaid : Prop := fnExactFloorRatUptoRow.holds Try.pinned (OpenSpec.upto fnExactFloorRatSpec)

/-- 'laws.FnExactOnSegment', WHERE WHAT IT READS IS OF BULK AT MOST 1048576: true; the input reads as it did. -/
def fnExactOnSegmentUptoRow : OpenClaim := { program := "ytgbociejgnifiaa", sum := "e091eab06b571fee2b799e8002207821032e79acee4e8e27ff6fabdc37178296", func := "loop.example/planargeometry/laws.FnExactOnSegment", spec := "fnExactOnSegment", unfollowed := true, recurses := true, apart := false, narrowed := true }
def FnExactOnSegmentUptoSaid : Prop := fnExactOnSegmentUptoRow.holds Try.pinned (OpenSpec.upto fnExactOnSegmentSpec)

/-- 'laws.FnExactInvertMatrix', WHERE WHAT IT READS IS OF BULK AT MOST 1048576: true; the input reads as it did. -/
def fnExactInvertMatrixUptoRow : OpenClaim := { program := "ytgbociejgnifiaa", sum := "e091eab06b571fee2b799e8002207821032e79acee4e8e27ff6fabdc37178296", func := "loop.example/planargeometry/laws.FnExactInvertMatrix", spec := "fnExactInvertMatrix", apart := false, narrowed := true }
def FnExactInvertMatrixUptoSaid : Prop := fnExactInvertMatrixUptoRow.holds Try.pinned (OpenSpec.upto fnExactInvertMatrixSpec)

/-- 'laws.FnExactHeightOver', WHERE WHAT IT READS IS OF BULK AT MOST 1048576: true; the input reads as it did. -/
def fnExactHeightOverUptoRow : OpenClaim := { program := "ytgbociejgnifiaa", sum := "e091eab06b571fee2b799e8002207821032e79acee4e8e27ff6fabdc37178296", func := "loop.example/planargeometry/laws.FnExactHeightOver", spec := "fnExactHeightOver", apart := false, narrowed := true }
def FnExactHeightOverUptoSaid : Prop := fnExactHeightOverUptoRow.holds Try.pinned (OpenSpec.upto fnExactHeightOverSpec)

/-- 'laws.FnExactValidHalves', WHERE WHAT IT READS IS OF BULK AT MOST 1048576: true; the input reads as it did. -/
def fnExactValidHalvesUptoRow : OpenClaim := { program := "ytgbociejgnifiaa", sum := "e091eab06b571fee2b799e8002207821032e79acee4e8e27ff6fabdc37178296", func := "loop.example/planargeometry/laws.FnExactValidHalves", spec := "fnExactValidHalves", unfollowed := true, recurses := true, apart := false, narrowed := true }
def FnExactValidHalvesUptoSaid : Prop := fnExactValidHalvesUptoRow.holds Try.pinned (OpenSpec.upto fnExactValidHalvesSpec)

/-- 'laws.FnExactMakeRat', WHERE WHAT IT READS IS OF BULK AT MOST 1048576: true; the input reads as it did. -/
def fnExactMakeRatUptoRow : OpenClaim := { program := "ytgbociejgnifiaa", sum := "e091eab06b571fee2b799e8002207821032e79acee4e8e27ff6fabdc37178296", func := "loop.example/planargeometry/laws.FnExactMakeRat", spec := "fnExactMakeRat", apart := false, narrowed := true }
def FnExactMakeRatUptoSaid : Prop := fnExactMakeRatUptoRow.holds Try.pinned (OpenSpec.upto fnExactMakeRatSpec)

/-- 'laws.FnExactMeetRects', WHERE WHAT IT READS IS OF BULK AT MOST 1048576: true; the input reads as it did. -/
def fnExactMeetRectsUptoRow : OpenClaim := { program := "ytgbociejgnifiaa", sum := "e091eab06b571fee2b799e8002207821032e79acee4e8e27ff6fabdc37178296", func := "loop.example/planargeometry/laws.FnExactMeetRects", spec := "fnExactMeetRects", unfollowed := true, recurses := true, apart := false, narrowed := true }
def FnExactMeetRectsUptoSaid : Prop := fnExactMeetRectsUptoRow.holds Try.pinned (OpenSpec.upto fnExactMeetRectsSpec)

/-- 'laws.FnExactOrient', WHERE WHAT IT READS IS OF BULK AT MOST 1048576: true; the input reads as it did. -/
def fnExactOrientUptoRow : OpenClaim := { program := "ytgbociejgnifiaa", sum := "e091eab06b571fee2b799e8002207821032e79acee4e8e27ff6fabdc37178296", func := "loop.example/planargeometry/laws.FnExactOrient", spec := "fnExactOrient", unfollowed := true, recurses := true, apart := false, narrowed := true }
def FnExactOrientUptoSaid : Prop := fnExactOrientUptoRow.holds Try.pinned (OpenSpec.upto fnExactOrientSpec)

/-- 'laws.FnExactAddRats', WHERE WHAT IT READS IS OF BULK AT MOST 1048576: true; the input reads as it did. -/
def fnExactAddRatsUptoRow : OpenClaim := { program := "ytgbociejgnifiaa", sum := "e091eab06b571fee2b799e8002207821032e79acee4e8e27ff6fabdc37178296", func := "loop.example/planargeometry/laws.FnExactAddRats", spec := "fnExactAddRats", apart := false, narrowed := true }
def FnExactAddRatsUptoSaid : Prop := fnExactAddRatsUptoRow.holds Try.pinned (OpenSpec.upto fnExactAddRatsSpec)

/-- 'laws.FnExactCompareRats', WHERE WHAT IT READS IS OF BULK AT MOST 1048576: true; the input reads as it did. -/
def fnExactCompareRatsUptoRow : OpenClaim := { program := "ytgbociejgnifiaa", sum := "e091eab06b571fee2b799e8002207821032e79acee4e8e27ff6fabdc37178296", func := "loop.example/planargeometry/laws.FnExactCompareRats", spec := "fnExactCompareRats", apart := false, narrowed := true }
def FnExactCompareRatsUptoSaid : Prop := fnExactCompareRatsUptoRow.holds Try.pinned (OpenSpec.upto fnExactCompareRatsSpec)

/-- 'laws.FnExactLineThrough', WHERE WHAT IT READS IS OF BULK AT MOST 1048576: true; the input reads as it did. -/
def fnExactLineThroughUptoRow : OpenClaim := { program := "ytgbociejgnifiaa", sum := "e091eab06b571fee2b799e8002207821032e79acee4e8e27ff6fabdc37178296", func := "loop.example/planargeometry/laws.FnExactLineThrough", spec := "fnExactLineThrough", unfollowed := true, recurses := true, apart := false, narrowed := true }
def FnExactLineThroughUptoSaid : Prop := fnExactLineThroughUptoRow.holds Try.pinned (OpenSpec.upto fnExactLineThroughSpec)

end Rows
end Go.Proofs.Ytgbociejgnifiaa
