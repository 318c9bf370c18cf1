/-
  No cell of these rows narrows 'for every input' (looked for: loops, veiled, ifaces, maps, wideKeys, modest, calm, conditions, laid).
  DERIVED. THE GIVEN ROWS OF THIS SEAT. 12 by the template 'for every input the law returns true; each argument reads behind the call as it read before'; 0 by the template 'total and deterministic' (their statements: YtkhocfoggjdccaaTotals.lean).
  GIVEN WITH THE SEED: the statements are not yours to turn. If you find one false, say at which input.
  Laid BY PROGRAM, IN A SANDBOX (cutbox-rows.mjs): the forced cells as the released guide's own fill.sh prints them over the translation f7da5d234315d054… (all of the seat's roots in one cut). By AI agents, Wed Nov 11 2026. No macro, syntax, notation, axiom, sorry.
-/
import Derived.Test.YtkhocfoggjdccaaChecked
import GoSem.Claim
import GoSem.ClaimJoined
import GoSem.ClaimMapViews
import Derived.JoinedTies
import Derived.KernelRfl
namespace Go.Proofs.Ytkhocfoggjdccaa
/- THE CELL 'sum', in the pinned program and in every row, IS THE sha256 OF THE DUMP (.gsa) THAT YtkhocfoggjdccaaProg.lean LOADS. Nothing in Lean hashes anything: it is a label: what it is worth is what the hold of that sum in a sandbox is worth. -/
noncomputable def Try.pinned : Pinned := { name := "ytkhocfoggjdccaa", sum := "f7da5d234315d05444d3027c580a5268cbffb06c62e9ac3037e0d49f147bc5ff", checked := Try.checked }
namespace Rows
def none {H : Type} : Left H := { results := [], args := [] }

/-- 'laws.FnCompareRats': WHATEVER THE INPUT: true; the input reads as it did. -/
def fnCompareRatsSpec : ChangeSpec := { name := "fnCompareRats", fn := fun _ => fun
  | [d] => { results := [.lit (.bool true)], args := [d] }
  | _ => none }
def fnCompareRatsRow : OpenClaim := { program := "ytkhocfoggjdccaa", sum := "f7da5d234315d05444d3027c580a5268cbffb06c62e9ac3037e0d49f147bc5ff", func := "loop.example/planargeometry/laws.FnCompareRats", spec := "fnCompareRats", apart := false }
def FnCompareRatsSaid : Prop := fnCompareRatsRow.holds Try.pinned (OpenSpec.ofChange fnCompareRatsSpec)

/-- ITS FALSE NEIGHBOUR: 'it returns false'. Refute it at one input. -/
def fnCompareRatsWrong : ChangeSpec := { name := "fnCompareRats", fn := fun _ => fun
  | [d] => { results := [.lit (.bool false)], args := [d] }
  | _ => none }
def FnCompareRatsWrongFalsely : Prop := fnCompareRatsRow.holds Try.pinned (OpenSpec.ofChange fnCompareRatsWrong)

/-- 'laws.FnMakeRat': WHATEVER THE INPUT: true; the input reads as it did. -/
def fnMakeRatSpec : ChangeSpec := { name := "fnMakeRat", fn := fun _ => fun
  | [d] => { results := [.lit (.bool true)], args := [d] }
  | _ => none }
def fnMakeRatRow : OpenClaim := { program := "ytkhocfoggjdccaa", sum := "f7da5d234315d05444d3027c580a5268cbffb06c62e9ac3037e0d49f147bc5ff", func := "loop.example/planargeometry/laws.FnMakeRat", spec := "fnMakeRat", apart := false }
def FnMakeRatSaid : Prop := fnMakeRatRow.holds Try.pinned (OpenSpec.ofChange fnMakeRatSpec)

/-- ITS FALSE NEIGHBOUR: 'it returns false'. Refute it at one input. -/
def fnMakeRatWrong : ChangeSpec := { name := "fnMakeRat", fn := fun _ => fun
  | [d] => { results := [.lit (.bool false)], args := [d] }
  | _ => none }
def FnMakeRatWrongFalsely : Prop := fnMakeRatRow.holds Try.pinned (OpenSpec.ofChange fnMakeRatWrong)

/-- 'laws.FnFloorRat': WHATEVER THE INPUT: true; the input reads as it did. -/
def fnFloorRatSpec : ChangeSpec := { name := "fnFloorRat", fn := fun _ => fun
  | [d] => { results := [.lit (.bool true)], args := [d] }
  | _ => none }
def fnFloorRatRow : OpenClaim := { program := "ytkhocfoggjdccaa", sum := "f7da5d234315d05444d3027c580a5268cbffb06c62e9ac3037e0d49f147bc5ff", func := "loop.example/planargeometry/laws.FnFloorRat", spec := "fnFloorRat", apart := false }
def FnFloorRatSaid : Prop := fnFloorRatRow.holds Try.pinned (OpenSpec.ofChange fnFloorRatSpec)

/-- ITS FALSE NEIGHBOUR: 'it returns false'. Refute it at one input. -/
def fnFloorRatWrong : ChangeSpec := { name := "fnFloorRat", fn := fun _ => fun
  | [d] => { results := [.lit (.bool false)], args := [d] }
  | _ => none }
def FnFloorRatWrongFalsely : Prop := fnFloorRatRow.holds Try.pinned (OpenSpec.ofChange fnFloorRatWrong)

/-- 'laws.FnSubtractRats': WHATEVER THE INPUT: true; the input reads as it did. -/
def fnSubtractRatsSpec : ChangeSpec := { name := "fnSubtractRats", fn := fun _ => fun
  | [d] => { results := [.lit (.bool true)], args := [d] }
  | _ => none }
def fnSubtractRatsRow : OpenClaim := { program := "ytkhocfoggjdccaa", sum := "f7da5d234315d05444d3027c580a5268cbffb06c62e9ac3037e0d49f147bc5ff", func := "loop.example/planargeometry/laws.FnSubtractRats", spec := "fnSubtractRats", apart := false }
def FnSubtractRatsSaid : Prop := fnSubtractRatsRow.holds Try.pinned (OpenSpec.ofChange fnSubtractRatsSpec)

/-- ITS FALSE NEIGHBOUR: 'it returns false'. Refute it at one input. -/
def fnSubtractRatsWrong : ChangeSpec := { name := "fnSubtractRats", fn := fun _ => fun
  | [d] => { results := [.lit (.bool false)], args := [d] }
  | _ => none }
def FnSubtractRatsWrongFalsely : Prop := fnSubtractRatsRow.holds Try.pinned (OpenSpec.ofChange fnSubtractRatsWrong)

/-- 'laws.FnFloorShift': WHATEVER THE INPUT: true; the input reads as it did. -/
def fnFloorShiftSpec : ChangeSpec := { name := "fnFloorShift", fn := fun _ => fun
  | [d] => { results := [.lit (.bool true)], args := [d] }
  | _ => none }
def fnFloorShiftRow : OpenClaim := { program := "ytkhocfoggjdccaa", sum := "f7da5d234315d05444d3027c580a5268cbffb06c62e9ac3037e0d49f147bc5ff", func := "loop.example/planargeometry/laws.FnFloorShift", spec := "fnFloorShift", apart := false }
def FnFloorShiftSaid : Prop := fnFloorShiftRow.holds Try.pinned (OpenSpec.ofChange fnFloorShiftSpec)

/-- ITS FALSE NEIGHBOUR: 'it returns false'. Refute it at one input. -/
def fnFloorShiftWrong : ChangeSpec := { name := "fnFloorShift", fn := fun _ => fun
  | [d] => { results := [.lit (.bool false)], args := [d] }
  | _ => none }
def FnFloorShiftWrongFalsely : Prop := fnFloorShiftRow.holds Try.pinned (OpenSpec.ofChange fnFloorShiftWrong)

/-- 'laws.FnMulRats': WHATEVER THE INPUT: true; the input reads as it did. -/
def fnMulRatsSpec : ChangeSpec := { name := "fnMulRats", fn := fun _ => fun
  | [d] => { results := [.lit (.bool true)], args := [d] }
  | _ => none }
def fnMulRatsRow : OpenClaim := { program := "ytkhocfoggjdccaa", sum := "f7da5d234315d05444d3027c580a5268cbffb06c62e9ac3037e0d49f147bc5ff", func := "loop.example/planargeometry/laws.FnMulRats", spec := "fnMulRats", apart := false }
def FnMulRatsSaid : Prop := fnMulRatsRow.holds Try.pinned (OpenSpec.ofChange fnMulRatsSpec)

/-- ITS FALSE NEIGHBOUR: 'it returns false'. Refute it at one input. -/
def fnMulRatsWrong : ChangeSpec := { name := "fnMulRats", fn := fun _ => fun
  | [d] => { results := [.lit (.bool false)], args := [d] }
  | _ => none }
def FnMulRatsWrongFalsely : Prop := fnMulRatsRow.holds Try.pinned (OpenSpec.ofChange fnMulRatsWrong)

/-- 'laws.FnComposeOne': WHATEVER THE INPUT: true; the input reads as it did. -/
def fnComposeOneSpec : ChangeSpec := { name := "fnComposeOne", fn := fun _ => fun
  | [d] => { results := [.lit (.bool true)], args := [d] }
  | _ => none }
def fnComposeOneRow : OpenClaim := { program := "ytkhocfoggjdccaa", sum := "f7da5d234315d05444d3027c580a5268cbffb06c62e9ac3037e0d49f147bc5ff", func := "loop.example/planargeometry/laws.FnComposeOne", spec := "fnComposeOne", apart := false }
def FnComposeOneSaid : Prop := fnComposeOneRow.holds Try.pinned (OpenSpec.ofChange fnComposeOneSpec)

/-- ITS FALSE NEIGHBOUR: 'it returns false'. Refute it at one input. -/
def fnComposeOneWrong : ChangeSpec := { name := "fnComposeOne", fn := fun _ => fun
  | [d] => { results := [.lit (.bool false)], args := [d] }
  | _ => none }
def FnComposeOneWrongFalsely : Prop := fnComposeOneRow.holds Try.pinned (OpenSpec.ofChange fnComposeOneWrong)

/-- 'laws.FnDeterminant': WHATEVER THE INPUT: true; the input reads as it did. -/
def fnDeterminantSpec : ChangeSpec := { name := "fnDeterminant", fn := fun _ => fun
  | [d] => { results := [.lit (.bool true)], args := [d] }
  | _ => none }
def fnDeterminantRow : OpenClaim := { program := "ytkhocfoggjdccaa", sum := "f7da5d234315d05444d3027c580a5268cbffb06c62e9ac3037e0d49f147bc5ff", func := "loop.example/planargeometry/laws.FnDeterminant", spec := "fnDeterminant", apart := false }
def FnDeterminantSaid : Prop := fnDeterminantRow.holds Try.pinned (OpenSpec.ofChange fnDeterminantSpec)

/-- ITS FALSE NEIGHBOUR: 'it returns false'. Refute it at one input. -/
def fnDeterminantWrong : ChangeSpec := { name := "fnDeterminant", fn := fun _ => fun
  | [d] => { results := [.lit (.bool false)], args := [d] }
  | _ => none }
def FnDeterminantWrongFalsely : Prop := fnDeterminantRow.holds Try.pinned (OpenSpec.ofChange fnDeterminantWrong)

/-- 'laws.FnInvertMatrix': WHATEVER THE INPUT: true; the input reads as it did. -/
def fnInvertMatrixSpec : ChangeSpec := { name := "fnInvertMatrix", fn := fun _ => fun
  | [d] => { results := [.lit (.bool true)], args := [d] }
  | _ => none }
def fnInvertMatrixRow : OpenClaim := { program := "ytkhocfoggjdccaa", sum := "f7da5d234315d05444d3027c580a5268cbffb06c62e9ac3037e0d49f147bc5ff", func := "loop.example/planargeometry/laws.FnInvertMatrix", spec := "fnInvertMatrix", apart := false }
def FnInvertMatrixSaid : Prop := fnInvertMatrixRow.holds Try.pinned (OpenSpec.ofChange fnInvertMatrixSpec)

/-- ITS FALSE NEIGHBOUR: 'it returns false'. Refute it at one input. -/
def fnInvertMatrixWrong : ChangeSpec := { name := "fnInvertMatrix", fn := fun _ => fun
  | [d] => { results := [.lit (.bool false)], args := [d] }
  | _ => none }
def FnInvertMatrixWrongFalsely : Prop := fnInvertMatrixRow.holds Try.pinned (OpenSpec.ofChange fnInvertMatrixWrong)

/-- 'laws.FnComposeMatrices': WHATEVER THE INPUT: true; the input reads as it did. -/
def fnComposeMatricesSpec : ChangeSpec := { name := "fnComposeMatrices", fn := fun _ => fun
  | [d1, d2] => { results := [.lit (.bool true)], args := [d1, d2] }
  | _ => none }
def fnComposeMatricesRow : OpenClaim := { program := "ytkhocfoggjdccaa", sum := "f7da5d234315d05444d3027c580a5268cbffb06c62e9ac3037e0d49f147bc5ff", func := "loop.example/planargeometry/laws.FnComposeMatrices", spec := "fnComposeMatrices", unfollowed := true, recurses := true, apart := false }
def FnComposeMatricesSaid : Prop := fnComposeMatricesRow.holds Try.pinned (OpenSpec.ofChange fnComposeMatricesSpec)

/-- ITS FALSE NEIGHBOUR: 'it returns false'. Refute it at one input. -/
def fnComposeMatricesWrong : ChangeSpec := { name := "fnComposeMatrices", fn := fun _ => fun
  | [d1, d2] => { results := [.lit (.bool false)], args := [d1, d2] }
  | _ => none }
def FnComposeMatricesWrongFalsely : Prop := fnComposeMatricesRow.holds Try.pinned (OpenSpec.ofChange fnComposeMatricesWrong)

/-- 'laws.FnExactCompareToSegment': WHATEVER THE INPUT: true; the input reads as it did. -/
def fnExactCompareToSegmentSpec : ChangeSpec := { name := "fnExactCompareToSegment", fn := fun _ => fun
  | [d1, d2, d3] => { results := [.lit (.bool true)], args := [d1, d2, d3] }
  | _ => none }
def fnExactCompareToSegmentRow : OpenClaim := { program := "ytkhocfoggjdccaa", sum := "f7da5d234315d05444d3027c580a5268cbffb06c62e9ac3037e0d49f147bc5ff", func := "loop.example/planargeometry/laws.FnExactCompareToSegment", spec := "fnExactCompareToSegment", unfollowed := true, recurses := true, apart := false }
def FnExactCompareToSegmentSaid : Prop := fnExactCompareToSegmentRow.holds Try.pinned (OpenSpec.ofChange fnExactCompareToSegmentSpec)

/-- ITS FALSE NEIGHBOUR: 'it returns false'. Refute it at one input. -/
def fnExactCompareToSegmentWrong : ChangeSpec := { name := "fnExactCompareToSegment", fn := fun _ => fun
  | [d1, d2, d3] => { results := [.lit (.bool false)], args := [d1, d2, d3] }
  | _ => none }
def FnExactCompareToSegmentWrongFalsely : Prop := fnExactCompareToSegmentRow.holds Try.pinned (OpenSpec.ofChange fnExactCompareToSegmentWrong)

/-- 'laws.FnExactSideOfRat': WHATEVER THE INPUT: true; the input reads as it did. -/
def fnExactSideOfRatSpec : ChangeSpec := { name := "fnExactSideOfRat", fn := fun _ => fun
  | [d1, d2] => { results := [.lit (.bool true)], args := [d1, d2] }
  | _ => none }
def fnExactSideOfRatRow : OpenClaim := { program := "ytkhocfoggjdccaa", sum := "f7da5d234315d05444d3027c580a5268cbffb06c62e9ac3037e0d49f147bc5ff", func := "loop.example/planargeometry/laws.FnExactSideOfRat", spec := "fnExactSideOfRat", apart := false }
def FnExactSideOfRatSaid : Prop := fnExactSideOfRatRow.holds Try.pinned (OpenSpec.ofChange fnExactSideOfRatSpec)

/-- ITS FALSE NEIGHBOUR: 'it returns false'. Refute it at one input. -/
def fnExactSideOfRatWrong : ChangeSpec := { name := "fnExactSideOfRat", fn := fun _ => fun
  | [d1, d2] => { results := [.lit (.bool false)], args := [d1, d2] }
  | _ => none }
def FnExactSideOfRatWrongFalsely : Prop := fnExactSideOfRatRow.holds Try.pinned (OpenSpec.ofChange fnExactSideOfRatWrong)

/- THE SECOND FORM. 'bulk': how many values and letters a reading holds, each counted each time it is reached (what is shared counts as often as it is met; a slice's spare places count too). A statement '..UptoSaid' is the law's where the arguments, and the package variables that the reading takes, are together of bulk at most 1048576: NARROWER than '..Said'. Prove '..Said' where nothing that the law and all that it calls make is longer than what came in: it says more and counts as full. Else prove '..UptoSaid'. A law counts once. -/
mutual
def uptoBulk {H : Type} : DataW H → Nat
  | .lit (.string bytes) => bytes.length + 1
  | .lit _ => 1
  | .nil => 1
  | .ptr d => uptoBulk d + 1
  | .slice elems spare => uptoBulkAll elems + uptoBulkAll spare + 1
  | .agg parts => uptoBulkAll parts + 1
  | .iface _ d => uptoBulk d + 1
  | .map entries => uptoBulkEntries entries + 1
  | .held _ => 1
def uptoBulkAll {H : Type} : List (DataW H) → Nat
  | [] => 0
  | d :: r => uptoBulk d + uptoBulkAll r
def uptoBulkEntries {H : Type} : List (Lit × DataW H) → Nat
  | [] => 0
  | x :: r => uptoBulkEntry x + uptoBulkEntries r
def uptoBulkEntry {H : Type} : Lit × DataW H → Nat
  | (.string bytes, d) => bytes.length + uptoBulk d + 1
  | (_, d) => uptoBulk d + 1
 end
def uptoSmall : (H : Type) → List (DataW H) → Bool := fun _ ds => decide (uptoBulkAll ds ≤ 1048576)
def OpenSpec.upto (s : _root_.Go.ChangeSpec) : _root_.Go.OpenSpec := { _root_.Go.OpenSpec.ofChange s with cond := some uptoSmall }

/-- 'laws.FnCompareRats', WHERE WHAT IT READS IS OF BULK AT MOST 1048576: true; the input reads as it did. -/
def fnCompareRatsUptoRow : OpenClaim := { program := "ytkhocfoggjdccaa", sum := "f7da5d234315d05444d3027c580a5268cbffb06c62e9ac3037e0d49f147bc5ff", func := "loop.example/planargeometry/laws.FnCompareRats", spec := "fnCompareRats", apart := false, narrowed := true }
def FnCompareRatsUptoSaid : Prop := fnCompareRatsUptoRow.holds Try.pinned (OpenSpec.upto fnCompareRatsSpec)

/-- 'laws.FnMakeRat', WHERE WHAT IT READS IS OF BULK AT MOST 1048576: true; the input reads as it did. -/
def fnMakeRatUptoRow : OpenClaim := { program := "ytkhocfoggjdccaa", sum := "f7da5d234315d05444d3027c580a5268cbffb06c62e9ac3037e0d49f147bc5ff", func := "loop.example/planargeometry/laws.FnMakeRat", spec := "fnMakeRat", apart := false, narrowed := true }
def FnMakeRatUptoSaid : Prop := fnMakeRatUptoRow.holds Try.pinned (OpenSpec.upto fnMakeRatSpec)

/-- 'laws.FnFloorRat', WHERE WHAT IT READS IS OF BULK AT MOST 1048576: true; the input reads as it did. -/
def fnFloorRatUptoRow : OpenClaim := { program := "ytkhocfoggjdccaa", sum := "f7da5d234315d05444d3027c580a5268cbffb06c62e9ac3037e0d49f147bc5ff", func := "loop.example/planargeometry/laws.FnFloorRat", spec := "fnFloorRat", apart := false, narrowed := true }
def FnFloorRatUptoSaid : Prop := fnFloorRatUptoRow.holds Try.pinned (OpenSpec.upto fnFloorRatSpec)

/-- 'laws.FnSubtractRats', WHERE WHAT IT READS IS OF BULK AT MOST 1048576: true; the input reads as it did. -/
def fnSubtractRatsUptoRow : OpenClaim := { program := "ytkhocfoggjdccaa", sum := "f7da5d234315d05444d3027c580a5268cbffb06c62e9ac3037e0d49f147bc5ff", func := "loop.example/planargeometry/laws.FnSubtractRats", spec := "fnSubtractRats", apart := false, narrowed := true }
def FnSubtractRatsUptoSaid : Prop := fnSubtractRatsUptoRow.holds Try.pinned (OpenSpec.upto fnSubtractRatsSpec)

/-- 'laws.FnFloorShift', WHERE WHAT IT READS IS OF BULK AT MOST 1048576: true; the input reads as it did. -/
def fnFloorShiftUptoRow : OpenClaim := { program := "ytkhocfoggjdccaa", sum := "f7da5d234315d05444d3027c580a5268cbffb06c62e9ac3037e0d49f147bc5ff", func := "loop.example/planargeometry/laws.FnFloorShift", spec := "fnFloorShift", apart := false, narrowed := true }
def FnFloorShiftUptoSaid : Prop := fnFloorShiftUptoRow.holds Try.pinned (OpenSpec.upto fnFloorShiftSpec)

/-- 'laws.FnMulRats', WHERE WHAT IT READS IS OF BULK AT MOST 1048576: true; the input reads as it did. -/
def fnMulRatsUptoRow : OpenClaim := { program := "ytkhocfoggjdccaa", sum := "f7da5d234315d05444d3027c580a5268cbffb06c62e9ac3037e0d49f147bc5ff", func := "loop.example/planargeometry/laws.FnMulRats", spec := "fnMulRats", apart := false, narrowed := true }
def FnMulRatsUptoSaid : Prop := fnMulRatsUptoRow.holds Try.pinned (OpenSpec.upto fnMulRatsSpec)

/-- 'laws.FnComposeOne', WHERE WHAT IT READS IS OF BULK AT MOST 1048576: true; the input reads as it did. -/
def fnComposeOneUptoRow : OpenClaim := { program := "ytkhocfoggjdccaa", sum := "f7da5d234315d05444d3027c580a5268cbffb06c62e9ac3037e0d49f147bc5ff", func := "loop.example/planargeometry/laws.FnComposeOne", spec := "fnComposeOne", apart := false, narrowed := true }
def FnComposeOneUptoSaid : Prop := fnComposeOneUptoRow.holds Try.pinned (OpenSpec.upto fnComposeOneSpec)

/-- 'laws.FnDeterminant', WHERE WHAT IT READS IS OF BULK AT MOST 1048576: true; the input reads as it did. -/
def fnDeterminantUptoRow : OpenClaim := { program := "ytkhocfoggjdccaa", sum := "f7da5d234315d05444d3027c580a5268cbffb06c62e9ac3037e0d49f147bc5ff", func := "loop.example/planargeometry/laws.FnDeterminant", spec := "fnDeterminant", apart := false, narrowed := true }
def FnDeterminantUptoSaid : Prop := fnDeterminantUptoRow.holds Try.pinned (OpenSpec.upto fnDeterminantSpec)

/-- 'laws.FnInvertMatrix', WHERE WHAT IT READS IS OF BULK AT MOST 1048576: true; the input reads as it did. -/
def fnInvertMatrixUptoRow : OpenClaim := { program := "ytkhocfoggjdccaa", sum := "f7da5d234315d05444d3027c580a5268cbffb06c62e9ac3037e0d49f147bc5ff", func := "loop.example/planargeometry/laws.FnInvertMatrix", spec := "fnInvertMatrix", apart := false, narrowed := true }
def FnInvertMatrixUptoSaid : Prop := fnInvertMatrixUptoRow.holds Try.pinned (OpenSpec.upto fnInvertMatrixSpec)

/-- 'laws.FnComposeMatrices', WHERE WHAT IT READS IS OF BULK AT MOST 1048576: true; the input reads as it did. -/
def fnComposeMatricesUptoRow : OpenClaim := { program := "ytkhocfoggjdccaa", sum := "f7da5d234315d05444d3027c580a5268cbffb06c62e9ac3037e0d49f147bc5ff", func := "loop.example/planargeometry/laws.FnComposeMatrices", spec := "fnComposeMatrices", unfollowed := true, recurses := true, apart := false, narrowed := true }
def FnComposeMatricesUptoSaid : Prop := fnComposeMatricesUptoRow.holds Try.pinned (OpenSpec.upto fnComposeMatricesSpec)

/-- 'laws.FnExactCompareToSegment', WHERE WHAT IT READS IS OF BULK AT MOST 1048576: true; the input reads as it did. -/
def fnExactCompareToSegmentUptoRow : OpenClaim := { program := "ytkhocfoggjdccaa", sum := "f7da5d234315d05444d3027c580a5268cbffb06c62e9ac3037e0d49f147bc5ff", func := "loop.example/planargeometry/laws.FnExactCompareToSegment", spec := "fnExactCompareToSegment", unfollowed := true, recurses := true, apart := false, narrowed := true }
def FnExactCompareToSegmentUptoSaid : Prop := fnExactCompareToSegmentUptoRow.holds Try.pinned (OpenSpec.upto fnExactCompareToSegmentSpec)

/-- 'laws.FnExactSideOfRat', WHERE WHAT IT READS IS OF BULK AT MOST 1048576: true; the input reads as it did. -/
def fnExactSideOfRatUptoRow : OpenClaim := { program := "ytkhocfoggjdccaa", sum := "f7da5d234315d05444d3027c580a5268cbffb06c62e9ac3037e0d49f147bc5ff", func := "loop.example/planargeometry/laws.FnExactSideOfRat", spec := "fnExactSideOfRat", apart := false, narrowed := true }
def FnExactSideOfRatUptoSaid : Prop := fnExactSideOfRatUptoRow.holds Try.pinned (OpenSpec.upto fnExactSideOfRatSpec)

end Rows
end Go.Proofs.Ytkhocfoggjdccaa
